/-
  What functions answer. Printed by a program.
-/
import Derived.Test.YtohhkgieggfpeaaS4
set_option linter.unusedVariables false
set_option maxRecDepth 100000
set_option maxHeartbeats 4000000
namespace Go.Proofs.Ytohhkgieggfpeaa
open Go Go.Rf
def v3_0 (x0_0 : Nat) (x0_1 : Nat) (x0_2 : Nat) (x0_3 : Nat) (x1_0 : Nat) (x1_1 : Nat) (x1_2 : Nat) (x1_3 : Nat) : Bool := (br (bnot (beqB (v11_0 x0_0 x0_1 x0_2 x0_3 x1_0 x1_1 x1_2 x1_3) (v9_0 x0_0 x0_1 x0_2 x0_3 x1_0 x1_1 x1_2 x1_3))) Bool.false Bool.true)
def p3 (x0_0 : Nat) (x0_1 : Nat) (x0_2 : Nat) (x0_3 : Nat) (x1_0 : Nat) (x1_1 : Nat) (x1_2 : Nat) (x1_3 : Nat) : Bool := (and (p9 x0_0 x0_1 x0_2 x0_3 x1_0 x1_1 x1_2 x1_3) (p11 x0_0 x0_1 x0_2 x0_3 x1_0 x1_1 x1_2 x1_3))
def s3 : List PT → Option (Bool × AV × List Blk)
  | [.agg [.s (.flt .f32 x0_0), .s (.flt .f32 x0_1), .s (.flt .f32 x0_2), .s (.flt .f32 x0_3)], .agg [.s (.flt .f32 x1_0), .s (.flt .f32 x1_1), .s (.flt .f32 x1_2), .s (.flt .f32 x1_3)]] => some ((p3 x0_0 x0_1 x0_2 x0_3 x1_0 x1_1 x1_2 x1_3), ((AV.v (TV.one (At.bool (v3_0 x0_0 x0_1 x0_2 x0_3 x1_0 x1_1 x1_2 x1_3)))), []))
  | _ => none
theorem t3 (c0 : Bool) (c1 : Bool) (c2 : Bool)  : ((grd c0 (grd c1 (br c2 (Option.some ((AV.v (TV.one (At.bool Bool.false))), [])) (Option.some ((AV.v (TV.one (At.bool Bool.true))), []))))) : Option (AV × List Blk)) = grd (and c0 c1) (some ((AV.v (TV.one (At.bool (br c2 Bool.false Bool.true)))), [])) := by
  cases c0
  · rfl
  ·
    cases c1
    · rfl
    ·
      cases c2
      ·
        rfl
      ·
        rfl

theorem e3 (x0_0 : Nat) (x0_1 : Nat) (x0_2 : Nat) (x0_3 : Nat) (x1_0 : Nat) (x1_1 : Nat) (x1_2 : Nat) (x1_3 : Nat) : evFn Γ4 4 6 3 (impTs 0 [.agg [.s (.flt .f32 x0_0), .s (.flt .f32 x0_1), .s (.flt .f32 x0_2), .s (.flt .f32 x0_3)], .agg [.s (.flt .f32 x1_0), .s (.flt .f32 x1_1), .s (.flt .f32 x1_2), .s (.flt .f32 x1_3)]]).1 (impTs 0 [.agg [.s (.flt .f32 x0_0), .s (.flt .f32 x0_1), .s (.flt .f32 x0_2), .s (.flt .f32 x0_3)], .agg [.s (.flt .f32 x1_0), .s (.flt .f32 x1_1), .s (.flt .f32 x1_2), .s (.flt .f32 x1_3)]]).2 (expo (impTs 0 [.agg [.s (.flt .f32 x0_0), .s (.flt .f32 x0_1), .s (.flt .f32 x0_2), .s (.flt .f32 x0_3)], .agg [.s (.flt .f32 x1_0), .s (.flt .f32 x1_1), .s (.flt .f32 x1_2), .s (.flt .f32 x1_3)]]).2.length) = grd (p3 x0_0 x0_1 x0_2 x0_3 x1_0 x1_1 x1_2 x1_3) (some ((AV.v (TV.one (At.bool (v3_0 x0_0 x0_1 x0_2 x0_3 x1_0 x1_1 x1_2 x1_3)))), [])) := Eq.trans (b := (grd (p9 x0_0 x0_1 x0_2 x0_3 x1_0 x1_1 x1_2 x1_3) (grd (p11 x0_0 x0_1 x0_2 x0_3 x1_0 x1_1 x1_2 x1_3) (br (bnot (beqB (v11_0 x0_0 x0_1 x0_2 x0_3 x1_0 x1_1 x1_2 x1_3) (v9_0 x0_0 x0_1 x0_2 x0_3 x1_0 x1_1 x1_2 x1_3))) (Option.some ((AV.v (TV.one (At.bool Bool.false))), [])) (Option.some ((AV.v (TV.one (At.bool Bool.true))), [])))))) (by kernel_rfl) (t3 (p9 x0_0 x0_1 x0_2 x0_3 x1_0 x1_1 x1_2 x1_3) (p11 x0_0 x0_1 x0_2 x0_3 x1_0 x1_1 x1_2 x1_3) (bnot (beqB (v11_0 x0_0 x0_1 x0_2 x0_3 x1_0 x1_1 x1_2 x1_3) (v9_0 x0_0 x0_1 x0_2 x0_3 x1_0 x1_1 x1_2 x1_3))) )
theorem s3_ok : SumOne Try.prog 3 s3 := sum_of (Γ := Γ4) (fuel := 4) (d := 6) tyTab_ok (FnL.ok fnTab_ok _) (SumL.ok tb4_ok) mixed (by
  intro pts v news hp hc
  clear hc
  unfold s3 at hp
  split at hp
  · rename_i x0_0 x0_1 x0_2 x0_3 x1_0 x1_1 x1_2 x1_3
    exact Eq.trans (e3 x0_0 x0_1 x0_2 x0_3 x1_0 x1_1 x1_2 x1_3) (fin_eq hp)
  · cases hp)
def tb5 : List (Nat × (List PT → Option (Bool × AV × List Blk))) := [(52, s52), (54, s54), (10, s10), (43, s43), (51, s51), (27, s27), (42, s42), (11, s11), (26, s26), (9, s9), (3, s3)]
noncomputable def Γ5 : Ctx := ⟨tyTab, fnTab, tblSum tb5⟩
theorem tb5_ok : SumL Try.prog tb5 := SumL.cons s52_ok (SumL.cons s54_ok (SumL.cons s10_ok (SumL.cons s43_ok (SumL.cons s51_ok (SumL.cons s27_ok (SumL.cons s42_ok (SumL.cons s11_ok (SumL.cons s26_ok (SumL.cons s9_ok (SumL.cons s3_ok (SumL.nil)))))))))))
end Go.Proofs.Ytohhkgieggfpeaa
