/-
  What functions answer. Printed by a program.
-/
import Derived.Test.YtohhkgieggfpeaaS3
set_option linter.unusedVariables false
set_option maxRecDepth 100000
set_option maxHeartbeats 4000000
namespace Go.Proofs.Ytohhkgieggfpeaa
open Go Go.Rf
def v9_0 (x0_0 : Nat) (x0_1 : Nat) (x0_2 : Nat) (x0_3 : Nat) (x1_0 : Nat) (x1_1 : Nat) (x1_2 : Nat) (x1_3 : Nat) : Bool := (v26_0 x0_0 x0_1 x0_2 x0_3 x1_0 x1_1 x1_2 x1_3)
def p9 (x0_0 : Nat) (x0_1 : Nat) (x0_2 : Nat) (x0_3 : Nat) (x1_0 : Nat) (x1_1 : Nat) (x1_2 : Nat) (x1_3 : Nat) : Bool := (p26 x0_0 x0_1 x0_2 x0_3 x1_0 x1_1 x1_2 x1_3)
def s9 : List PT → Option (Bool × AV × List Blk)
  | [.agg [.s (.flt .f32 x0_0), .s (.flt .f32 x0_1), .s (.flt .f32 x0_2), .s (.flt .f32 x0_3)], .agg [.s (.flt .f32 x1_0), .s (.flt .f32 x1_1), .s (.flt .f32 x1_2), .s (.flt .f32 x1_3)]] => some ((p9 x0_0 x0_1 x0_2 x0_3 x1_0 x1_1 x1_2 x1_3), ((AV.v (TV.one (At.bool (v9_0 x0_0 x0_1 x0_2 x0_3 x1_0 x1_1 x1_2 x1_3)))), []))
  | _ => none
theorem t9 (c0 : Bool) (y0 : Bool) : ((grd c0 (Option.some ((AV.v (TV.one (At.bool y0))), []))) : Option (AV × List Blk)) = grd c0 (some ((AV.v (TV.one (At.bool y0))), [])) := by
  cases c0
  · rfl
  ·
    rfl

theorem e9 (x0_0 : Nat) (x0_1 : Nat) (x0_2 : Nat) (x0_3 : Nat) (x1_0 : Nat) (x1_1 : Nat) (x1_2 : Nat) (x1_3 : Nat) : evFn Γ3 4 6 9 (impTs 0 [.agg [.s (.flt .f32 x0_0), .s (.flt .f32 x0_1), .s (.flt .f32 x0_2), .s (.flt .f32 x0_3)], .agg [.s (.flt .f32 x1_0), .s (.flt .f32 x1_1), .s (.flt .f32 x1_2), .s (.flt .f32 x1_3)]]).1 (impTs 0 [.agg [.s (.flt .f32 x0_0), .s (.flt .f32 x0_1), .s (.flt .f32 x0_2), .s (.flt .f32 x0_3)], .agg [.s (.flt .f32 x1_0), .s (.flt .f32 x1_1), .s (.flt .f32 x1_2), .s (.flt .f32 x1_3)]]).2 (expo (impTs 0 [.agg [.s (.flt .f32 x0_0), .s (.flt .f32 x0_1), .s (.flt .f32 x0_2), .s (.flt .f32 x0_3)], .agg [.s (.flt .f32 x1_0), .s (.flt .f32 x1_1), .s (.flt .f32 x1_2), .s (.flt .f32 x1_3)]]).2.length) = grd (p9 x0_0 x0_1 x0_2 x0_3 x1_0 x1_1 x1_2 x1_3) (some ((AV.v (TV.one (At.bool (v9_0 x0_0 x0_1 x0_2 x0_3 x1_0 x1_1 x1_2 x1_3)))), [])) := Eq.trans (b := (grd (p26 x0_0 x0_1 x0_2 x0_3 x1_0 x1_1 x1_2 x1_3) (Option.some ((AV.v (TV.one (At.bool (v26_0 x0_0 x0_1 x0_2 x0_3 x1_0 x1_1 x1_2 x1_3)))), [])))) (by kernel_rfl) (t9 (p26 x0_0 x0_1 x0_2 x0_3 x1_0 x1_1 x1_2 x1_3) (v26_0 x0_0 x0_1 x0_2 x0_3 x1_0 x1_1 x1_2 x1_3))
theorem s9_ok : SumOne Try.prog 9 s9 := sum_of (Γ := Γ3) (fuel := 4) (d := 6) tyTab_ok (FnL.ok fnTab_ok _) (SumL.ok tb3_ok) mixed (by
  intro pts v news hp hc
  clear hc
  unfold s9 at hp
  split at hp
  · rename_i x0_0 x0_1 x0_2 x0_3 x1_0 x1_1 x1_2 x1_3
    exact Eq.trans (e9 x0_0 x0_1 x0_2 x0_3 x1_0 x1_1 x1_2 x1_3) (fin_eq hp)
  · cases hp)
def tb4 : List (Nat × (List PT → Option (Bool × AV × List Blk))) := [(52, s52), (54, s54), (10, s10), (43, s43), (51, s51), (27, s27), (42, s42), (11, s11), (26, s26), (9, s9)]
noncomputable def Γ4 : Ctx := ⟨tyTab, fnTab, tblSum tb4⟩
theorem tb4_ok : SumL Try.prog tb4 := SumL.cons s52_ok (SumL.cons s54_ok (SumL.cons s10_ok (SumL.cons s43_ok (SumL.cons s51_ok (SumL.cons s27_ok (SumL.cons s42_ok (SumL.cons s11_ok (SumL.cons s26_ok (SumL.cons s9_ok (SumL.nil))))))))))
end Go.Proofs.Ytohhkgieggfpeaa
