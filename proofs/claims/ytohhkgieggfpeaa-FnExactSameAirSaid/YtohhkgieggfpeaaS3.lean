/-
  What functions answer. Printed by a program.
-/
import Derived.Test.YtohhkgieggfpeaaS2
set_option linter.unusedVariables false
set_option maxRecDepth 100000
set_option maxHeartbeats 4000000
namespace Go.Proofs.Ytohhkgieggfpeaa
open Go Go.Rf
def v11_0 (x0_0 : Nat) (x0_1 : Nat) (x0_2 : Nat) (x0_3 : Nat) (x1_0 : Nat) (x1_1 : Nat) (x1_2 : Nat) (x1_3 : Nat) : Bool := (br (v27_0 x0_0 x1_0) (br (v27_0 x0_1 x1_1) (br (v27_0 x0_2 x1_2) (v27_0 x0_3 x1_3) Bool.false) Bool.false) Bool.false)
def p11 (x0_0 : Nat) (x0_1 : Nat) (x0_2 : Nat) (x0_3 : Nat) (x1_0 : Nat) (x1_1 : Nat) (x1_2 : Nat) (x1_3 : Nat) : Bool := (and (p27 x0_0 x1_0) (br (v27_0 x0_0 x1_0) (and (p27 x0_1 x1_1) (br (v27_0 x0_1 x1_1) (and (p27 x0_2 x1_2) (br (v27_0 x0_2 x1_2) (p27 x0_3 x1_3) true)) true)) true))
def s11 : List PT → Option (Bool × AV × List Blk)
  | [.agg [.s (.flt .f32 x0_0), .s (.flt .f32 x0_1), .s (.flt .f32 x0_2), .s (.flt .f32 x0_3)], .agg [.s (.flt .f32 x1_0), .s (.flt .f32 x1_1), .s (.flt .f32 x1_2), .s (.flt .f32 x1_3)]] => some ((p11 x0_0 x0_1 x0_2 x0_3 x1_0 x1_1 x1_2 x1_3), ((AV.v (TV.one (At.bool (v11_0 x0_0 x0_1 x0_2 x0_3 x1_0 x1_1 x1_2 x1_3)))), []))
  | _ => none
theorem t11 (c0 : Bool) (c1 : Bool) (c2 : Bool) (c3 : Bool) (c4 : Bool) (c5 : Bool) (c6 : Bool) (y0 : Bool) : ((grd c0 (br c1 (grd c2 (br c3 (grd c4 (br c5 (grd c6 (Option.some ((AV.v (TV.one (At.bool y0))), []))) (Option.some ((AV.v (TV.one (At.bool Bool.false))), [])))) (Option.some ((AV.v (TV.one (At.bool Bool.false))), [])))) (Option.some ((AV.v (TV.one (At.bool Bool.false))), [])))) : Option (AV × List Blk)) = grd (and c0 (br c1 (and c2 (br c3 (and c4 (br c5 c6 true)) true)) true)) (some ((AV.v (TV.one (At.bool (br c1 (br c3 (br c5 y0 Bool.false) Bool.false) Bool.false)))), [])) := by
  cases c0
  · rfl
  ·
    cases c1
    ·
      rfl
    ·
      cases c2
      · rfl
      ·
        cases c3
        ·
          rfl
        ·
          cases c4
          · rfl
          ·
            cases c5
            ·
              rfl
            ·
              cases c6
              · rfl
              ·
                rfl

theorem e11 (x0_0 : Nat) (x0_1 : Nat) (x0_2 : Nat) (x0_3 : Nat) (x1_0 : Nat) (x1_1 : Nat) (x1_2 : Nat) (x1_3 : Nat) : evFn Γ2 4 6 11 (impTs 0 [.agg [.s (.flt .f32 x0_0), .s (.flt .f32 x0_1), .s (.flt .f32 x0_2), .s (.flt .f32 x0_3)], .agg [.s (.flt .f32 x1_0), .s (.flt .f32 x1_1), .s (.flt .f32 x1_2), .s (.flt .f32 x1_3)]]).1 (impTs 0 [.agg [.s (.flt .f32 x0_0), .s (.flt .f32 x0_1), .s (.flt .f32 x0_2), .s (.flt .f32 x0_3)], .agg [.s (.flt .f32 x1_0), .s (.flt .f32 x1_1), .s (.flt .f32 x1_2), .s (.flt .f32 x1_3)]]).2 (expo (impTs 0 [.agg [.s (.flt .f32 x0_0), .s (.flt .f32 x0_1), .s (.flt .f32 x0_2), .s (.flt .f32 x0_3)], .agg [.s (.flt .f32 x1_0), .s (.flt .f32 x1_1), .s (.flt .f32 x1_2), .s (.flt .f32 x1_3)]]).2.length) = grd (p11 x0_0 x0_1 x0_2 x0_3 x1_0 x1_1 x1_2 x1_3) (some ((AV.v (TV.one (At.bool (v11_0 x0_0 x0_1 x0_2 x0_3 x1_0 x1_1 x1_2 x1_3)))), [])) := Eq.trans (b := (grd (p27 x0_0 x1_0) (br (v27_0 x0_0 x1_0) (grd (p27 x0_1 x1_1) (br (v27_0 x0_1 x1_1) (grd (p27 x0_2 x1_2) (br (v27_0 x0_2 x1_2) (grd (p27 x0_3 x1_3) (Option.some ((AV.v (TV.one (At.bool (v27_0 x0_3 x1_3)))), []))) (Option.some ((AV.v (TV.one (At.bool Bool.false))), [])))) (Option.some ((AV.v (TV.one (At.bool Bool.false))), [])))) (Option.some ((AV.v (TV.one (At.bool Bool.false))), []))))) (by kernel_rfl) (t11 (p27 x0_0 x1_0) (v27_0 x0_0 x1_0) (p27 x0_1 x1_1) (v27_0 x0_1 x1_1) (p27 x0_2 x1_2) (v27_0 x0_2 x1_2) (p27 x0_3 x1_3) (v27_0 x0_3 x1_3))
theorem s11_ok : SumOne Try.prog 11 s11 := sum_of (Γ := Γ2) (fuel := 4) (d := 6) tyTab_ok (FnL.ok fnTab_ok _) (SumL.ok tb2_ok) mixed (by
  intro pts v news hp hc
  clear hc
  unfold s11 at hp
  split at hp
  · rename_i x0_0 x0_1 x0_2 x0_3 x1_0 x1_1 x1_2 x1_3
    exact Eq.trans (e11 x0_0 x0_1 x0_2 x0_3 x1_0 x1_1 x1_2 x1_3) (fin_eq hp)
  · cases hp)
def v26_0 (x0_0 : Nat) (x0_1 : Nat) (x0_2 : Nat) (x0_3 : Nat) (x1_0 : Nat) (x1_1 : Nat) (x1_2 : Nat) (x1_3 : Nat) : Bool := (br (v42_0 x0_0 x1_0) (br (v42_0 x0_1 x1_1) (br (v42_0 x0_2 x1_2) (v42_0 x0_3 x1_3) Bool.false) Bool.false) Bool.false)
def p26 (x0_0 : Nat) (x0_1 : Nat) (x0_2 : Nat) (x0_3 : Nat) (x1_0 : Nat) (x1_1 : Nat) (x1_2 : Nat) (x1_3 : Nat) : Bool := (and (p42 x0_0 x1_0) (br (v42_0 x0_0 x1_0) (and (p42 x0_1 x1_1) (br (v42_0 x0_1 x1_1) (and (p42 x0_2 x1_2) (br (v42_0 x0_2 x1_2) (p42 x0_3 x1_3) true)) true)) true))
def s26 : List PT → Option (Bool × AV × List Blk)
  | [.ptr [.s (.flt .f32 x0_0), .s (.flt .f32 x0_1), .s (.flt .f32 x0_2), .s (.flt .f32 x0_3)], .ptr [.s (.flt .f32 x1_0), .s (.flt .f32 x1_1), .s (.flt .f32 x1_2), .s (.flt .f32 x1_3)]] => some ((p26 x0_0 x0_1 x0_2 x0_3 x1_0 x1_1 x1_2 x1_3), ((AV.v (TV.one (At.bool (v26_0 x0_0 x0_1 x0_2 x0_3 x1_0 x1_1 x1_2 x1_3)))), []))
  | _ => none
theorem t26 (c0 : Bool) (c1 : Bool) (c2 : Bool) (c3 : Bool) (c4 : Bool) (c5 : Bool) (c6 : Bool) (y0 : Bool) : ((grd c0 (br c1 (grd c2 (br c3 (grd c4 (br c5 (grd c6 (Option.some ((AV.v (TV.one (At.bool y0))), []))) (Option.some ((AV.v (TV.one (At.bool Bool.false))), [])))) (Option.some ((AV.v (TV.one (At.bool Bool.false))), [])))) (Option.some ((AV.v (TV.one (At.bool Bool.false))), [])))) : Option (AV × List Blk)) = grd (and c0 (br c1 (and c2 (br c3 (and c4 (br c5 c6 true)) true)) true)) (some ((AV.v (TV.one (At.bool (br c1 (br c3 (br c5 y0 Bool.false) Bool.false) Bool.false)))), [])) := by
  cases c0
  · rfl
  ·
    cases c1
    ·
      rfl
    ·
      cases c2
      · rfl
      ·
        cases c3
        ·
          rfl
        ·
          cases c4
          · rfl
          ·
            cases c5
            ·
              rfl
            ·
              cases c6
              · rfl
              ·
                rfl

theorem e26 (x0_0 : Nat) (x0_1 : Nat) (x0_2 : Nat) (x0_3 : Nat) (x1_0 : Nat) (x1_1 : Nat) (x1_2 : Nat) (x1_3 : Nat) : evFn Γ2 4 6 26 (impTs 0 [.ptr [.s (.flt .f32 x0_0), .s (.flt .f32 x0_1), .s (.flt .f32 x0_2), .s (.flt .f32 x0_3)], .ptr [.s (.flt .f32 x1_0), .s (.flt .f32 x1_1), .s (.flt .f32 x1_2), .s (.flt .f32 x1_3)]]).1 (impTs 0 [.ptr [.s (.flt .f32 x0_0), .s (.flt .f32 x0_1), .s (.flt .f32 x0_2), .s (.flt .f32 x0_3)], .ptr [.s (.flt .f32 x1_0), .s (.flt .f32 x1_1), .s (.flt .f32 x1_2), .s (.flt .f32 x1_3)]]).2 (expo (impTs 0 [.ptr [.s (.flt .f32 x0_0), .s (.flt .f32 x0_1), .s (.flt .f32 x0_2), .s (.flt .f32 x0_3)], .ptr [.s (.flt .f32 x1_0), .s (.flt .f32 x1_1), .s (.flt .f32 x1_2), .s (.flt .f32 x1_3)]]).2.length) = grd (p26 x0_0 x0_1 x0_2 x0_3 x1_0 x1_1 x1_2 x1_3) (some ((AV.v (TV.one (At.bool (v26_0 x0_0 x0_1 x0_2 x0_3 x1_0 x1_1 x1_2 x1_3)))), [])) := Eq.trans (b := (grd (p42 x0_0 x1_0) (br (v42_0 x0_0 x1_0) (grd (p42 x0_1 x1_1) (br (v42_0 x0_1 x1_1) (grd (p42 x0_2 x1_2) (br (v42_0 x0_2 x1_2) (grd (p42 x0_3 x1_3) (Option.some ((AV.v (TV.one (At.bool (v42_0 x0_3 x1_3)))), []))) (Option.some ((AV.v (TV.one (At.bool Bool.false))), [])))) (Option.some ((AV.v (TV.one (At.bool Bool.false))), [])))) (Option.some ((AV.v (TV.one (At.bool Bool.false))), []))))) (by kernel_rfl) (t26 (p42 x0_0 x1_0) (v42_0 x0_0 x1_0) (p42 x0_1 x1_1) (v42_0 x0_1 x1_1) (p42 x0_2 x1_2) (v42_0 x0_2 x1_2) (p42 x0_3 x1_3) (v42_0 x0_3 x1_3))
theorem s26_ok : SumOne Try.prog 26 s26 := sum_of (Γ := Γ2) (fuel := 4) (d := 6) tyTab_ok (FnL.ok fnTab_ok _) (SumL.ok tb2_ok) mixed (by
  intro pts v news hp hc
  clear hc
  unfold s26 at hp
  split at hp
  · rename_i x0_0 x0_1 x0_2 x0_3 x1_0 x1_1 x1_2 x1_3
    exact Eq.trans (e26 x0_0 x0_1 x0_2 x0_3 x1_0 x1_1 x1_2 x1_3) (fin_eq hp)
  · cases hp)
def tb3 : List (Nat × (List PT → Option (Bool × AV × List Blk))) := [(52, s52), (54, s54), (10, s10), (43, s43), (51, s51), (27, s27), (42, s42), (11, s11), (26, s26)]
noncomputable def Γ3 : Ctx := ⟨tyTab, fnTab, tblSum tb3⟩
theorem tb3_ok : SumL Try.prog tb3 := SumL.cons s52_ok (SumL.cons s54_ok (SumL.cons s10_ok (SumL.cons s43_ok (SumL.cons s51_ok (SumL.cons s27_ok (SumL.cons s42_ok (SumL.cons s11_ok (SumL.cons s26_ok (SumL.nil)))))))))
end Go.Proofs.Ytohhkgieggfpeaa
