/-
  What functions answer. Printed by a program.
-/
import Derived.Test.YtohhkgieggfpeaaS1
set_option linter.unusedVariables false
set_option maxRecDepth 100000
set_option maxHeartbeats 4000000
namespace Go.Proofs.Ytohhkgieggfpeaa
open Go Go.Rf
def v27_0 (x0 : Nat) (x1 : Nat) : Bool := (br (fcmp BinOp.neq FloatKind.f32 x0 x0) (br (fcmp BinOp.neq FloatKind.f32 x0 x0) (fcmp BinOp.neq FloatKind.f32 x1 x1) Bool.false) (br (fcmp BinOp.neq FloatKind.f32 x1 x1) (br (fcmp BinOp.neq FloatKind.f32 x0 x0) (fcmp BinOp.neq FloatKind.f32 x1 x1) Bool.false) (br (fcmp BinOp.eql FloatKind.f32 x0 x1) (beqB (v43_0 (fcvV FloatKind.f32 FloatKind.f64 x0)) (v43_0 (fcvV FloatKind.f32 FloatKind.f64 x1))) Bool.false)))
def p27 (x0 : Nat) (x1 : Nat) : Bool := (br (fcmp BinOp.neq FloatKind.f32 x0 x0) true (br (fcmp BinOp.neq FloatKind.f32 x1 x1) true (br (fcmp BinOp.eql FloatKind.f32 x0 x1) (and (p43 (fcvV FloatKind.f32 FloatKind.f64 x0)) (p43 (fcvV FloatKind.f32 FloatKind.f64 x1))) true)))
def s27 : List PT → Option (Bool × AV × List Blk)
  | [.one (.s (.flt .f32 x0)), .one (.s (.flt .f32 x1))] => some ((p27 x0 x1), ((AV.v (TV.one (At.bool (v27_0 x0 x1)))), []))
  | _ => none
theorem t27 (c0 : Bool) (c1 : Bool) (c2 : Bool) (c3 : Bool) (c4 : Bool) (y0 : Bool) (y1 : Bool) : ((br c0 (br c0 (Option.some ((AV.v (TV.one (At.bool y0))), [])) (Option.some ((AV.v (TV.one (At.bool Bool.false))), []))) (br c1 (br c0 (Option.some ((AV.v (TV.one (At.bool y0))), [])) (Option.some ((AV.v (TV.one (At.bool Bool.false))), []))) (br c2 (grd c3 (grd c4 (Option.some ((AV.v (TV.one (At.bool y1))), [])))) (Option.some ((AV.v (TV.one (At.bool Bool.false))), []))))) : Option (AV × List Blk)) = grd (br c0 true (br c1 true (br c2 (and c3 c4) true))) (some ((AV.v (TV.one (At.bool (br c0 (br c0 y0 Bool.false) (br c1 (br c0 y0 Bool.false) (br c2 y1 Bool.false)))))), [])) := by
  cases c0
  ·
    cases c1
    ·
      cases c2
      ·
        rfl
      ·
        cases c3
        · rfl
        ·
          cases c4
          · rfl
          ·
            rfl
    ·
      rfl
  ·
    rfl

theorem e27 (x0 : Nat) (x1 : Nat) : evFn Γ1 4 6 27 (impTs 0 [.one (.s (.flt .f32 x0)), .one (.s (.flt .f32 x1))]).1 (impTs 0 [.one (.s (.flt .f32 x0)), .one (.s (.flt .f32 x1))]).2 (expo (impTs 0 [.one (.s (.flt .f32 x0)), .one (.s (.flt .f32 x1))]).2.length) = grd (p27 x0 x1) (some ((AV.v (TV.one (At.bool (v27_0 x0 x1)))), [])) := Eq.trans (b := (br (fcmp BinOp.neq FloatKind.f32 x0 x0) (br (fcmp BinOp.neq FloatKind.f32 x0 x0) (Option.some ((AV.v (TV.one (At.bool (fcmp BinOp.neq FloatKind.f32 x1 x1)))), [])) (Option.some ((AV.v (TV.one (At.bool Bool.false))), []))) (br (fcmp BinOp.neq FloatKind.f32 x1 x1) (br (fcmp BinOp.neq FloatKind.f32 x0 x0) (Option.some ((AV.v (TV.one (At.bool (fcmp BinOp.neq FloatKind.f32 x1 x1)))), [])) (Option.some ((AV.v (TV.one (At.bool Bool.false))), []))) (br (fcmp BinOp.eql FloatKind.f32 x0 x1) (grd (p43 (fcvV FloatKind.f32 FloatKind.f64 x0)) (grd (p43 (fcvV FloatKind.f32 FloatKind.f64 x1)) (Option.some ((AV.v (TV.one (At.bool (beqB (v43_0 (fcvV FloatKind.f32 FloatKind.f64 x0)) (v43_0 (fcvV FloatKind.f32 FloatKind.f64 x1)))))), [])))) (Option.some ((AV.v (TV.one (At.bool Bool.false))), [])))))) (by kernel_rfl) (t27 (fcmp BinOp.neq FloatKind.f32 x0 x0) (fcmp BinOp.neq FloatKind.f32 x1 x1) (fcmp BinOp.eql FloatKind.f32 x0 x1) (p43 (fcvV FloatKind.f32 FloatKind.f64 x0)) (p43 (fcvV FloatKind.f32 FloatKind.f64 x1)) (fcmp BinOp.neq FloatKind.f32 x1 x1) (beqB (v43_0 (fcvV FloatKind.f32 FloatKind.f64 x0)) (v43_0 (fcvV FloatKind.f32 FloatKind.f64 x1))))
theorem s27_ok : SumOne Try.prog 27 s27 := sum_of (Γ := Γ1) (fuel := 4) (d := 6) tyTab_ok (FnL.ok fnTab_ok _) (SumL.ok tb1_ok) mixed (by
  intro pts v news hp hc
  clear hc
  unfold s27 at hp
  split at hp
  · rename_i x0 x1
    exact Eq.trans (e27 x0 x1) (fin_eq hp)
  · cases hp)
def v42_0 (x0 : Nat) (x1 : Nat) : Bool := (eqI (v51_0 x0) (v51_0 x1))
def p42 (x0 : Nat) (x1 : Nat) : Bool := (and (p51 x0) (p51 x1))
def s42 : List PT → Option (Bool × AV × List Blk)
  | [.one (.s (.flt .f32 x0)), .one (.s (.flt .f32 x1))] => some ((p42 x0 x1), ((AV.v (TV.one (At.bool (v42_0 x0 x1)))), []))
  | _ => none
theorem t42 (c0 : Bool) (c1 : Bool) (y0 : Bool) : ((grd c0 (grd c1 (Option.some ((AV.v (TV.one (At.bool y0))), [])))) : Option (AV × List Blk)) = grd (and c0 c1) (some ((AV.v (TV.one (At.bool y0))), [])) := by
  cases c0
  · rfl
  ·
    cases c1
    · rfl
    ·
      rfl

theorem e42 (x0 : Nat) (x1 : Nat) : evFn Γ1 4 6 42 (impTs 0 [.one (.s (.flt .f32 x0)), .one (.s (.flt .f32 x1))]).1 (impTs 0 [.one (.s (.flt .f32 x0)), .one (.s (.flt .f32 x1))]).2 (expo (impTs 0 [.one (.s (.flt .f32 x0)), .one (.s (.flt .f32 x1))]).2.length) = grd (p42 x0 x1) (some ((AV.v (TV.one (At.bool (v42_0 x0 x1)))), [])) := Eq.trans (b := (grd (p51 x0) (grd (p51 x1) (Option.some ((AV.v (TV.one (At.bool (eqI (v51_0 x0) (v51_0 x1))))), []))))) (by kernel_rfl) (t42 (p51 x0) (p51 x1) (eqI (v51_0 x0) (v51_0 x1)))
theorem s42_ok : SumOne Try.prog 42 s42 := sum_of (Γ := Γ1) (fuel := 4) (d := 6) tyTab_ok (FnL.ok fnTab_ok _) (SumL.ok tb1_ok) mixed (by
  intro pts v news hp hc
  clear hc
  unfold s42 at hp
  split at hp
  · rename_i x0 x1
    exact Eq.trans (e42 x0 x1) (fin_eq hp)
  · cases hp)
def tb2 : List (Nat × (List PT → Option (Bool × AV × List Blk))) := [(52, s52), (54, s54), (10, s10), (43, s43), (51, s51), (27, s27), (42, s42)]
noncomputable def Γ2 : Ctx := ⟨tyTab, fnTab, tblSum tb2⟩
theorem tb2_ok : SumL Try.prog tb2 := SumL.cons s52_ok (SumL.cons s54_ok (SumL.cons s10_ok (SumL.cons s43_ok (SumL.cons s51_ok (SumL.cons s27_ok (SumL.cons s42_ok (SumL.nil)))))))
end Go.Proofs.Ytohhkgieggfpeaa
