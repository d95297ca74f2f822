/-
  What functions answer. Printed by a program.
-/
import Derived.Test.YtohhkgieggfpeaaS0
set_option linter.unusedVariables false
set_option maxRecDepth 100000
set_option maxHeartbeats 4000000
namespace Go.Proofs.Ytohhkgieggfpeaa
open Go Go.Rf
def s10 : List PT → Option (Bool × AV × List Blk)
  | [.agg [.s (.flt .f32 x0_0), .s (.flt .f32 x0_1), .s (.flt .f32 x0_2), .s (.flt .f32 x0_3)]] => some (true, ((AV.v (TV.agg [(At.flt FloatKind.f32 x0_0), (At.flt FloatKind.f32 x0_1), (At.flt FloatKind.f32 x0_2), (At.flt FloatKind.f32 x0_3)])), []))
  | _ => none
theorem t10  (y0 : Nat) (y1 : Nat) (y2 : Nat) (y3 : Nat) : ((Option.some ((AV.v (TV.agg [(At.flt FloatKind.f32 y0), (At.flt FloatKind.f32 y1), (At.flt FloatKind.f32 y2), (At.flt FloatKind.f32 y3)])), [])) : Option (AV × List Blk)) = grd true (some ((AV.v (TV.agg [(At.flt FloatKind.f32 y0), (At.flt FloatKind.f32 y1), (At.flt FloatKind.f32 y2), (At.flt FloatKind.f32 y3)])), [])) := by
  rfl

theorem e10 (x0_0 : Nat) (x0_1 : Nat) (x0_2 : Nat) (x0_3 : Nat) : evFn Γ0 4 6 10 (impTs 0 [.agg [.s (.flt .f32 x0_0), .s (.flt .f32 x0_1), .s (.flt .f32 x0_2), .s (.flt .f32 x0_3)]]).1 (impTs 0 [.agg [.s (.flt .f32 x0_0), .s (.flt .f32 x0_1), .s (.flt .f32 x0_2), .s (.flt .f32 x0_3)]]).2 (expo (impTs 0 [.agg [.s (.flt .f32 x0_0), .s (.flt .f32 x0_1), .s (.flt .f32 x0_2), .s (.flt .f32 x0_3)]]).2.length) = grd true (some ((AV.v (TV.agg [(At.flt FloatKind.f32 x0_0), (At.flt FloatKind.f32 x0_1), (At.flt FloatKind.f32 x0_2), (At.flt FloatKind.f32 x0_3)])), [])) := Eq.trans (b := (Option.some ((AV.v (TV.agg [(At.flt FloatKind.f32 x0_0), (At.flt FloatKind.f32 x0_1), (At.flt FloatKind.f32 x0_2), (At.flt FloatKind.f32 x0_3)])), []))) (by kernel_rfl) (t10  x0_0 x0_1 x0_2 x0_3)
theorem s10_ok : SumOne Try.prog 10 s10 := sum_of (Γ := Γ0) (fuel := 4) (d := 6) tyTab_ok (FnL.ok fnTab_ok _) (SumL.ok tb0_ok) mixed (by
  intro pts v news hp hc
  clear hc
  unfold s10 at hp
  split at hp
  · rename_i x0_0 x0_1 x0_2 x0_3
    exact Eq.trans (e10 x0_0 x0_1 x0_2 x0_3) (fin_eq hp)
  · cases hp)
def v43_0 (x0 : Nat) : Bool := (ltI (cvI IntKind.i64 (Int.ofNat x0)) 0)
def p43 (x0 : Nat) : Bool := (bnot (nanQ FloatKind.f64 x0))
def s43 : List PT → Option (Bool × AV × List Blk)
  | [.one (.s (.flt .f64 x0))] => some ((p43 x0), ((AV.v (TV.one (At.bool (v43_0 x0)))), []))
  | _ => none
theorem t43 (c0 : Bool) (y0 : Bool) : ((grd c0 (Option.some ((AV.v (TV.one (At.bool y0))), []))) : Option (AV × List Blk)) = grd c0 (some ((AV.v (TV.one (At.bool y0))), [])) := by
  cases c0
  · rfl
  ·
    rfl

theorem e43 (x0 : Nat) : evFn Γ0 4 6 43 (impTs 0 [.one (.s (.flt .f64 x0))]).1 (impTs 0 [.one (.s (.flt .f64 x0))]).2 (expo (impTs 0 [.one (.s (.flt .f64 x0))]).2.length) = grd (p43 x0) (some ((AV.v (TV.one (At.bool (v43_0 x0)))), [])) := Eq.trans (b := (grd (bnot (nanQ FloatKind.f64 x0)) (Option.some ((AV.v (TV.one (At.bool (ltI (cvI IntKind.i64 (Int.ofNat x0)) 0)))), [])))) (by kernel_rfl) (t43 (bnot (nanQ FloatKind.f64 x0)) (ltI (cvI IntKind.i64 (Int.ofNat x0)) 0))
theorem s43_ok : SumOne Try.prog 43 s43 := sum_of (Γ := Γ0) (fuel := 4) (d := 6) tyTab_ok (FnL.ok fnTab_ok _) (SumL.ok tb0_ok) mixed (by
  intro pts v news hp hc
  clear hc
  unfold s43 at hp
  split at hp
  · rename_i x0
    exact Eq.trans (e43 x0) (fin_eq hp)
  · cases hp)
def v51_0 (x0 : Nat) : Int := (br (fcmp BinOp.neq FloatKind.f32 x0 x0) 2143289344 (cvI IntKind.i64 (Int.ofNat x0)))
def p51 (x0 : Nat) : Bool := (br (fcmp BinOp.neq FloatKind.f32 x0 x0) true (bnot (nanQ FloatKind.f32 x0)))
def s51 : List PT → Option (Bool × AV × List Blk)
  | [.one (.s (.flt .f32 x0))] => some ((p51 x0), ((AV.v (TV.one (At.int IntKind.i64 (v51_0 x0)))), []))
  | _ => none
theorem t51 (c0 : Bool) (c1 : Bool) (y0 : Int) : ((br c0 (Option.some ((AV.v (TV.one (At.int IntKind.i64 2143289344))), [])) (grd c1 (Option.some ((AV.v (TV.one (At.int IntKind.i64 y0))), [])))) : Option (AV × List Blk)) = grd (br c0 true c1) (some ((AV.v (TV.one (At.int IntKind.i64 (br c0 2143289344 y0)))), [])) := by
  cases c0
  ·
    cases c1
    · rfl
    ·
      rfl
  ·
    rfl

theorem e51 (x0 : Nat) : evFn Γ0 4 6 51 (impTs 0 [.one (.s (.flt .f32 x0))]).1 (impTs 0 [.one (.s (.flt .f32 x0))]).2 (expo (impTs 0 [.one (.s (.flt .f32 x0))]).2.length) = grd (p51 x0) (some ((AV.v (TV.one (At.int IntKind.i64 (v51_0 x0)))), [])) := Eq.trans (b := (br (fcmp BinOp.neq FloatKind.f32 x0 x0) (Option.some ((AV.v (TV.one (At.int IntKind.i64 2143289344))), [])) (grd (bnot (nanQ FloatKind.f32 x0)) (Option.some ((AV.v (TV.one (At.int IntKind.i64 (cvI IntKind.i64 (Int.ofNat x0))))), []))))) (by kernel_rfl) (t51 (fcmp BinOp.neq FloatKind.f32 x0 x0) (bnot (nanQ FloatKind.f32 x0)) (cvI IntKind.i64 (Int.ofNat x0)))
theorem s51_ok : SumOne Try.prog 51 s51 := sum_of (Γ := Γ0) (fuel := 4) (d := 6) tyTab_ok (FnL.ok fnTab_ok _) (SumL.ok tb0_ok) mixed (by
  intro pts v news hp hc
  clear hc
  unfold s51 at hp
  split at hp
  · rename_i x0
    exact Eq.trans (e51 x0) (fin_eq hp)
  · cases hp)
def tb1 : List (Nat × (List PT → Option (Bool × AV × List Blk))) := [(52, s52), (54, s54), (10, s10), (43, s43), (51, s51)]
noncomputable def Γ1 : Ctx := ⟨tyTab, fnTab, tblSum tb1⟩
theorem tb1_ok : SumL Try.prog tb1 := SumL.cons s52_ok (SumL.cons s54_ok (SumL.cons s10_ok (SumL.cons s43_ok (SumL.cons s51_ok (SumL.nil)))))
end Go.Proofs.Ytohhkgieggfpeaa
