/-
  What functions answer: that the evaluator answers so. Printed by a program.
-/
import Derived.Test.YtohhkgieggfpeaaS0
import Derived.Test.YtohhkgieggfpeaaP1
set_option linter.unusedVariables false
set_option maxRecDepth 100000
set_option maxHeartbeats 4000000
namespace Go.Proofs.Ytohhkgieggfpeaa
open Go Go.Rf
noncomputable def s_laws_toAir : List PT → Option (Bool × AV × List Blk)
  | [.agg [.s (.flt .f32 a_Density), .s (.flt .f32 a_Height), .s (.flt .f32 a_Speed), .s (.flt .f32 a_Shear)]] => some ((laws_toAir_p a_Density a_Height a_Speed a_Shear), ((AV.v (TV.agg [(At.flt FloatKind.f32 a_Density), (At.flt FloatKind.f32 a_Height), (At.flt FloatKind.f32 a_Speed), (At.flt FloatKind.f32 a_Shear)])), []))
  | _ => none
def o_laws_toAir (a_Density : Nat) (a_Height : Nat) (a_Speed : Nat) (a_Shear : Nat) : Option (Unit) → Option (AV × List Blk)
  | some r => some ((AV.v (TV.agg [(At.flt FloatKind.f32 a_Density), (At.flt FloatKind.f32 a_Height), (At.flt FloatKind.f32 a_Speed), (At.flt FloatKind.f32 a_Shear)])), [])
  | none => none
theorem ol_laws_toAir (a_Density : Nat) (a_Height : Nat) (a_Speed : Nat) (a_Shear : Nat) : some ((AV.v (TV.agg [(At.flt FloatKind.f32 a_Density), (At.flt FloatKind.f32 a_Height), (At.flt FloatKind.f32 a_Speed), (At.flt FloatKind.f32 a_Shear)])), []) = (o_laws_toAir a_Density a_Height a_Speed a_Shear) (some ()) := rfl
theorem e_laws_toAir (a_Density : Nat) (a_Height : Nat) (a_Speed : Nat) (a_Shear : Nat) : evFn Γ0 8 8 10 (impTs 0 [.agg [.s (.flt .f32 a_Density), .s (.flt .f32 a_Height), .s (.flt .f32 a_Speed), .s (.flt .f32 a_Shear)]]).1 (impTs 0 [.agg [.s (.flt .f32 a_Density), .s (.flt .f32 a_Height), .s (.flt .f32 a_Speed), .s (.flt .f32 a_Shear)]]).2 (expo (impTs 0 [.agg [.s (.flt .f32 a_Density), .s (.flt .f32 a_Height), .s (.flt .f32 a_Speed), .s (.flt .f32 a_Shear)]]).2.length) = (o_laws_toAir a_Density a_Height a_Speed a_Shear) (F_laws_toAir a_Density a_Height a_Speed a_Shear) := Eq.trans (b := (some ((AV.v (TV.agg [(At.flt FloatKind.f32 a_Density), (At.flt FloatKind.f32 a_Height), (At.flt FloatKind.f32 a_Speed), (At.flt FloatKind.f32 a_Shear)])), []))) (by kernel_rfl) (show (some ((AV.v (TV.agg [(At.flt FloatKind.f32 a_Density), (At.flt FloatKind.f32 a_Height), (At.flt FloatKind.f32 a_Speed), (At.flt FloatKind.f32 a_Shear)])), [])) = (o_laws_toAir a_Density a_Height a_Speed a_Shear) (some ()) from (ol_laws_toAir a_Density a_Height a_Speed a_Shear))
theorem s_laws_toAir_ok : SumOne Try.prog 10 s_laws_toAir := sum_of (Γ := Γ0) (fuel := 8) (d := 8) tyTab_ok (FnL.ok fnTab_ok _ _) (LpL.ok lt0_ok) (SumL.ok tb0_ok _) mixed (by
  intro pts v news hp hc
  clear hc
  unfold s_laws_toAir at hp
  split at hp
  · rename_i a_Density a_Height a_Speed a_Shear
    exact Eq.trans (e_laws_toAir a_Density a_Height a_Speed a_Shear) (fin_out (o := (o_laws_toAir a_Density a_Height a_Speed a_Shear)) (x := F_laws_toAir a_Density a_Height a_Speed a_Shear) (d := default) (V := fun r => ((AV.v (TV.agg [(At.flt FloatKind.f32 a_Density), (At.flt FloatKind.f32 a_Height), (At.flt FloatKind.f32 a_Speed), (At.flt FloatKind.f32 a_Shear)])), [])) (fun r => rfl) hp)
  · cases hp)
noncomputable def s_laws_sameFloat : List PT → Option (Bool × AV × List Blk)
  | [.one (.s (.flt .f64 a)), .one (.s (.flt .f64 b))] => some ((laws_sameFloat_p a b), ((AV.v (TV.one (At.bool (laws_sameFloat_v0 a b)))), []))
  | _ => none
def o_laws_sameFloat (a : Nat) (b : Nat) : Option (Bool) → Option (AV × List Blk)
  | some r => some ((AV.v (TV.one (At.bool r))), [])
  | none => none
theorem ol_laws_sameFloat (a : Nat) (b : Nat) (c0_ : Bool) : some ((AV.v (TV.one (At.bool c0_))), []) = (o_laws_sameFloat a b) (some c0_) := rfl
theorem e_laws_sameFloat (a : Nat) (b : Nat) : evFn Γ0 8 8 16 (impTs 0 [.one (.s (.flt .f64 a)), .one (.s (.flt .f64 b))]).1 (impTs 0 [.one (.s (.flt .f64 a)), .one (.s (.flt .f64 b))]).2 (expo (impTs 0 [.one (.s (.flt .f64 a)), .one (.s (.flt .f64 b))]).2.length) = (o_laws_sameFloat a b) (F_laws_sameFloat a b) := Eq.trans (b := (br (fcmp BinOp.neq FloatKind.f64 a a) (br (fcmp BinOp.neq FloatKind.f64 a a) (some ((AV.v (TV.one (At.bool (fcmp BinOp.neq FloatKind.f64 b b)))), [])) (some ((AV.v (TV.one (At.bool Bool.false))), []))) (br (fcmp BinOp.neq FloatKind.f64 b b) (br (fcmp BinOp.neq FloatKind.f64 a a) (some ((AV.v (TV.one (At.bool (fcmp BinOp.neq FloatKind.f64 b b)))), [])) (some ((AV.v (TV.one (At.bool Bool.false))), []))) (br (fcmp BinOp.eql FloatKind.f64 a 0) (br (fcmp BinOp.eql FloatKind.f64 b 0) (some ((AV.v (TV.one (At.bool (beqB (fcmp BinOp.gtr FloatKind.f64 (fop BinOp.quo FloatKind.f64 4607182418800017408 a) 0) (fcmp BinOp.gtr FloatKind.f64 (fop BinOp.quo FloatKind.f64 4607182418800017408 b) 0))))), [])) (some ((AV.v (TV.one (At.bool (fcmp BinOp.eql FloatKind.f64 a b)))), []))) (some ((AV.v (TV.one (At.bool (fcmp BinOp.eql FloatKind.f64 a b)))), [])))))) (by kernel_rfl) (show (br (fcmp BinOp.neq FloatKind.f64 a a) (br (fcmp BinOp.neq FloatKind.f64 a a) (some ((AV.v (TV.one (At.bool (fcmp BinOp.neq FloatKind.f64 b b)))), [])) (some ((AV.v (TV.one (At.bool Bool.false))), []))) (br (fcmp BinOp.neq FloatKind.f64 b b) (br (fcmp BinOp.neq FloatKind.f64 a a) (some ((AV.v (TV.one (At.bool (fcmp BinOp.neq FloatKind.f64 b b)))), [])) (some ((AV.v (TV.one (At.bool Bool.false))), []))) (br (fcmp BinOp.eql FloatKind.f64 a 0) (br (fcmp BinOp.eql FloatKind.f64 b 0) (some ((AV.v (TV.one (At.bool (beqB (fcmp BinOp.gtr FloatKind.f64 (fop BinOp.quo FloatKind.f64 4607182418800017408 a) 0) (fcmp BinOp.gtr FloatKind.f64 (fop BinOp.quo FloatKind.f64 4607182418800017408 b) 0))))), [])) (some ((AV.v (TV.one (At.bool (fcmp BinOp.eql FloatKind.f64 a b)))), []))) (some ((AV.v (TV.one (At.bool (fcmp BinOp.eql FloatKind.f64 a b)))), []))))) = (o_laws_sameFloat a b) (br (fcmp BinOp.neq FloatKind.f64 a a) (br (fcmp BinOp.neq FloatKind.f64 a a) (some (fcmp BinOp.neq FloatKind.f64 b b)) (some Bool.false)) (br (fcmp BinOp.neq FloatKind.f64 b b) (br (fcmp BinOp.neq FloatKind.f64 a a) (some (fcmp BinOp.neq FloatKind.f64 b b)) (some Bool.false)) (br (fcmp BinOp.eql FloatKind.f64 a 0) (br (fcmp BinOp.eql FloatKind.f64 b 0) (some (beqB (fcmp BinOp.gtr FloatKind.f64 (fop BinOp.quo FloatKind.f64 4607182418800017408 a) 0) (fcmp BinOp.gtr FloatKind.f64 (fop BinOp.quo FloatKind.f64 4607182418800017408 b) 0))) (some (fcmp BinOp.eql FloatKind.f64 a b))) (some (fcmp BinOp.eql FloatKind.f64 a b))))) from (br_out (o := (o_laws_sameFloat a b)) (br_out (o := (o_laws_sameFloat a b)) (ol_laws_sameFloat a b (fcmp BinOp.neq FloatKind.f64 b b)) (ol_laws_sameFloat a b Bool.false)) (br_out (o := (o_laws_sameFloat a b)) (br_out (o := (o_laws_sameFloat a b)) (ol_laws_sameFloat a b (fcmp BinOp.neq FloatKind.f64 b b)) (ol_laws_sameFloat a b Bool.false)) (br_out (o := (o_laws_sameFloat a b)) (br_out (o := (o_laws_sameFloat a b)) (ol_laws_sameFloat a b (beqB (fcmp BinOp.gtr FloatKind.f64 (fop BinOp.quo FloatKind.f64 4607182418800017408 a) 0) (fcmp BinOp.gtr FloatKind.f64 (fop BinOp.quo FloatKind.f64 4607182418800017408 b) 0))) (ol_laws_sameFloat a b (fcmp BinOp.eql FloatKind.f64 a b))) (ol_laws_sameFloat a b (fcmp BinOp.eql FloatKind.f64 a b))))))
theorem s_laws_sameFloat_ok : SumOne Try.prog 16 s_laws_sameFloat := sum_of (Γ := Γ0) (fuel := 8) (d := 8) tyTab_ok (FnL.ok fnTab_ok _ _) (LpL.ok lt0_ok) (SumL.ok tb0_ok _) mixed (by
  intro pts v news hp hc
  clear hc
  unfold s_laws_sameFloat at hp
  split at hp
  · rename_i a b
    exact Eq.trans (e_laws_sameFloat a b) (fin_out (o := (o_laws_sameFloat a b)) (x := F_laws_sameFloat a b) (d := default) (V := fun r => ((AV.v (TV.one (At.bool r))), [])) (fun r => rfl) hp)
  · cases hp)
noncomputable def s_impl_isFromTo : List PT → Option (Bool × AV × List Blk)
  | [.one (.s (.flt .f32 x)), .one (.s (.flt .f32 low)), .one (.s (.flt .f32 high))] => some ((impl_isFromTo_p x low high), ((AV.v (TV.one (At.bool (impl_isFromTo_v0 x low high)))), []))
  | _ => none
def o_impl_isFromTo (x : Nat) (low : Nat) (high : Nat) : Option (Bool) → Option (AV × List Blk)
  | some r => some ((AV.v (TV.one (At.bool r))), [])
  | none => none
theorem ol_impl_isFromTo (x : Nat) (low : Nat) (high : Nat) (c0_ : Bool) : some ((AV.v (TV.one (At.bool c0_))), []) = (o_impl_isFromTo x low high) (some c0_) := rfl
theorem e_impl_isFromTo (x : Nat) (low : Nat) (high : Nat) : evFn Γ0 8 8 31 (impTs 0 [.one (.s (.flt .f32 x)), .one (.s (.flt .f32 low)), .one (.s (.flt .f32 high))]).1 (impTs 0 [.one (.s (.flt .f32 x)), .one (.s (.flt .f32 low)), .one (.s (.flt .f32 high))]).2 (expo (impTs 0 [.one (.s (.flt .f32 x)), .one (.s (.flt .f32 low)), .one (.s (.flt .f32 high))]).2.length) = (o_impl_isFromTo x low high) (F_impl_isFromTo x low high) := Eq.trans (b := (br (fcmp BinOp.geq FloatKind.f32 x low) (some ((AV.v (TV.one (At.bool (fcmp BinOp.leq FloatKind.f32 x high)))), [])) (some ((AV.v (TV.one (At.bool Bool.false))), [])))) (by kernel_rfl) (show (br (fcmp BinOp.geq FloatKind.f32 x low) (some ((AV.v (TV.one (At.bool (fcmp BinOp.leq FloatKind.f32 x high)))), [])) (some ((AV.v (TV.one (At.bool Bool.false))), []))) = (o_impl_isFromTo x low high) (br (fcmp BinOp.geq FloatKind.f32 x low) (some (fcmp BinOp.leq FloatKind.f32 x high)) (some Bool.false)) from (br_out (o := (o_impl_isFromTo x low high)) (ol_impl_isFromTo x low high (fcmp BinOp.leq FloatKind.f32 x high)) (ol_impl_isFromTo x low high Bool.false)))
theorem s_impl_isFromTo_ok : SumOne Try.prog 31 s_impl_isFromTo := sum_of (Γ := Γ0) (fuel := 8) (d := 8) tyTab_ok (FnL.ok fnTab_ok _ _) (LpL.ok lt0_ok) (SumL.ok tb0_ok _) mixed (by
  intro pts v news hp hc
  clear hc
  unfold s_impl_isFromTo at hp
  split at hp
  · rename_i x low high
    exact Eq.trans (e_impl_isFromTo x low high) (fin_out (o := (o_impl_isFromTo x low high)) (x := F_impl_isFromTo x low high) (d := default) (V := fun r => ((AV.v (TV.one (At.bool r))), [])) (fun r => rfl) hp)
  · cases hp)
noncomputable def s_spec_l04Power : List PT → Option (Bool × AV × List Blk)
  | [.one (.s (.flt .f32 density)), .one (.s (.flt .f32 speed))] => some ((spec_l04Power_p density speed), ((AV.v (TV.one (At.flt FloatKind.f32 (spec_l04Power_v0 density speed)))), []))
  | _ => none
def o_spec_l04Power (density : Nat) (speed : Nat) : Option (Nat) → Option (AV × List Blk)
  | some r => some ((AV.v (TV.one (At.flt FloatKind.f32 r))), [])
  | none => none
theorem ol_spec_l04Power (density : Nat) (speed : Nat) (c0_ : Nat) : some ((AV.v (TV.one (At.flt FloatKind.f32 c0_))), []) = (o_spec_l04Power density speed) (some c0_) := rfl
theorem e_spec_l04Power (density : Nat) (speed : Nat) : evFn Γ0 8 8 34 (impTs 0 [.one (.s (.flt .f32 density)), .one (.s (.flt .f32 speed))]).1 (impTs 0 [.one (.s (.flt .f32 density)), .one (.s (.flt .f32 speed))]).2 (expo (impTs 0 [.one (.s (.flt .f32 density)), .one (.s (.flt .f32 speed))]).2.length) = (o_spec_l04Power density speed) (F_spec_l04Power density speed) := Eq.trans (b := (some ((AV.v (TV.one (At.flt FloatKind.f32 (fop BinOp.mul FloatKind.f32 (fop BinOp.mul FloatKind.f32 (fop BinOp.mul FloatKind.f32 (fop BinOp.mul FloatKind.f32 1056964608 density) speed) speed) speed)))), []))) (by kernel_rfl) (show (some ((AV.v (TV.one (At.flt FloatKind.f32 (fop BinOp.mul FloatKind.f32 (fop BinOp.mul FloatKind.f32 (fop BinOp.mul FloatKind.f32 (fop BinOp.mul FloatKind.f32 1056964608 density) speed) speed) speed)))), [])) = (o_spec_l04Power density speed) (some (fop BinOp.mul FloatKind.f32 (fop BinOp.mul FloatKind.f32 (fop BinOp.mul FloatKind.f32 (fop BinOp.mul FloatKind.f32 1056964608 density) speed) speed) speed)) from (ol_spec_l04Power density speed (fop BinOp.mul FloatKind.f32 (fop BinOp.mul FloatKind.f32 (fop BinOp.mul FloatKind.f32 (fop BinOp.mul FloatKind.f32 1056964608 density) speed) speed) speed)))
theorem s_spec_l04Power_ok : SumOne Try.prog 34 s_spec_l04Power := sum_of (Γ := Γ0) (fuel := 8) (d := 8) tyTab_ok (FnL.ok fnTab_ok _ _) (LpL.ok lt0_ok) (SumL.ok tb0_ok _) mixed (by
  intro pts v news hp hc
  clear hc
  unfold s_spec_l04Power at hp
  split at hp
  · rename_i density speed
    exact Eq.trans (e_spec_l04Power density speed) (fin_out (o := (o_spec_l04Power density speed)) (x := F_spec_l04Power density speed) (d := default) (V := fun r => ((AV.v (TV.one (At.flt FloatKind.f32 r))), [])) (fun r => rfl) hp)
  · cases hp)
noncomputable def s_spec_l04Speed : List PT → Option (Bool × AV × List Blk)
  | [.ptr [.s (.flt .f32 a_Density), .s (.flt .f32 a_Height), .s (.flt .f32 a_Speed), .s (.flt .f32 a_Shear)], .one (.s (.flt .f32 z))] => some ((spec_l04Speed_p a_Density a_Height a_Speed a_Shear z), ((AV.v (TV.one (At.flt FloatKind.f32 (spec_l04Speed_v0 a_Density a_Height a_Speed a_Shear z)))), []))
  | _ => none
def o_spec_l04Speed (a_Density : Nat) (a_Height : Nat) (a_Speed : Nat) (a_Shear : Nat) (z : Nat) : Option (Nat) → Option (AV × List Blk)
  | some r => some ((AV.v (TV.one (At.flt FloatKind.f32 r))), [])
  | none => none
theorem ol_spec_l04Speed (a_Density : Nat) (a_Height : Nat) (a_Speed : Nat) (a_Shear : Nat) (z : Nat) (c0_ : Nat) : some ((AV.v (TV.one (At.flt FloatKind.f32 c0_))), []) = (o_spec_l04Speed a_Density a_Height a_Speed a_Shear z) (some c0_) := rfl
theorem e_spec_l04Speed (a_Density : Nat) (a_Height : Nat) (a_Speed : Nat) (a_Shear : Nat) (z : Nat) : evFn Γ0 8 8 37 (impTs 0 [.ptr [.s (.flt .f32 a_Density), .s (.flt .f32 a_Height), .s (.flt .f32 a_Speed), .s (.flt .f32 a_Shear)], .one (.s (.flt .f32 z))]).1 (impTs 0 [.ptr [.s (.flt .f32 a_Density), .s (.flt .f32 a_Height), .s (.flt .f32 a_Speed), .s (.flt .f32 a_Shear)], .one (.s (.flt .f32 z))]).2 (expo (impTs 0 [.ptr [.s (.flt .f32 a_Density), .s (.flt .f32 a_Height), .s (.flt .f32 a_Speed), .s (.flt .f32 a_Shear)], .one (.s (.flt .f32 z))]).2.length) = (o_spec_l04Speed a_Density a_Height a_Speed a_Shear z) (F_spec_l04Speed a_Density a_Height a_Speed a_Shear z) := Eq.trans (b := (some ((AV.v (TV.one (At.flt FloatKind.f32 (fop BinOp.mul FloatKind.f32 a_Speed (fop BinOp.add FloatKind.f32 1065353216 (fop BinOp.mul FloatKind.f32 a_Shear (fop BinOp.quo FloatKind.f32 (fop BinOp.sub FloatKind.f32 z a_Height) (fop BinOp.add FloatKind.f32 z a_Height)))))))), []))) (by kernel_rfl) (show (some ((AV.v (TV.one (At.flt FloatKind.f32 (fop BinOp.mul FloatKind.f32 a_Speed (fop BinOp.add FloatKind.f32 1065353216 (fop BinOp.mul FloatKind.f32 a_Shear (fop BinOp.quo FloatKind.f32 (fop BinOp.sub FloatKind.f32 z a_Height) (fop BinOp.add FloatKind.f32 z a_Height)))))))), [])) = (o_spec_l04Speed a_Density a_Height a_Speed a_Shear z) (some (fop BinOp.mul FloatKind.f32 a_Speed (fop BinOp.add FloatKind.f32 1065353216 (fop BinOp.mul FloatKind.f32 a_Shear (fop BinOp.quo FloatKind.f32 (fop BinOp.sub FloatKind.f32 z a_Height) (fop BinOp.add FloatKind.f32 z a_Height)))))) from (ol_spec_l04Speed a_Density a_Height a_Speed a_Shear z (fop BinOp.mul FloatKind.f32 a_Speed (fop BinOp.add FloatKind.f32 1065353216 (fop BinOp.mul FloatKind.f32 a_Shear (fop BinOp.quo FloatKind.f32 (fop BinOp.sub FloatKind.f32 z a_Height) (fop BinOp.add FloatKind.f32 z a_Height)))))))
theorem s_spec_l04Speed_ok : SumOne Try.prog 37 s_spec_l04Speed := sum_of (Γ := Γ0) (fuel := 8) (d := 8) tyTab_ok (FnL.ok fnTab_ok _ _) (LpL.ok lt0_ok) (SumL.ok tb0_ok _) mixed (by
  intro pts v news hp hc
  clear hc
  unfold s_spec_l04Speed at hp
  split at hp
  · rename_i a_Density a_Height a_Speed a_Shear z
    exact Eq.trans (e_spec_l04Speed a_Density a_Height a_Speed a_Shear z) (fin_out (o := (o_spec_l04Speed a_Density a_Height a_Speed a_Shear z)) (x := F_spec_l04Speed a_Density a_Height a_Speed a_Shear z) (d := default) (V := fun r => ((AV.v (TV.one (At.flt FloatKind.f32 r))), [])) (fun r => rfl) hp)
  · cases hp)
noncomputable def s_laws_szFloat32S : List PT → Option (Bool × AV × List Blk)
  | [.one (.row 1 a_n (.fl .f32 a)), .one (.s (.int .i64 left))] => some ((laws_szFloat32S_p a_n a left), ((AV.v (TV.one (At.int IntKind.i64 (laws_szFloat32S_v0 a_n a left)))), []))
  | _ => none
def o_laws_szFloat32S (a_n : Nat) (a : List Nat) (left : Int) : Option (Int) → Option (AV × List Blk)
  | some r => some ((AV.v (TV.one (At.int IntKind.i64 r))), [])
  | none => none
theorem ol_laws_szFloat32S (a_n : Nat) (a : List Nat) (left : Int) (c0_ : Int) : some ((AV.v (TV.one (At.int IntKind.i64 c0_))), []) = (o_laws_szFloat32S a_n a left) (some c0_) := rfl
theorem e_laws_szFloat32S (a_n : Nat) (a : List Nat) (left : Int) : evFn Γ0 8 8 38 (impTs 0 [.one (.row 1 a_n (.fl .f32 a)), .one (.s (.int .i64 left))]).1 (impTs 0 [.one (.row 1 a_n (.fl .f32 a)), .one (.s (.int .i64 left))]).2 (expo (impTs 0 [.one (.row 1 a_n (.fl .f32 a)), .one (.s (.int .i64 left))]).2.length) = (o_laws_szFloat32S a_n a left) (F_laws_szFloat32S a_n a left) := Eq.trans (b := (br (ltI (subI IntKind.i64 left (Int.ofNat a_n)) 0) (some ((AV.v (TV.one (At.int IntKind.i64 (Int.negSucc 0)))), [])) (some ((AV.v (TV.one (At.int IntKind.i64 (subI IntKind.i64 left (Int.ofNat a_n))))), [])))) (by kernel_rfl) (show (br (ltI (subI IntKind.i64 left (Int.ofNat a_n)) 0) (some ((AV.v (TV.one (At.int IntKind.i64 (Int.negSucc 0)))), [])) (some ((AV.v (TV.one (At.int IntKind.i64 (subI IntKind.i64 left (Int.ofNat a_n))))), []))) = (o_laws_szFloat32S a_n a left) (br (ltI (subI IntKind.i64 left (Int.ofNat a_n)) 0) (some (Int.negSucc 0)) (some (subI IntKind.i64 left (Int.ofNat a_n)))) from (br_out (o := (o_laws_szFloat32S a_n a left)) (ol_laws_szFloat32S a_n a left (Int.negSucc 0)) (ol_laws_szFloat32S a_n a left (subI IntKind.i64 left (Int.ofNat a_n)))))
theorem s_laws_szFloat32S_ok : SumOne Try.prog 38 s_laws_szFloat32S := sum_of (Γ := Γ0) (fuel := 8) (d := 8) tyTab_ok (FnL.ok fnTab_ok _ _) (LpL.ok lt0_ok) (SumL.ok tb0_ok _) mixed (by
  intro pts v news hp hc
  clear hc
  unfold s_laws_szFloat32S at hp
  split at hp
  · rename_i a_n a left
    exact Eq.trans (e_laws_szFloat32S a_n a left) (fin_out (o := (o_laws_szFloat32S a_n a left)) (x := F_laws_szFloat32S a_n a left) (d := default) (V := fun r => ((AV.v (TV.one (At.int IntKind.i64 r))), [])) (fun r => rfl) hp)
  · cases hp)
noncomputable def s_math_Signbit : List PT → Option (Bool × AV × List Blk)
  | [.one (.s (.flt .f64 x))] => some ((math_Signbit_p x), ((AV.v (TV.one (At.bool (math_Signbit_v0 x)))), []))
  | _ => none
def o_math_Signbit (x : Nat) : Option (Bool) → Option (AV × List Blk)
  | some r => some ((AV.v (TV.one (At.bool r))), [])
  | none => none
theorem ol_math_Signbit (x : Nat) (c0_ : Bool) : some ((AV.v (TV.one (At.bool c0_))), []) = (o_math_Signbit x) (some c0_) := rfl
theorem e_math_Signbit (x : Nat) : evFn Γ0 8 8 43 (impTs 0 [.one (.s (.flt .f64 x))]).1 (impTs 0 [.one (.s (.flt .f64 x))]).2 (expo (impTs 0 [.one (.s (.flt .f64 x))]).2.length) = (o_math_Signbit x) (F_math_Signbit x) := Eq.trans (b := (grd (bnot (nanQ FloatKind.f64 x)) (some ((AV.v (TV.one (At.bool (ltI (cvI IntKind.i64 (Int.ofNat x)) 0)))), [])))) (by kernel_rfl) (show (grd (bnot (nanQ FloatKind.f64 x)) (some ((AV.v (TV.one (At.bool (ltI (cvI IntKind.i64 (Int.ofNat x)) 0)))), []))) = (o_math_Signbit x) (grd (bnot (nanQ FloatKind.f64 x)) (some (ltI (cvI IntKind.i64 (Int.ofNat x)) 0))) from (grd_out (o := (o_math_Signbit x)) rfl (ol_math_Signbit x (ltI (cvI IntKind.i64 (Int.ofNat x)) 0))))
theorem s_math_Signbit_ok : SumOne Try.prog 43 s_math_Signbit := sum_of (Γ := Γ0) (fuel := 8) (d := 8) tyTab_ok (FnL.ok fnTab_ok _ _) (LpL.ok lt0_ok) (SumL.ok tb0_ok _) mixed (by
  intro pts v news hp hc
  clear hc
  unfold s_math_Signbit at hp
  split at hp
  · rename_i x
    exact Eq.trans (e_math_Signbit x) (fin_out (o := (o_math_Signbit x)) (x := F_math_Signbit x) (d := default) (V := fun r => ((AV.v (TV.one (At.bool r))), [])) (fun r => rfl) hp)
  · cases hp)
noncomputable def s_spec_l04Share : List PT → Option (Bool × AV × List Blk)
  | [.one (.s (.flt .f32 x))] => some ((spec_l04Share_p x), ((AV.v (TV.one (At.bool (spec_l04Share_v0 x)))), []))
  | _ => none
def o_spec_l04Share (x : Nat) : Option (Bool) → Option (AV × List Blk)
  | some r => some ((AV.v (TV.one (At.bool r))), [])
  | none => none
theorem ol_spec_l04Share (x : Nat) (c0_ : Bool) : some ((AV.v (TV.one (At.bool c0_))), []) = (o_spec_l04Share x) (some c0_) := rfl
theorem e_spec_l04Share (x : Nat) : evFn Γ0 8 8 45 (impTs 0 [.one (.s (.flt .f32 x))]).1 (impTs 0 [.one (.s (.flt .f32 x))]).2 (expo (impTs 0 [.one (.s (.flt .f32 x))]).2.length) = (o_spec_l04Share x) (F_spec_l04Share x) := Eq.trans (b := (br (fcmp BinOp.geq FloatKind.f32 x 0) (some ((AV.v (TV.one (At.bool (fcmp BinOp.leq FloatKind.f32 x 1065353216)))), [])) (some ((AV.v (TV.one (At.bool Bool.false))), [])))) (by kernel_rfl) (show (br (fcmp BinOp.geq FloatKind.f32 x 0) (some ((AV.v (TV.one (At.bool (fcmp BinOp.leq FloatKind.f32 x 1065353216)))), [])) (some ((AV.v (TV.one (At.bool Bool.false))), []))) = (o_spec_l04Share x) (br (fcmp BinOp.geq FloatKind.f32 x 0) (some (fcmp BinOp.leq FloatKind.f32 x 1065353216)) (some Bool.false)) from (br_out (o := (o_spec_l04Share x)) (ol_spec_l04Share x (fcmp BinOp.leq FloatKind.f32 x 1065353216)) (ol_spec_l04Share x Bool.false)))
theorem s_spec_l04Share_ok : SumOne Try.prog 45 s_spec_l04Share := sum_of (Γ := Γ0) (fuel := 8) (d := 8) tyTab_ok (FnL.ok fnTab_ok _ _) (LpL.ok lt0_ok) (SumL.ok tb0_ok _) mixed (by
  intro pts v news hp hc
  clear hc
  unfold s_spec_l04Share at hp
  split at hp
  · rename_i x
    exact Eq.trans (e_spec_l04Share x) (fin_out (o := (o_spec_l04Share x)) (x := F_spec_l04Share x) (d := default) (V := fun r => ((AV.v (TV.one (At.bool r))), [])) (fun r => rfl) hp)
  · cases hp)
noncomputable def s_impl_IsFinite : List PT → Option (Bool × AV × List Blk)
  | [.one (.s (.flt .f32 x))] => some ((impl_IsFinite_p x), ((AV.v (TV.one (At.bool (impl_IsFinite_v0 x)))), []))
  | _ => none
def o_impl_IsFinite (x : Nat) : Option (Bool) → Option (AV × List Blk)
  | some r => some ((AV.v (TV.one (At.bool r))), [])
  | none => none
theorem ol_impl_IsFinite (x : Nat) (c0_ : Bool) : some ((AV.v (TV.one (At.bool c0_))), []) = (o_impl_IsFinite x) (some c0_) := rfl
theorem e_impl_IsFinite (x : Nat) : evFn Γ0 8 8 48 (impTs 0 [.one (.s (.flt .f32 x))]).1 (impTs 0 [.one (.s (.flt .f32 x))]).2 (expo (impTs 0 [.one (.s (.flt .f32 x))]).2.length) = (o_impl_IsFinite x) (F_impl_IsFinite x) := Eq.trans (b := (some ((AV.v (TV.one (At.bool (fcmp BinOp.eql FloatKind.f32 (fop BinOp.sub FloatKind.f32 x x) 0)))), []))) (by kernel_rfl) (show (some ((AV.v (TV.one (At.bool (fcmp BinOp.eql FloatKind.f32 (fop BinOp.sub FloatKind.f32 x x) 0)))), [])) = (o_impl_IsFinite x) (some (fcmp BinOp.eql FloatKind.f32 (fop BinOp.sub FloatKind.f32 x x) 0)) from (ol_impl_IsFinite x (fcmp BinOp.eql FloatKind.f32 (fop BinOp.sub FloatKind.f32 x x) 0)))
theorem s_impl_IsFinite_ok : SumOne Try.prog 48 s_impl_IsFinite := sum_of (Γ := Γ0) (fuel := 8) (d := 8) tyTab_ok (FnL.ok fnTab_ok _ _) (LpL.ok lt0_ok) (SumL.ok tb0_ok _) mixed (by
  intro pts v news hp hc
  clear hc
  unfold s_impl_IsFinite at hp
  split at hp
  · rename_i x
    exact Eq.trans (e_impl_IsFinite x) (fin_out (o := (o_impl_IsFinite x)) (x := F_impl_IsFinite x) (d := default) (V := fun r => ((AV.v (TV.one (At.bool r))), [])) (fun r => rfl) hp)
  · cases hp)
noncomputable def s_spec_l01Finite : List PT → Option (Bool × AV × List Blk)
  | [.one (.s (.flt .f32 x))] => some ((spec_l01Finite_p x), ((AV.v (TV.one (At.bool (spec_l01Finite_v0 x)))), []))
  | _ => none
def o_spec_l01Finite (x : Nat) : Option (Bool) → Option (AV × List Blk)
  | some r => some ((AV.v (TV.one (At.bool r))), [])
  | none => none
theorem ol_spec_l01Finite (x : Nat) (c0_ : Bool) : some ((AV.v (TV.one (At.bool c0_))), []) = (o_spec_l01Finite x) (some c0_) := rfl
theorem e_spec_l01Finite (x : Nat) : evFn Γ0 8 8 49 (impTs 0 [.one (.s (.flt .f32 x))]).1 (impTs 0 [.one (.s (.flt .f32 x))]).2 (expo (impTs 0 [.one (.s (.flt .f32 x))]).2.length) = (o_spec_l01Finite x) (F_spec_l01Finite x) := Eq.trans (b := (some ((AV.v (TV.one (At.bool (fcmp BinOp.eql FloatKind.f32 (fop BinOp.sub FloatKind.f32 x x) 0)))), []))) (by kernel_rfl) (show (some ((AV.v (TV.one (At.bool (fcmp BinOp.eql FloatKind.f32 (fop BinOp.sub FloatKind.f32 x x) 0)))), [])) = (o_spec_l01Finite x) (some (fcmp BinOp.eql FloatKind.f32 (fop BinOp.sub FloatKind.f32 x x) 0)) from (ol_spec_l01Finite x (fcmp BinOp.eql FloatKind.f32 (fop BinOp.sub FloatKind.f32 x x) 0)))
theorem s_spec_l01Finite_ok : SumOne Try.prog 49 s_spec_l01Finite := sum_of (Γ := Γ0) (fuel := 8) (d := 8) tyTab_ok (FnL.ok fnTab_ok _ _) (LpL.ok lt0_ok) (SumL.ok tb0_ok _) mixed (by
  intro pts v news hp hc
  clear hc
  unfold s_spec_l01Finite at hp
  split at hp
  · rename_i x
    exact Eq.trans (e_spec_l01Finite x) (fin_out (o := (o_spec_l01Finite x)) (x := F_spec_l01Finite x) (d := default) (V := fun r => ((AV.v (TV.one (At.bool r))), [])) (fun r => rfl) hp)
  · cases hp)
noncomputable def s_spec_l01Bits : List PT → Option (Bool × AV × List Blk)
  | [.one (.s (.flt .f32 x))] => some ((spec_l01Bits_p x), ((AV.v (TV.one (At.int IntKind.i64 (spec_l01Bits_v0 x)))), []))
  | _ => none
def o_spec_l01Bits (x : Nat) : Option (Int) → Option (AV × List Blk)
  | some r => some ((AV.v (TV.one (At.int IntKind.i64 r))), [])
  | none => none
theorem ol_spec_l01Bits (x : Nat) (c0_ : Int) : some ((AV.v (TV.one (At.int IntKind.i64 c0_))), []) = (o_spec_l01Bits x) (some c0_) := rfl
theorem e_spec_l01Bits (x : Nat) : evFn Γ0 8 8 51 (impTs 0 [.one (.s (.flt .f32 x))]).1 (impTs 0 [.one (.s (.flt .f32 x))]).2 (expo (impTs 0 [.one (.s (.flt .f32 x))]).2.length) = (o_spec_l01Bits x) (F_spec_l01Bits x) := Eq.trans (b := (br (fcmp BinOp.neq FloatKind.f32 x x) (some ((AV.v (TV.one (At.int IntKind.i64 2143289344))), [])) (grd (bnot (nanQ FloatKind.f32 x)) (some ((AV.v (TV.one (At.int IntKind.i64 (cvI IntKind.i64 (Int.ofNat x))))), []))))) (by kernel_rfl) (show (br (fcmp BinOp.neq FloatKind.f32 x x) (some ((AV.v (TV.one (At.int IntKind.i64 2143289344))), [])) (grd (bnot (nanQ FloatKind.f32 x)) (some ((AV.v (TV.one (At.int IntKind.i64 (cvI IntKind.i64 (Int.ofNat x))))), [])))) = (o_spec_l01Bits x) (br (fcmp BinOp.neq FloatKind.f32 x x) (some 2143289344) (grd (bnot (nanQ FloatKind.f32 x)) (some (cvI IntKind.i64 (Int.ofNat x))))) from (br_out (o := (o_spec_l01Bits x)) (ol_spec_l01Bits x 2143289344) (grd_out (o := (o_spec_l01Bits x)) rfl (ol_spec_l01Bits x (cvI IntKind.i64 (Int.ofNat x))))))
theorem s_spec_l01Bits_ok : SumOne Try.prog 51 s_spec_l01Bits := sum_of (Γ := Γ0) (fuel := 8) (d := 8) tyTab_ok (FnL.ok fnTab_ok _ _) (LpL.ok lt0_ok) (SumL.ok tb0_ok _) mixed (by
  intro pts v news hp hc
  clear hc
  unfold s_spec_l01Bits at hp
  split at hp
  · rename_i x
    exact Eq.trans (e_spec_l01Bits x) (fin_out (o := (o_spec_l01Bits x)) (x := F_spec_l01Bits x) (d := default) (V := fun r => ((AV.v (TV.one (At.int IntKind.i64 r))), [])) (fun r => rfl) hp)
  · cases hp)
noncomputable def tb1 : List (Nat × (List PT → Option (Bool × AV × List Blk))) := [(52, s_math_Float64bits), (54, s_math_Float32bits), (10, s_laws_toAir), (16, s_laws_sameFloat), (31, s_impl_isFromTo), (34, s_spec_l04Power), (37, s_spec_l04Speed), (38, s_laws_szFloat32S), (43, s_math_Signbit), (45, s_spec_l04Share), (48, s_impl_IsFinite), (49, s_spec_l01Finite), (51, s_spec_l01Bits)]
noncomputable def lt1 : List ((Nat × Nat) × (Nat → St → Option (Bool × LO))) := []
noncomputable def Γ1 : Ctx := ⟨tyTab, fnTab, tblSum tb1, tblLp lt1⟩
theorem tb1_ok : SumL Try.prog tb1 := SumL.cons s_math_Float64bits_ok (SumL.cons s_math_Float32bits_ok (SumL.cons s_laws_toAir_ok (SumL.cons s_laws_sameFloat_ok (SumL.cons s_impl_isFromTo_ok (SumL.cons s_spec_l04Power_ok (SumL.cons s_spec_l04Speed_ok (SumL.cons s_laws_szFloat32S_ok (SumL.cons s_math_Signbit_ok (SumL.cons s_spec_l04Share_ok (SumL.cons s_impl_IsFinite_ok (SumL.cons s_spec_l01Finite_ok (SumL.cons s_spec_l01Bits_ok (SumL.nil)))))))))))))
theorem lt1_ok : LpL Try.prog fnTab lt1 := LpL.nil
end Go.Proofs.Ytohhkgieggfpeaa
