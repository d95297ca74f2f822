/-
  What functions answer: that the evaluator answers so. Printed by a program.
-/
import Derived.Test.YtdmbbllcgpicbaaStrongestSectorC
set_option linter.unusedVariables false
set_option linter.unusedSimpArgs false
set_option maxRecDepth 100000
set_option maxHeartbeats 4000000
namespace Go.Proofs.Ytdmbbllcgpicbaa
open Go Go.Rf
def s_math_Float64bits : List PT → Option (Bool × AV × List Blk)
  | [.one (.s (.flt .f64 x))] => some (bnot (nanQ .f64 x), A1 (.int .u64 x), [])
  | _ => none
theorem s_math_Float64bits_ok : SumOne Try.prog 129 s_math_Float64bits := by
  intro pts v news hp w vals hv
  unfold s_math_Float64bits at hp
  split at hp
  · rename_i x
    injection hp with hp
    injection hp with h1 hp
    injection hp with h2 h3
    subst h2
    subst h3
    obtain ⟨l, hl⟩ : ∃ l, l = vals.toList := ⟨_, rfl⟩
    rw [← hl] at hv
    cases hv with
    | cons a1 a2 =>
      cases a2
      obtain ⟨b, hb1, hb2, hb3⟩ := a1
      subst hb1
      rename_i hx
      have hvals : vals = #[.float .f64 b] := by rw [← Array.toList_inj, ← hl]
      subst hvals
      have hn : nanB .f64 b = false := by rw [← nanB_cn, hb3]; simpa [bnot, nanQ] using h1
      rw [cn_of_not hn] at hb3
      subst hb3
      refine .inl ⟨_, w, by (simp only [callFunc, Sem.run_bind, run_program, Result.andThen_ok, Try.func129]; rfl), NoB, ⟨⟨(fun t b' h => by cases t <;> cases h), (fun t t' b1 b2 x x' _ h => by cases t <;> cases h)⟩, (fun t x h => by cases h), Fr.refl _ w⟩, rfl⟩
  · cases hp
def s_math_Float64frombits : List PT → Option (Bool × AV × List Blk)
  | [.one (.s (.int .u64 x))] => some (okU .f64 x, A1 (.flt .f64 (cnI .f64 x)), [])
  | _ => none
theorem s_math_Float64frombits_ok : SumOne Try.prog 133 s_math_Float64frombits := by
  intro pts v news hp w vals hv
  unfold s_math_Float64frombits at hp
  split at hp
  · rename_i x
    injection hp with hp
    injection hp with h1 hp
    injection hp with h2 h3
    subst h2
    subst h3
    obtain ⟨l, hl⟩ : ∃ l, l = vals.toList := ⟨_, rfl⟩
    rw [← hl] at hv
    cases hv with
    | cons a1 a2 =>
      cases a2
      have hb1 : _ = Value.int .u64 x := a1
      subst hb1
      rename_i hx
      have hvals : vals = #[.int .u64 x] := by rw [← Array.toList_inj, ← hl]
      subst hvals
      have hw := okU_lt h1
      refine .inl ⟨_, w, by (simp only [callFunc, Sem.run_bind, run_program, Result.andThen_ok, Try.func133]; rfl), NoB, ⟨⟨(fun t b' h => by cases t <;> cases h), (fun t t' b1 b2 x x' _ h => by cases t <;> cases h)⟩, (fun t x h => by cases h), Fr.refl _ w⟩, ⟨_, rfl, hw, rfl⟩⟩
  · cases hp
def s_math_Float32bits : List PT → Option (Bool × AV × List Blk)
  | [.one (.s (.flt .f32 x))] => some (bnot (nanQ .f32 x), A1 (.int .u32 x), [])
  | _ => none
theorem s_math_Float32bits_ok : SumOne Try.prog 137 s_math_Float32bits := by
  intro pts v news hp w vals hv
  unfold s_math_Float32bits at hp
  split at hp
  · rename_i x
    injection hp with hp
    injection hp with h1 hp
    injection hp with h2 h3
    subst h2
    subst h3
    obtain ⟨l, hl⟩ : ∃ l, l = vals.toList := ⟨_, rfl⟩
    rw [← hl] at hv
    cases hv with
    | cons a1 a2 =>
      cases a2
      obtain ⟨b, hb1, hb2, hb3⟩ := a1
      subst hb1
      rename_i hx
      have hvals : vals = #[.float .f32 b] := by rw [← Array.toList_inj, ← hl]
      subst hvals
      have hn : nanB .f32 b = false := by rw [← nanB_cn, hb3]; simpa [bnot, nanQ] using h1
      rw [cn_of_not hn] at hb3
      subst hb3
      refine .inl ⟨_, w, by (simp only [callFunc, Sem.run_bind, run_program, Result.andThen_ok, Try.func137]; rfl), NoB, ⟨⟨(fun t b' h => by cases t <;> cases h), (fun t t' b1 b2 x x' _ h => by cases t <;> cases h)⟩, (fun t x h => by cases h), Fr.refl _ w⟩, rfl⟩
  · cases hp
def s_math_archTrunc : List PT → Option (Bool × AV × List Blk)
  | [.one (.s (.flt .f64 x))] => some (bnot (nanQ .f64 x), A1 (.flt .f64 (fint .zero x)), [])
  | _ => none
theorem s_math_archTrunc_ok : SumOne Try.prog 139 s_math_archTrunc := by
  intro pts v news hp w vals hv
  unfold s_math_archTrunc at hp
  split at hp
  · rename_i x
    injection hp with hp
    injection hp with h1 hp
    injection hp with h2 h3
    subst h2
    subst h3
    obtain ⟨l, hl⟩ : ∃ l, l = vals.toList := ⟨_, rfl⟩
    rw [← hl] at hv
    cases hv with
    | cons a1 a2 =>
      cases a2
      obtain ⟨b, hb1, hb2, hb3⟩ := a1
      subst hb1
      rename_i hx
      have hvals : vals = #[.float .f64 b] := by rw [← Array.toList_inj, ← hl]
      subst hvals
      have hn : nanB .f64 b = false := by rw [← nanB_cn, hb3]; simpa [bnot, nanQ] using h1
      rw [cn_of_not hn] at hb3
      subst hb3
      refine .inl ⟨_, w, by (simp only [callFunc, Sem.run_bind, run_program, Result.andThen_ok, Try.func139]; change (do let v ← Extern.MathFloor.toIntegral "math.archTrunc" .zero #[.float .f64 b]; pure (.value v) : Sem Next).run Try.prog w = _; rw [Sem.run_bind, run_fint hn]; rfl), NoB, ⟨⟨(fun t b' h => by cases t <;> cases h), (fun t t' b1 b2 x x' _ h => by cases t <;> cases h)⟩, (fun t x h => by cases h), Fr.refl _ w⟩, fint_rel hn⟩
  · cases hp
noncomputable def tb0 : List (Nat × (List PT → Option (Bool × AV × List Blk))) := [(129, s_math_Float64bits), (133, s_math_Float64frombits), (137, s_math_Float32bits), (139, s_math_archTrunc)]
noncomputable def lt0 : List ((Nat × Nat) × (Nat → St → Option (Bool × LO))) := []
noncomputable def Γ0 : Ctx := ⟨tyTab, fnTab, tblSum tb0, tblLp lt0⟩
theorem tb0_ok : SumL Try.prog tb0 := SumL.cons s_math_Float64bits_ok (SumL.cons s_math_Float64frombits_ok (SumL.cons s_math_Float32bits_ok (SumL.cons s_math_archTrunc_ok (SumL.nil))))
theorem lt0_ok : LpL Try.prog fnTab lt0 := LpL.nil
noncomputable def s_laws_sameFloat : List PT → Option (Bool × AV × List Blk)
  | [.one (.s (.flt .f64 a)), .one (.s (.flt .f64 b))] => some ((laws_sameFloat_p a b), ((AV.v (TV.one (At.bool (laws_sameFloat_v0 a b)))), []))
  | _ => none
def o_laws_sameFloat (a : Nat) (b : Nat) : Option (Bool) → Option (AV × List Blk)
  | some r => some ((AV.v (TV.one (At.bool r))), [])
  | none => none
theorem e_laws_sameFloat (a : Nat) (b : Nat) : evFn Γ0 8 8 25 (impTs 0 [.one (.s (.flt .f64 a)), .one (.s (.flt .f64 b))]).1 (impTs 0 [.one (.s (.flt .f64 a)), .one (.s (.flt .f64 b))]).2 (expo (impTs 0 [.one (.s (.flt .f64 a)), .one (.s (.flt .f64 b))]).2.length) = T_laws_sameFloat a b (fun c0_ => some ((AV.v (TV.one (At.bool c0_))), [])) := by kernel_rfl
theorem s_laws_sameFloat_ok : SumOne Try.prog 25 s_laws_sameFloat := sum_of (Γ := Γ0) (fuel := 8) (d := 8) tyTab_ok (FnL.ok fnTab_ok _ _) (LpL.ok lt0_ok) (SumL.ok tb0_ok _) mixed (by
  intro pts v news hp hc
  clear hc
  unfold s_laws_sameFloat at hp
  split at hp
  · rename_i a b
    exact Eq.trans (Eq.trans (e_laws_sameFloat a b) (T_laws_sameFloat_nat (o_laws_sameFloat a b) rfl a b (fun c0_ => some c0_))) (fin_out (o := (o_laws_sameFloat a b)) (x := F_laws_sameFloat a b) (d := default) (V := fun r => ((AV.v (TV.one (At.bool r))), [])) (fun r => rfl) hp)
  · cases hp)
noncomputable def s_spec_l01Finite : List PT → Option (Bool × AV × List Blk)
  | [.one (.s (.flt .f32 x))] => some ((spec_l01Finite_p x), ((AV.v (TV.one (At.bool (spec_l01Finite_v0 x)))), []))
  | _ => none
def o_spec_l01Finite (x : Nat) : Option (Bool) → Option (AV × List Blk)
  | some r => some ((AV.v (TV.one (At.bool r))), [])
  | none => none
theorem e_spec_l01Finite (x : Nat) : evFn Γ0 8 8 64 (impTs 0 [.one (.s (.flt .f32 x))]).1 (impTs 0 [.one (.s (.flt .f32 x))]).2 (expo (impTs 0 [.one (.s (.flt .f32 x))]).2.length) = T_spec_l01Finite x (fun c0_ => some ((AV.v (TV.one (At.bool c0_))), [])) := by kernel_rfl
theorem s_spec_l01Finite_ok : SumOne Try.prog 64 s_spec_l01Finite := sum_of (Γ := Γ0) (fuel := 8) (d := 8) tyTab_ok (FnL.ok fnTab_ok _ _) (LpL.ok lt0_ok) (SumL.ok tb0_ok _) mixed (by
  intro pts v news hp hc
  clear hc
  unfold s_spec_l01Finite at hp
  split at hp
  · rename_i x
    exact Eq.trans (Eq.trans (e_spec_l01Finite x) (T_spec_l01Finite_nat (o_spec_l01Finite x) rfl x (fun c0_ => some c0_))) (fin_out (o := (o_spec_l01Finite x)) (x := F_spec_l01Finite x) (d := default) (V := fun r => ((AV.v (TV.one (At.bool r))), [])) (fun r => rfl) hp)
  · cases hp)
noncomputable def s_laws_szFloat32S : List PT → Option (Bool × AV × List Blk)
  | [.one (.row 1 a_n (.fl .f32 a)), .one (.s (.int .i64 left))] => some ((laws_szFloat32S_p a_n a left), ((AV.v (TV.one (At.int IntKind.i64 (laws_szFloat32S_v0 a_n a left)))), []))
  | _ => none
def o_laws_szFloat32S (a_n : Nat) (a : List Nat) (left : Int) : Option (Int) → Option (AV × List Blk)
  | some r => some ((AV.v (TV.one (At.int IntKind.i64 r))), [])
  | none => none
theorem e_laws_szFloat32S (a_n : Nat) (a : List Nat) (left : Int) : evFn Γ0 8 8 70 (impTs 0 [.one (.row 1 a_n (.fl .f32 a)), .one (.s (.int .i64 left))]).1 (impTs 0 [.one (.row 1 a_n (.fl .f32 a)), .one (.s (.int .i64 left))]).2 (expo (impTs 0 [.one (.row 1 a_n (.fl .f32 a)), .one (.s (.int .i64 left))]).2.length) = T_laws_szFloat32S a_n a left (fun c0_ => some ((AV.v (TV.one (At.int IntKind.i64 c0_))), [])) := by kernel_rfl
theorem s_laws_szFloat32S_ok : SumOne Try.prog 70 s_laws_szFloat32S := sum_of (Γ := Γ0) (fuel := 8) (d := 8) tyTab_ok (FnL.ok fnTab_ok _ _) (LpL.ok lt0_ok) (SumL.ok tb0_ok _) mixed (by
  intro pts v news hp hc
  clear hc
  unfold s_laws_szFloat32S at hp
  split at hp
  · rename_i a_n a left
    exact Eq.trans (Eq.trans (e_laws_szFloat32S a_n a left) (T_laws_szFloat32S_nat (o_laws_szFloat32S a_n a left) rfl a_n a left (fun c0_ => some c0_))) (fin_out (o := (o_laws_szFloat32S a_n a left)) (x := F_laws_szFloat32S a_n a left) (d := default) (V := fun r => ((AV.v (TV.one (At.int IntKind.i64 r))), [])) (fun r => rfl) hp)
  · cases hp)
noncomputable def s_spec_l04Power : List PT → Option (Bool × AV × List Blk)
  | [.one (.s (.flt .f32 density)), .one (.s (.flt .f32 speed))] => some ((spec_l04Power_p density speed), ((AV.v (TV.one (At.flt FloatKind.f32 (spec_l04Power_v0 density speed)))), []))
  | _ => none
def o_spec_l04Power (density : Nat) (speed : Nat) : Option (Nat) → Option (AV × List Blk)
  | some r => some ((AV.v (TV.one (At.flt FloatKind.f32 r))), [])
  | none => none
theorem e_spec_l04Power (density : Nat) (speed : Nat) : evFn Γ0 8 8 72 (impTs 0 [.one (.s (.flt .f32 density)), .one (.s (.flt .f32 speed))]).1 (impTs 0 [.one (.s (.flt .f32 density)), .one (.s (.flt .f32 speed))]).2 (expo (impTs 0 [.one (.s (.flt .f32 density)), .one (.s (.flt .f32 speed))]).2.length) = T_spec_l04Power density speed (fun c0_ => some ((AV.v (TV.one (At.flt FloatKind.f32 c0_))), [])) := by kernel_rfl
theorem s_spec_l04Power_ok : SumOne Try.prog 72 s_spec_l04Power := sum_of (Γ := Γ0) (fuel := 8) (d := 8) tyTab_ok (FnL.ok fnTab_ok _ _) (LpL.ok lt0_ok) (SumL.ok tb0_ok _) mixed (by
  intro pts v news hp hc
  clear hc
  unfold s_spec_l04Power at hp
  split at hp
  · rename_i density speed
    exact Eq.trans (Eq.trans (e_spec_l04Power density speed) (T_spec_l04Power_nat (o_spec_l04Power density speed) rfl density speed (fun c0_ => some c0_))) (fin_out (o := (o_spec_l04Power density speed)) (x := F_spec_l04Power density speed) (d := default) (V := fun r => ((AV.v (TV.one (At.flt FloatKind.f32 r))), [])) (fun r => rfl) hp)
  · cases hp)
noncomputable def s_impl_IsFinite : List PT → Option (Bool × AV × List Blk)
  | [.one (.s (.flt .f32 x))] => some ((impl_IsFinite_p x), ((AV.v (TV.one (At.bool (impl_IsFinite_v0 x)))), []))
  | _ => none
def o_impl_IsFinite (x : Nat) : Option (Bool) → Option (AV × List Blk)
  | some r => some ((AV.v (TV.one (At.bool r))), [])
  | none => none
theorem e_impl_IsFinite (x : Nat) : evFn Γ0 8 8 78 (impTs 0 [.one (.s (.flt .f32 x))]).1 (impTs 0 [.one (.s (.flt .f32 x))]).2 (expo (impTs 0 [.one (.s (.flt .f32 x))]).2.length) = T_impl_IsFinite x (fun c0_ => some ((AV.v (TV.one (At.bool c0_))), [])) := by kernel_rfl
theorem s_impl_IsFinite_ok : SumOne Try.prog 78 s_impl_IsFinite := sum_of (Γ := Γ0) (fuel := 8) (d := 8) tyTab_ok (FnL.ok fnTab_ok _ _) (LpL.ok lt0_ok) (SumL.ok tb0_ok _) mixed (by
  intro pts v news hp hc
  clear hc
  unfold s_impl_IsFinite at hp
  split at hp
  · rename_i x
    exact Eq.trans (Eq.trans (e_impl_IsFinite x) (T_impl_IsFinite_nat (o_impl_IsFinite x) rfl x (fun c0_ => some c0_))) (fin_out (o := (o_impl_IsFinite x)) (x := F_impl_IsFinite x) (d := default) (V := fun r => ((AV.v (TV.one (At.bool r))), [])) (fun r => rfl) hp)
  · cases hp)
noncomputable def tb1 : List (Nat × (List PT → Option (Bool × AV × List Blk))) := [(129, s_math_Float64bits), (133, s_math_Float64frombits), (137, s_math_Float32bits), (139, s_math_archTrunc), (25, s_laws_sameFloat), (64, s_spec_l01Finite), (70, s_laws_szFloat32S), (72, s_spec_l04Power), (78, s_impl_IsFinite)]
noncomputable def lt1 : List ((Nat × Nat) × (Nat → St → Option (Bool × LO))) := []
noncomputable def Γ1 : Ctx := ⟨tyTab, fnTab, tblSum tb1, tblLp lt1⟩
theorem tb1_ok : SumL Try.prog tb1 := SumL.cons s_math_Float64bits_ok (SumL.cons s_math_Float64frombits_ok (SumL.cons s_math_Float32bits_ok (SumL.cons s_math_archTrunc_ok (SumL.cons s_laws_sameFloat_ok (SumL.cons s_spec_l01Finite_ok (SumL.cons s_laws_szFloat32S_ok (SumL.cons s_spec_l04Power_ok (SumL.cons s_impl_IsFinite_ok (SumL.nil)))))))))
theorem lt1_ok : LpL Try.prog fnTab lt1 := LpL.nil
noncomputable def s_laws_szRose : List PT → Option (Bool × AV × List Blk)
  | [.agg [.row 1 a_Shares_n (.fl .f32 a_Shares), .row 1 a_Speeds_n (.fl .f32 a_Speeds)], .one (.s (.int .i64 left))] => some ((laws_szRose_p a_Shares_n a_Shares a_Speeds_n a_Speeds left), ((AV.v (TV.one (At.int IntKind.i64 (laws_szRose_v0 a_Shares_n a_Shares a_Speeds_n a_Speeds left)))), []))
  | _ => none
def o_laws_szRose (a_Shares_n : Nat) (a_Shares : List Nat) (a_Speeds_n : Nat) (a_Speeds : List Nat) (left : Int) : Option (Int) → Option (AV × List Blk)
  | some r => some ((AV.v (TV.one (At.int IntKind.i64 r))), [])
  | none => none
theorem e_laws_szRose (a_Shares_n : Nat) (a_Shares : List Nat) (a_Speeds_n : Nat) (a_Speeds : List Nat) (left : Int) : evFn Γ1 8 8 21 (impTs 0 [.agg [.row 1 a_Shares_n (.fl .f32 a_Shares), .row 1 a_Speeds_n (.fl .f32 a_Speeds)], .one (.s (.int .i64 left))]).1 (impTs 0 [.agg [.row 1 a_Shares_n (.fl .f32 a_Shares), .row 1 a_Speeds_n (.fl .f32 a_Speeds)], .one (.s (.int .i64 left))]).2 (expo (impTs 0 [.agg [.row 1 a_Shares_n (.fl .f32 a_Shares), .row 1 a_Speeds_n (.fl .f32 a_Speeds)], .one (.s (.int .i64 left))]).2.length) = T_laws_szRose a_Shares_n a_Shares a_Speeds_n a_Speeds left (fun c0_ => some ((AV.v (TV.one (At.int IntKind.i64 c0_))), [])) := by kernel_rfl
theorem s_laws_szRose_ok : SumOne Try.prog 21 s_laws_szRose := sum_of (Γ := Γ1) (fuel := 8) (d := 8) tyTab_ok (FnL.ok fnTab_ok _ _) (LpL.ok lt1_ok) (SumL.ok tb1_ok _) mixed (by
  intro pts v news hp hc
  clear hc
  unfold s_laws_szRose at hp
  split at hp
  · rename_i a_Shares_n a_Shares a_Speeds_n a_Speeds left
    exact Eq.trans (Eq.trans (e_laws_szRose a_Shares_n a_Shares a_Speeds_n a_Speeds left) (T_laws_szRose_nat (o_laws_szRose a_Shares_n a_Shares a_Speeds_n a_Speeds left) rfl a_Shares_n a_Shares a_Speeds_n a_Speeds left (fun c0_ => some c0_))) (fin_out (o := (o_laws_szRose a_Shares_n a_Shares a_Speeds_n a_Speeds left)) (x := F_laws_szRose a_Shares_n a_Shares a_Speeds_n a_Speeds left) (d := default) (V := fun r => ((AV.v (TV.one (At.int IntKind.i64 r))), [])) (fun r => rfl) hp)
  · cases hp)
noncomputable def s_spec_l02Least : List PT → Option (Bool × AV × List Blk)
  | [.one (.s (.flt .f32 x))] => some ((spec_l02Least_p x), ((AV.v (TV.one (At.bool (spec_l02Least_v0 x)))), []))
  | _ => none
def o_spec_l02Least (x : Nat) : Option (Bool) → Option (AV × List Blk)
  | some r => some ((AV.v (TV.one (At.bool r))), [])
  | none => none
theorem e_spec_l02Least (x : Nat) : evFn Γ1 8 8 58 (impTs 0 [.one (.s (.flt .f32 x))]).1 (impTs 0 [.one (.s (.flt .f32 x))]).2 (expo (impTs 0 [.one (.s (.flt .f32 x))]).2.length) = T_spec_l02Least x (fun c0_ => some ((AV.v (TV.one (At.bool c0_))), [])) := by kernel_rfl
theorem s_spec_l02Least_ok : SumOne Try.prog 58 s_spec_l02Least := sum_of (Γ := Γ1) (fuel := 8) (d := 8) tyTab_ok (FnL.ok fnTab_ok _ _) (LpL.ok lt1_ok) (SumL.ok tb1_ok _) mixed (by
  intro pts v news hp hc
  clear hc
  unfold s_spec_l02Least at hp
  split at hp
  · rename_i x
    exact Eq.trans (Eq.trans (e_spec_l02Least x) (T_spec_l02Least_nat (o_spec_l02Least x) rfl x (fun c0_ => some c0_))) (fin_out (o := (o_spec_l02Least x)) (x := F_spec_l02Least x) (d := default) (V := fun r => ((AV.v (TV.one (At.bool r))), [])) (fun r => rfl) hp)
  · cases hp)
noncomputable def s_impl_isLeast : List PT → Option (Bool × AV × List Blk)
  | [.one (.s (.flt .f32 x))] => some ((impl_isLeast_p x), ((AV.v (TV.one (At.bool (impl_isLeast_v0 x)))), []))
  | _ => none
def o_impl_isLeast (x : Nat) : Option (Bool) → Option (AV × List Blk)
  | some r => some ((AV.v (TV.one (At.bool r))), [])
  | none => none
theorem e_impl_isLeast (x : Nat) : evFn Γ1 8 8 67 (impTs 0 [.one (.s (.flt .f32 x))]).1 (impTs 0 [.one (.s (.flt .f32 x))]).2 (expo (impTs 0 [.one (.s (.flt .f32 x))]).2.length) = T_impl_isLeast x (fun c0_ => some ((AV.v (TV.one (At.bool c0_))), [])) := by kernel_rfl
theorem s_impl_isLeast_ok : SumOne Try.prog 67 s_impl_isLeast := sum_of (Γ := Γ1) (fuel := 8) (d := 8) tyTab_ok (FnL.ok fnTab_ok _ _) (LpL.ok lt1_ok) (SumL.ok tb1_ok _) mixed (by
  intro pts v news hp hc
  clear hc
  unfold s_impl_isLeast at hp
  split at hp
  · rename_i x
    exact Eq.trans (Eq.trans (e_impl_isLeast x) (T_impl_isLeast_nat (o_impl_isLeast x) rfl x (fun c0_ => some c0_))) (fin_out (o := (o_impl_isLeast x)) (x := F_impl_isLeast x) (d := default) (V := fun r => ((AV.v (TV.one (At.bool r))), [])) (fun r => rfl) hp)
  · cases hp)
noncomputable def s_impl_checked : List PT → Option (Bool × AV × List Blk)
  | [.one (.s (.flt .f32 x))] => some ((impl_checked_p x), ((AV.tup [(TV.one (At.flt FloatKind.f32 (impl_checked_v0 x))), (TV.one (At.bool (impl_checked_v1 x)))]), []))
  | _ => none
def o_impl_checked (x : Nat) : Option (Nat × Bool) → Option (AV × List Blk)
  | some r => some ((AV.tup [(TV.one (At.flt FloatKind.f32 r.1)), (TV.one (At.bool r.2))]), [])
  | none => none
theorem e_impl_checked (x : Nat) : evFn Γ1 8 8 77 (impTs 0 [.one (.s (.flt .f32 x))]).1 (impTs 0 [.one (.s (.flt .f32 x))]).2 (expo (impTs 0 [.one (.s (.flt .f32 x))]).2.length) = T_impl_checked x (fun c0_ c1_ => some ((AV.tup [(TV.one (At.flt FloatKind.f32 c0_)), (TV.one (At.bool c1_))]), [])) := by kernel_rfl
theorem s_impl_checked_ok : SumOne Try.prog 77 s_impl_checked := sum_of (Γ := Γ1) (fuel := 8) (d := 8) tyTab_ok (FnL.ok fnTab_ok _ _) (LpL.ok lt1_ok) (SumL.ok tb1_ok _) mixed (by
  intro pts v news hp hc
  clear hc
  unfold s_impl_checked at hp
  split at hp
  · rename_i x
    exact Eq.trans (Eq.trans (e_impl_checked x) (T_impl_checked_nat (o_impl_checked x) rfl x (fun c0_ c1_ => some (c0_, c1_)))) (fin_out (o := (o_impl_checked x)) (x := F_impl_checked x) (d := default) (V := fun r => ((AV.tup [(TV.one (At.flt FloatKind.f32 r.1)), (TV.one (At.bool r.2))]), [])) (fun r => rfl) hp)
  · cases hp)
noncomputable def l_laws_toFloat32S_l3 : Nat → St → Option (Bool × LO)
  | 1, (St.mk [(0, (AV.v (TV.one (At.vw 0 0 an 1)))), (3, (AV.v (TV.one (At.sl 1 0 outn 1)))), (4, (AV.v (TV.one (At.int IntKind.i64 i))))] [(Blk.mk Bool.false (Body.fl FloatKind.f32 b0)), (Blk.mk Bool.true (Body.fl FloatKind.f32 b1))]) => some ((laws_toFloat32S_l3_p an outn b0 i b1), (LO.one (Ex.exit 0) (St.mk [(0, (AV.v (TV.one (At.vw 0 0 an 1)))), (3, (AV.v (TV.one (At.sl 1 0 outn 1)))), (4, (AV.v (TV.one (At.int IntKind.i64 (laws_toFloat32S_l3_a0_0 an outn b0 i b1))))), (11, (AV.v (TV.one (At.bool (laws_toFloat32S_l3_a0_1 an outn b0 i b1)))))] [(Blk.mk Bool.false (Body.fl FloatKind.f32 b0)), (Blk.mk Bool.true (Body.fl FloatKind.f32 (laws_toFloat32S_l3_a0_2 an outn b0 i b1)))])))
  | _, _ => none
def o_laws_toFloat32S_l3 (an : Nat) (outn : Nat) (b0 : List Nat) : Option ((Int × Bool × (List Nat))) → Option (Ex × St)
  | none => none
  | some r => some ((Ex.exit 0), (St.mk [(0, (AV.v (TV.one (At.vw 0 0 an 1)))), (3, (AV.v (TV.one (At.sl 1 0 outn 1)))), (4, (AV.v (TV.one (At.int IntKind.i64 r.1)))), (11, (AV.v (TV.one (At.bool r.2.1))))] [(Blk.mk Bool.false (Body.fl FloatKind.f32 b0)), (Blk.mk Bool.true (Body.fl FloatKind.f32 r.2.2))]))
def lo_laws_toFloat32S_l3 (an : Nat) (outn : Nat) (b0 : List Nat) (x : Option ((Int × Bool × (List Nat)))) : LO := (LO.one (Ex.exit 0) (St.mk [(0, (AV.v (TV.one (At.vw 0 0 an 1)))), (3, (AV.v (TV.one (At.sl 1 0 outn 1)))), (4, (AV.v (TV.one (At.int IntKind.i64 (x.getD default).1)))), (11, (AV.v (TV.one (At.bool (x.getD default).2.1))))] [(Blk.mk Bool.false (Body.fl FloatKind.f32 b0)), (Blk.mk Bool.true (Body.fl FloatKind.f32 (x.getD default).2.2))]))
theorem f_laws_toFloat32S_l3 (an : Nat) (outn : Nat) (b0 : List Nat) : ∀ x : Option ((Int × Bool × (List Nat))), x.isSome = true → (o_laws_toFloat32S_l3 an outn b0) x = some (pick (lo_laws_toFloat32S_l3 an outn b0 x))
  | none, h => by cases h
  | some r, _ => rfl
theorem r_laws_toFloat32S_l3 (an : Nat) (outn : Nat) (i : Int) (b0 : List Nat) (b1 : List Nat) (K : Ex → St → Option (Ex × St)) : evC (R := Ex × St) Γ1 (evFn Γ1 8 8) 74 1 fi74.nt fi74.live fi74.nl 8 (findL 3 (loopsIn fi74.code)) (St.mk [(0, (AV.v (TV.one (At.vw 0 0 an 1)))), (3, (AV.v (TV.one (At.sl 1 0 outn 1)))), (4, (AV.v (TV.one (At.int IntKind.i64 i))))] [(Blk.mk Bool.false (Body.fl FloatKind.f32 b0)), (Blk.mk Bool.true (Body.fl FloatKind.f32 b1))]) K = T_laws_toFloat32S_l3 an outn b0 i b1 (fun i' b1' => K .normal (St.mk [(0, (AV.v (TV.one (At.vw 0 0 an 1)))), (3, (AV.v (TV.one (At.sl 1 0 outn 1)))), (4, (AV.v (TV.one (At.int IntKind.i64 i'))))] [(Blk.mk Bool.false (Body.fl FloatKind.f32 b0)), (Blk.mk Bool.true (Body.fl FloatKind.f32 b1'))])) (fun c0_ c1_ c2_ => K (Ex.exit 0) (St.mk [(0, (AV.v (TV.one (At.vw 0 0 an 1)))), (3, (AV.v (TV.one (At.sl 1 0 outn 1)))), (4, (AV.v (TV.one (At.int IntKind.i64 c0_)))), (11, (AV.v (TV.one (At.bool c1_))))] [(Blk.mk Bool.false (Body.fl FloatKind.f32 b0)), (Blk.mk Bool.true (Body.fl FloatKind.f32 c2_))])) := by kernel_rfl
theorem i_laws_toFloat32S_l3 (an : Nat) (outn : Nat) (b0 : List Nat) : ∀ (n : Nat) (i : Int) (b1 : List Nat), iter 74 3 1 (evC (R := Ex × St) Γ1 (evFn Γ1 8 8) 74 1 fi74.nt fi74.live fi74.nl 8 (findL 3 (loopsIn fi74.code))) n (St.mk [(0, (AV.v (TV.one (At.vw 0 0 an 1)))), (3, (AV.v (TV.one (At.sl 1 0 outn 1)))), (4, (AV.v (TV.one (At.int IntKind.i64 i))))] [(Blk.mk Bool.false (Body.fl FloatKind.f32 b0)), (Blk.mk Bool.true (Body.fl FloatKind.f32 b1))]) (fun e st => some (e, st)) = (o_laws_toFloat32S_l3 an outn b0) (L_laws_toFloat32S_l3 an outn b0 n i b1) := by
  intro n
  induction n with
  | zero => intros; rfl
  | succ n ih =>
    intro i b1
    refine Eq.trans (r_laws_toFloat32S_l3 an outn i b0 b1 (fun e st => match e with | .normal => iter 74 3 1 (evC (R := Ex × St) Γ1 (evFn Γ1 8 8) 74 1 fi74.nt fi74.live fi74.nl 8 (findL 3 (loopsIn fi74.code))) n st (fun e st => some (e, st)) | e => some (e, st))) (Eq.trans ?_ (T_laws_toFloat32S_l3_nat (o_laws_toFloat32S_l3 an outn b0) rfl an outn b0 i b1 (fun i' b1' => L_laws_toFloat32S_l3 an outn b0 n i' b1') (fun c0_ c1_ c2_ => some (c0_, c1_, c2_))))
    exact congrArg (fun kn_ => T_laws_toFloat32S_l3 an outn b0 i b1 kn_ (fun c0_ c1_ c2_ => (o_laws_toFloat32S_l3 an outn b0) (some (c0_, c1_, c2_)))) (funext fun i' => funext fun b1' => ih i' b1')
theorem l_laws_toFloat32S_l3_ok : LoopOne Try.prog fnTab 74 3 l_laws_toFloat32S_l3 := lp_of (Γ := Γ1) tyTab_ok (FnL.ok fnTab_ok _ _) (LpL.ok lt1_ok) (SumL.ok tb1_ok _) mixed (fi := fi74) (by kernel_rfl) (by kernel_rfl) (by
  intro lo st out hp
  unfold l_laws_toFloat32S_l3 at hp
  split at hp
  · rename_i an outn i b0 b1
    injection hp with hp
    injection hp with h1 h2
    subst h2
    exact ⟨8, 8, big, Eq.trans (i_laws_toFloat32S_l3 an outn b0 big i b1) (f_laws_toFloat32S_l3 an outn b0 (L_laws_toFloat32S_l3 an outn b0 big i b1) h1)⟩
  · cases hp)
noncomputable def tb2 : List (Nat × (List PT → Option (Bool × AV × List Blk))) := [(129, s_math_Float64bits), (133, s_math_Float64frombits), (137, s_math_Float32bits), (139, s_math_archTrunc), (25, s_laws_sameFloat), (64, s_spec_l01Finite), (70, s_laws_szFloat32S), (72, s_spec_l04Power), (78, s_impl_IsFinite), (21, s_laws_szRose), (58, s_spec_l02Least), (67, s_impl_isLeast), (77, s_impl_checked)]
noncomputable def lt2 : List ((Nat × Nat) × (Nat → St → Option (Bool × LO))) := [((74, 3), l_laws_toFloat32S_l3)]
noncomputable def Γ2 : Ctx := ⟨tyTab, fnTab, tblSum tb2, tblLp lt2⟩
theorem tb2_ok : SumL Try.prog tb2 := SumL.cons s_math_Float64bits_ok (SumL.cons s_math_Float64frombits_ok (SumL.cons s_math_Float32bits_ok (SumL.cons s_math_archTrunc_ok (SumL.cons s_laws_sameFloat_ok (SumL.cons s_spec_l01Finite_ok (SumL.cons s_laws_szFloat32S_ok (SumL.cons s_spec_l04Power_ok (SumL.cons s_impl_IsFinite_ok (SumL.cons s_laws_szRose_ok (SumL.cons s_spec_l02Least_ok (SumL.cons s_impl_isLeast_ok (SumL.cons s_impl_checked_ok (SumL.nil)))))))))))))
theorem lt2_ok : LpL Try.prog fnTab lt2 := LpL.cons l_laws_toFloat32S_l3_ok (LpL.nil)
noncomputable def s_laws_toFloat32S : List PT → Option (Bool × AV × List Blk)
  | [.one (.row 1 a_n (.fl .f32 a))] => some ((laws_toFloat32S_p a_n a), ((AV.v (TV.one (At.sl 0 0 (laws_toFloat32S_v0 a_n a) 1))), [(Blk.mk Bool.true (Body.fl FloatKind.f32 (laws_toFloat32S_v1 a_n a)))]))
  | _ => none
def o_laws_toFloat32S (a_n : Nat) (a : List Nat) : Option (Nat × (List Nat)) → Option (AV × List Blk)
  | some r => some ((AV.v (TV.one (At.sl 0 0 r.1 1))), [(Blk.mk Bool.true (Body.fl FloatKind.f32 r.2))])
  | none => none
theorem e_laws_toFloat32S (a_n : Nat) (a : List Nat) : evFn Γ2 8 8 74 (impTs 0 [.one (.row 1 a_n (.fl .f32 a))]).1 (impTs 0 [.one (.row 1 a_n (.fl .f32 a))]).2 (expo (impTs 0 [.one (.row 1 a_n (.fl .f32 a))]).2.length) = T_laws_toFloat32S a_n a (fun c0_ c1_ => some ((AV.v (TV.one (At.sl 0 0 c0_ 1))), [(Blk.mk Bool.true (Body.fl FloatKind.f32 c1_))])) := by kernel_rfl
theorem s_laws_toFloat32S_ok : SumOne Try.prog 74 s_laws_toFloat32S := sum_of (Γ := Γ2) (fuel := 8) (d := 8) tyTab_ok (FnL.ok fnTab_ok _ _) (LpL.ok lt2_ok) (SumL.ok tb2_ok _) mixed (by
  intro pts v news hp hc
  clear hc
  unfold s_laws_toFloat32S at hp
  split at hp
  · rename_i a_n a
    exact Eq.trans (Eq.trans (e_laws_toFloat32S a_n a) (T_laws_toFloat32S_nat (o_laws_toFloat32S a_n a) rfl a_n a (fun c0_ c1_ => some (c0_, c1_)))) (fin_out (o := (o_laws_toFloat32S a_n a)) (x := F_laws_toFloat32S a_n a) (d := default) (V := fun r => ((AV.v (TV.one (At.sl 0 0 r.1 1))), [(Blk.mk Bool.true (Body.fl FloatKind.f32 r.2))])) (fun r => rfl) hp)
  · cases hp)
noncomputable def s_impl_areLeast_1 : List PT → Option (Bool × AV × List Blk)
  | [.one (.s (.flt .f32 x))] => some ((impl_areLeast_1_p x), ((AV.v (TV.one (At.bool (impl_areLeast_1_v0 x)))), []))
  | _ => none
def o_impl_areLeast_1 (x : Nat) : Option (Bool) → Option (AV × List Blk)
  | some r => some ((AV.v (TV.one (At.bool r))), [])
  | none => none
theorem e_impl_areLeast_1 (x : Nat) : evFn Γ2 8 8 126 (impTs 0 [.one (.s (.flt .f32 x))]).1 (impTs 0 [.one (.s (.flt .f32 x))]).2 (expo (impTs 0 [.one (.s (.flt .f32 x))]).2.length) = T_impl_areLeast_1 x (fun c0_ => some ((AV.v (TV.one (At.bool c0_))), [])) := by kernel_rfl
theorem s_impl_areLeast_1_ok : SumOne Try.prog 126 s_impl_areLeast_1 := sum_of (Γ := Γ2) (fuel := 8) (d := 8) tyTab_ok (FnL.ok fnTab_ok _ _) (LpL.ok lt2_ok) (SumL.ok tb2_ok _) mixed (by
  intro pts v news hp hc
  clear hc
  unfold s_impl_areLeast_1 at hp
  split at hp
  · rename_i x
    exact Eq.trans (Eq.trans (e_impl_areLeast_1 x) (T_impl_areLeast_1_nat (o_impl_areLeast_1 x) rfl x (fun c0_ => some c0_))) (fin_out (o := (o_impl_areLeast_1 x)) (x := F_impl_areLeast_1 x) (d := default) (V := fun r => ((AV.v (TV.one (At.bool r))), [])) (fun r => rfl) hp)
  · cases hp)
noncomputable def l_laws_eqFloat32S_l4 : Nat → St → Option (Bool × LO)
  | 2, (St.mk [(0, (AV.v (TV.one (At.vw 0 0 an 1)))), (1, (AV.v (TV.one (At.vw 1 0 bn 1)))), (5, (AV.v (TV.one (At.int IntKind.i64 i))))] [(Blk.mk Bool.false (Body.fl FloatKind.f32 b0)), (Blk.mk Bool.false (Body.fl FloatKind.f32 b1))]) => some ((laws_eqFloat32S_l4_p an bn b0 b1 i), (LO.two (laws_eqFloat32S_l4_w0 an bn b0 b1 i) (LO.one Ex.ret (St.mk [(4, (AV.v (TV.one (At.bool Bool.false))))] [(Blk.mk Bool.false (Body.fl FloatKind.f32 b0)), (Blk.mk Bool.false (Body.fl FloatKind.f32 b1))])) (LO.one (Ex.exit 0) (St.mk [(0, (AV.v (TV.one (At.vw 0 0 an 1)))), (1, (AV.v (TV.one (At.vw 1 0 bn 1)))), (5, (AV.v (TV.one (At.int IntKind.i64 (laws_eqFloat32S_l4_a1_0 an bn b0 b1 i))))), (14, (AV.v (TV.one (At.bool (laws_eqFloat32S_l4_a1_1 an bn b0 b1 i)))))] [(Blk.mk Bool.false (Body.fl FloatKind.f32 b0)), (Blk.mk Bool.false (Body.fl FloatKind.f32 b1))]))))
  | _, _ => none
def o_laws_eqFloat32S_l4 (an : Nat) (bn : Nat) (b0 : List Nat) (b1 : List Nat) : Option ((Unit) ⊕ (Int × Bool)) → Option (Ex × St)
  | none => none
  | some (Sum.inl r) => some (Ex.ret, (St.mk [(4, (AV.v (TV.one (At.bool Bool.false))))] [(Blk.mk Bool.false (Body.fl FloatKind.f32 b0)), (Blk.mk Bool.false (Body.fl FloatKind.f32 b1))]))
  | some (Sum.inr r) => some ((Ex.exit 0), (St.mk [(0, (AV.v (TV.one (At.vw 0 0 an 1)))), (1, (AV.v (TV.one (At.vw 1 0 bn 1)))), (5, (AV.v (TV.one (At.int IntKind.i64 r.1)))), (14, (AV.v (TV.one (At.bool r.2))))] [(Blk.mk Bool.false (Body.fl FloatKind.f32 b0)), (Blk.mk Bool.false (Body.fl FloatKind.f32 b1))]))
def lo_laws_eqFloat32S_l4 (an : Nat) (bn : Nat) (b0 : List Nat) (b1 : List Nat) (x : Option ((Unit) ⊕ (Int × Bool))) : LO := (LO.two (oL x) (LO.one Ex.ret (St.mk [(4, (AV.v (TV.one (At.bool Bool.false))))] [(Blk.mk Bool.false (Body.fl FloatKind.f32 b0)), (Blk.mk Bool.false (Body.fl FloatKind.f32 b1))])) (LO.one (Ex.exit 0) (St.mk [(0, (AV.v (TV.one (At.vw 0 0 an 1)))), (1, (AV.v (TV.one (At.vw 1 0 bn 1)))), (5, (AV.v (TV.one (At.int IntKind.i64 ((tR x).getD default).1)))), (14, (AV.v (TV.one (At.bool ((tR x).getD default).2))))] [(Blk.mk Bool.false (Body.fl FloatKind.f32 b0)), (Blk.mk Bool.false (Body.fl FloatKind.f32 b1))])))
theorem f_laws_eqFloat32S_l4 (an : Nat) (bn : Nat) (b0 : List Nat) (b1 : List Nat) : ∀ x : Option ((Unit) ⊕ (Int × Bool)), x.isSome = true → (o_laws_eqFloat32S_l4 an bn b0 b1) x = some (pick (lo_laws_eqFloat32S_l4 an bn b0 b1 x))
  | none, h => by cases h
  | some (Sum.inl r), _ => rfl
  | some (Sum.inr r), _ => rfl
theorem r_laws_eqFloat32S_l4 (an : Nat) (bn : Nat) (i : Int) (b0 : List Nat) (b1 : List Nat) (K : Ex → St → Option (Ex × St)) : evC (R := Ex × St) Γ2 (evFn Γ2 8 8) 18 2 fi18.nt fi18.live fi18.nl 8 (findL 4 (loopsIn fi18.code)) (St.mk [(0, (AV.v (TV.one (At.vw 0 0 an 1)))), (1, (AV.v (TV.one (At.vw 1 0 bn 1)))), (5, (AV.v (TV.one (At.int IntKind.i64 i))))] [(Blk.mk Bool.false (Body.fl FloatKind.f32 b0)), (Blk.mk Bool.false (Body.fl FloatKind.f32 b1))]) K = T_laws_eqFloat32S_l4 an bn b0 b1 i (fun i' => K .normal (St.mk [(0, (AV.v (TV.one (At.vw 0 0 an 1)))), (1, (AV.v (TV.one (At.vw 1 0 bn 1)))), (5, (AV.v (TV.one (At.int IntKind.i64 i'))))] [(Blk.mk Bool.false (Body.fl FloatKind.f32 b0)), (Blk.mk Bool.false (Body.fl FloatKind.f32 b1))])) (fun _ => K Ex.ret (St.mk [(4, (AV.v (TV.one (At.bool Bool.false))))] [(Blk.mk Bool.false (Body.fl FloatKind.f32 b0)), (Blk.mk Bool.false (Body.fl FloatKind.f32 b1))])) (fun c0_ c1_ => K (Ex.exit 0) (St.mk [(0, (AV.v (TV.one (At.vw 0 0 an 1)))), (1, (AV.v (TV.one (At.vw 1 0 bn 1)))), (5, (AV.v (TV.one (At.int IntKind.i64 c0_)))), (14, (AV.v (TV.one (At.bool c1_))))] [(Blk.mk Bool.false (Body.fl FloatKind.f32 b0)), (Blk.mk Bool.false (Body.fl FloatKind.f32 b1))])) := by kernel_rfl
theorem i_laws_eqFloat32S_l4 (an : Nat) (bn : Nat) (b0 : List Nat) (b1 : List Nat) : ∀ (n : Nat) (i : Int), iter 18 4 2 (evC (R := Ex × St) Γ2 (evFn Γ2 8 8) 18 2 fi18.nt fi18.live fi18.nl 8 (findL 4 (loopsIn fi18.code))) n (St.mk [(0, (AV.v (TV.one (At.vw 0 0 an 1)))), (1, (AV.v (TV.one (At.vw 1 0 bn 1)))), (5, (AV.v (TV.one (At.int IntKind.i64 i))))] [(Blk.mk Bool.false (Body.fl FloatKind.f32 b0)), (Blk.mk Bool.false (Body.fl FloatKind.f32 b1))]) (fun e st => some (e, st)) = (o_laws_eqFloat32S_l4 an bn b0 b1) (L_laws_eqFloat32S_l4 an bn b0 b1 n i) := by
  intro n
  induction n with
  | zero => intros; rfl
  | succ n ih =>
    intro i
    refine Eq.trans (r_laws_eqFloat32S_l4 an bn i b0 b1 (fun e st => match e with | .normal => iter 18 4 2 (evC (R := Ex × St) Γ2 (evFn Γ2 8 8) 18 2 fi18.nt fi18.live fi18.nl 8 (findL 4 (loopsIn fi18.code))) n st (fun e st => some (e, st)) | e => some (e, st))) (Eq.trans ?_ (T_laws_eqFloat32S_l4_nat (o_laws_eqFloat32S_l4 an bn b0 b1) rfl an bn b0 b1 i (fun i' => L_laws_eqFloat32S_l4 an bn b0 b1 n i') (fun _ => some (Sum.inl ())) (fun c0_ c1_ => some (Sum.inr (c0_, c1_)))))
    exact congrArg (fun kn_ => T_laws_eqFloat32S_l4 an bn b0 b1 i kn_ (fun _ => (o_laws_eqFloat32S_l4 an bn b0 b1) (some (Sum.inl ()))) (fun c0_ c1_ => (o_laws_eqFloat32S_l4 an bn b0 b1) (some (Sum.inr (c0_, c1_))))) (funext fun i' => ih i')
theorem l_laws_eqFloat32S_l4_ok : LoopOne Try.prog fnTab 18 4 l_laws_eqFloat32S_l4 := lp_of (Γ := Γ2) tyTab_ok (FnL.ok fnTab_ok _ _) (LpL.ok lt2_ok) (SumL.ok tb2_ok _) mixed (fi := fi18) (by kernel_rfl) (by kernel_rfl) (by
  intro lo st out hp
  unfold l_laws_eqFloat32S_l4 at hp
  split at hp
  · rename_i an bn i b0 b1
    injection hp with hp
    injection hp with h1 h2
    subst h2
    exact ⟨8, 8, big, Eq.trans (i_laws_eqFloat32S_l4 an bn b0 b1 big i) (f_laws_eqFloat32S_l4 an bn b0 b1 (L_laws_eqFloat32S_l4 an bn b0 b1 big i) h1)⟩
  · cases hp)
noncomputable def tb3 : List (Nat × (List PT → Option (Bool × AV × List Blk))) := [(129, s_math_Float64bits), (133, s_math_Float64frombits), (137, s_math_Float32bits), (139, s_math_archTrunc), (25, s_laws_sameFloat), (64, s_spec_l01Finite), (70, s_laws_szFloat32S), (72, s_spec_l04Power), (78, s_impl_IsFinite), (21, s_laws_szRose), (58, s_spec_l02Least), (67, s_impl_isLeast), (77, s_impl_checked), (74, s_laws_toFloat32S), (126, s_impl_areLeast_1)]
noncomputable def lt3 : List ((Nat × Nat) × (Nat → St → Option (Bool × LO))) := [((74, 3), l_laws_toFloat32S_l3), ((18, 4), l_laws_eqFloat32S_l4)]
noncomputable def Γ3 : Ctx := ⟨tyTab, fnTab, tblSum tb3, tblLp lt3⟩
theorem tb3_ok : SumL Try.prog tb3 := SumL.cons s_math_Float64bits_ok (SumL.cons s_math_Float64frombits_ok (SumL.cons s_math_Float32bits_ok (SumL.cons s_math_archTrunc_ok (SumL.cons s_laws_sameFloat_ok (SumL.cons s_spec_l01Finite_ok (SumL.cons s_laws_szFloat32S_ok (SumL.cons s_spec_l04Power_ok (SumL.cons s_impl_IsFinite_ok (SumL.cons s_laws_szRose_ok (SumL.cons s_spec_l02Least_ok (SumL.cons s_impl_isLeast_ok (SumL.cons s_impl_checked_ok (SumL.cons s_laws_toFloat32S_ok (SumL.cons s_impl_areLeast_1_ok (SumL.nil)))))))))))))))
theorem lt3_ok : LpL Try.prog fnTab lt3 := LpL.cons l_laws_toFloat32S_l3_ok (LpL.cons l_laws_eqFloat32S_l4_ok (LpL.nil))
noncomputable def s_laws_eqFloat32S : List PT → Option (Bool × AV × List Blk)
  | [.one (.row 1 a_n (.fl .f32 a)), .one (.row 1 b_n (.fl .f32 b))] => some ((laws_eqFloat32S_p a_n a b_n b), ((AV.v (TV.one (At.bool (laws_eqFloat32S_v0 a_n a b_n b)))), []))
  | _ => none
def o_laws_eqFloat32S (a_n : Nat) (a : List Nat) (b_n : Nat) (b : List Nat) : Option (Bool) → Option (AV × List Blk)
  | some r => some ((AV.v (TV.one (At.bool r))), [])
  | none => none
theorem e_laws_eqFloat32S (a_n : Nat) (a : List Nat) (b_n : Nat) (b : List Nat) : evFn Γ3 8 8 18 (impTs 0 [.one (.row 1 a_n (.fl .f32 a)), .one (.row 1 b_n (.fl .f32 b))]).1 (impTs 0 [.one (.row 1 a_n (.fl .f32 a)), .one (.row 1 b_n (.fl .f32 b))]).2 (expo (impTs 0 [.one (.row 1 a_n (.fl .f32 a)), .one (.row 1 b_n (.fl .f32 b))]).2.length) = T_laws_eqFloat32S a_n a b_n b (fun c0_ => some ((AV.v (TV.one (At.bool c0_))), [])) := by kernel_rfl
theorem s_laws_eqFloat32S_ok : SumOne Try.prog 18 s_laws_eqFloat32S := sum_of (Γ := Γ3) (fuel := 8) (d := 8) tyTab_ok (FnL.ok fnTab_ok _ _) (LpL.ok lt3_ok) (SumL.ok tb3_ok _) mixed (by
  intro pts v news hp hc
  clear hc
  unfold s_laws_eqFloat32S at hp
  split at hp
  · rename_i a_n a b_n b
    exact Eq.trans (Eq.trans (e_laws_eqFloat32S a_n a b_n b) (T_laws_eqFloat32S_nat (o_laws_eqFloat32S a_n a b_n b) rfl a_n a b_n b (fun c0_ => some c0_))) (fin_out (o := (o_laws_eqFloat32S a_n a b_n b)) (x := F_laws_eqFloat32S a_n a b_n b) (d := default) (V := fun r => ((AV.v (TV.one (At.bool r))), [])) (fun r => rfl) hp)
  · cases hp)
noncomputable def s_laws_toRose : List PT → Option (Bool × AV × List Blk)
  | [.agg [.row 1 a_Shares_n (.fl .f32 a_Shares), .row 1 a_Speeds_n (.fl .f32 a_Speeds)]] => some ((laws_toRose_p a_Shares_n a_Shares a_Speeds_n a_Speeds), ((AV.v (TV.agg [(At.sl 0 0 (laws_toRose_v0 a_Shares_n a_Shares a_Speeds_n a_Speeds) 1), (At.sl 1 0 (laws_toRose_v1 a_Shares_n a_Shares a_Speeds_n a_Speeds) 1)])), [(Blk.mk Bool.true (Body.fl FloatKind.f32 (laws_toRose_v2 a_Shares_n a_Shares a_Speeds_n a_Speeds))), (Blk.mk Bool.true (Body.fl FloatKind.f32 (laws_toRose_v3 a_Shares_n a_Shares a_Speeds_n a_Speeds)))]))
  | _ => none
def o_laws_toRose (a_Shares_n : Nat) (a_Shares : List Nat) (a_Speeds_n : Nat) (a_Speeds : List Nat) : Option (Nat × Nat × (List Nat) × (List Nat)) → Option (AV × List Blk)
  | some r => some ((AV.v (TV.agg [(At.sl 0 0 r.1 1), (At.sl 1 0 r.2.1 1)])), [(Blk.mk Bool.true (Body.fl FloatKind.f32 r.2.2.1)), (Blk.mk Bool.true (Body.fl FloatKind.f32 r.2.2.2))])
  | none => none
theorem e_laws_toRose (a_Shares_n : Nat) (a_Shares : List Nat) (a_Speeds_n : Nat) (a_Speeds : List Nat) : evFn Γ3 8 8 23 (impTs 0 [.agg [.row 1 a_Shares_n (.fl .f32 a_Shares), .row 1 a_Speeds_n (.fl .f32 a_Speeds)]]).1 (impTs 0 [.agg [.row 1 a_Shares_n (.fl .f32 a_Shares), .row 1 a_Speeds_n (.fl .f32 a_Speeds)]]).2 (expo (impTs 0 [.agg [.row 1 a_Shares_n (.fl .f32 a_Shares), .row 1 a_Speeds_n (.fl .f32 a_Speeds)]]).2.length) = T_laws_toRose a_Shares_n a_Shares a_Speeds_n a_Speeds (fun c0_ c1_ c2_ c3_ => some ((AV.v (TV.agg [(At.sl 0 0 c0_ 1), (At.sl 1 0 c1_ 1)])), [(Blk.mk Bool.true (Body.fl FloatKind.f32 c2_)), (Blk.mk Bool.true (Body.fl FloatKind.f32 c3_))])) := by kernel_rfl
theorem s_laws_toRose_ok : SumOne Try.prog 23 s_laws_toRose := sum_of (Γ := Γ3) (fuel := 8) (d := 8) tyTab_ok (FnL.ok fnTab_ok _ _) (LpL.ok lt3_ok) (SumL.ok tb3_ok _) mixed (by
  intro pts v news hp hc
  clear hc
  unfold s_laws_toRose at hp
  split at hp
  · rename_i a_Shares_n a_Shares a_Speeds_n a_Speeds
    exact Eq.trans (Eq.trans (e_laws_toRose a_Shares_n a_Shares a_Speeds_n a_Speeds) (T_laws_toRose_nat (o_laws_toRose a_Shares_n a_Shares a_Speeds_n a_Speeds) rfl a_Shares_n a_Shares a_Speeds_n a_Speeds (fun c0_ c1_ c2_ c3_ => some (c0_, c1_, c2_, c3_)))) (fin_out (o := (o_laws_toRose a_Shares_n a_Shares a_Speeds_n a_Speeds)) (x := F_laws_toRose a_Shares_n a_Shares a_Speeds_n a_Speeds) (d := default) (V := fun r => ((AV.v (TV.agg [(At.sl 0 0 r.1 1), (At.sl 1 0 r.2.1 1)])), [(Blk.mk Bool.true (Body.fl FloatKind.f32 r.2.2.1)), (Blk.mk Bool.true (Body.fl FloatKind.f32 r.2.2.2))])) (fun r => rfl) hp)
  · cases hp)
noncomputable def l_spec_l04Rose_l5 : Nat → St → Option (Bool × LO)
  | 3, (St.mk [(0, (AV.v (TV.one (At.ptr 2 0 2)))), (3, (AV.v (TV.one (At.int IntKind.i64 n_)))), (4, (AV.v (TV.one (At.int IntKind.i64 k))))] [(Blk.mk Bool.false (Body.fl FloatKind.f32 b0)), (Blk.mk Bool.false (Body.fl FloatKind.f32 b1)), (Blk.mk Bool.false (Body.cells [(At.vw 0 0 b2_0n 1), (At.vw 1 0 b2_1n 1)]))]) => some ((spec_l04Rose_l5_p n_ b0 b1 b2_0n b2_1n k), (LO.two (spec_l04Rose_l5_w0 n_ b0 b1 b2_0n b2_1n k) (LO.one Ex.ret (St.mk [(2, (AV.v (TV.one (At.bool Bool.false))))] [(Blk.mk Bool.false (Body.fl FloatKind.f32 b0)), (Blk.mk Bool.false (Body.fl FloatKind.f32 b1)), (Blk.mk Bool.false (Body.cells [(At.vw 0 0 b2_0n 1), (At.vw 1 0 b2_1n 1)]))])) (LO.one (Ex.exit 0) (St.mk [(0, (AV.v (TV.one (At.ptr 2 0 2)))), (3, (AV.v (TV.one (At.int IntKind.i64 n_)))), (4, (AV.v (TV.one (At.int IntKind.i64 (spec_l04Rose_l5_a1_0 n_ b0 b1 b2_0n b2_1n k))))), (27, (AV.v (TV.one (At.bool (spec_l04Rose_l5_a1_1 n_ b0 b1 b2_0n b2_1n k)))))] [(Blk.mk Bool.false (Body.fl FloatKind.f32 b0)), (Blk.mk Bool.false (Body.fl FloatKind.f32 b1)), (Blk.mk Bool.false (Body.cells [(At.vw 0 0 b2_0n 1), (At.vw 1 0 b2_1n 1)]))]))))
  | _, _ => none
def o_spec_l04Rose_l5 (n_ : Int) (b0 : List Nat) (b1 : List Nat) (b2_0n : Nat) (b2_1n : Nat) : Option ((Unit) ⊕ (Int × Bool)) → Option (Ex × St)
  | none => none
  | some (Sum.inl r) => some (Ex.ret, (St.mk [(2, (AV.v (TV.one (At.bool Bool.false))))] [(Blk.mk Bool.false (Body.fl FloatKind.f32 b0)), (Blk.mk Bool.false (Body.fl FloatKind.f32 b1)), (Blk.mk Bool.false (Body.cells [(At.vw 0 0 b2_0n 1), (At.vw 1 0 b2_1n 1)]))]))
  | some (Sum.inr r) => some ((Ex.exit 0), (St.mk [(0, (AV.v (TV.one (At.ptr 2 0 2)))), (3, (AV.v (TV.one (At.int IntKind.i64 n_)))), (4, (AV.v (TV.one (At.int IntKind.i64 r.1)))), (27, (AV.v (TV.one (At.bool r.2))))] [(Blk.mk Bool.false (Body.fl FloatKind.f32 b0)), (Blk.mk Bool.false (Body.fl FloatKind.f32 b1)), (Blk.mk Bool.false (Body.cells [(At.vw 0 0 b2_0n 1), (At.vw 1 0 b2_1n 1)]))]))
def lo_spec_l04Rose_l5 (n_ : Int) (b0 : List Nat) (b1 : List Nat) (b2_0n : Nat) (b2_1n : Nat) (x : Option ((Unit) ⊕ (Int × Bool))) : LO := (LO.two (oL x) (LO.one Ex.ret (St.mk [(2, (AV.v (TV.one (At.bool Bool.false))))] [(Blk.mk Bool.false (Body.fl FloatKind.f32 b0)), (Blk.mk Bool.false (Body.fl FloatKind.f32 b1)), (Blk.mk Bool.false (Body.cells [(At.vw 0 0 b2_0n 1), (At.vw 1 0 b2_1n 1)]))])) (LO.one (Ex.exit 0) (St.mk [(0, (AV.v (TV.one (At.ptr 2 0 2)))), (3, (AV.v (TV.one (At.int IntKind.i64 n_)))), (4, (AV.v (TV.one (At.int IntKind.i64 ((tR x).getD default).1)))), (27, (AV.v (TV.one (At.bool ((tR x).getD default).2))))] [(Blk.mk Bool.false (Body.fl FloatKind.f32 b0)), (Blk.mk Bool.false (Body.fl FloatKind.f32 b1)), (Blk.mk Bool.false (Body.cells [(At.vw 0 0 b2_0n 1), (At.vw 1 0 b2_1n 1)]))])))
theorem f_spec_l04Rose_l5 (n_ : Int) (b0 : List Nat) (b1 : List Nat) (b2_0n : Nat) (b2_1n : Nat) : ∀ x : Option ((Unit) ⊕ (Int × Bool)), x.isSome = true → (o_spec_l04Rose_l5 n_ b0 b1 b2_0n b2_1n) x = some (pick (lo_spec_l04Rose_l5 n_ b0 b1 b2_0n b2_1n x))
  | none, h => by cases h
  | some (Sum.inl r), _ => rfl
  | some (Sum.inr r), _ => rfl
theorem r_spec_l04Rose_l5 (n_ : Int) (k : Int) (b0 : List Nat) (b1 : List Nat) (b2_0n : Nat) (b2_1n : Nat) (K : Ex → St → Option (Ex × St)) : evC (R := Ex × St) Γ3 (evFn Γ3 8 8) 71 3 fi71.nt fi71.live fi71.nl 8 (findL 5 (loopsIn fi71.code)) (St.mk [(0, (AV.v (TV.one (At.ptr 2 0 2)))), (3, (AV.v (TV.one (At.int IntKind.i64 n_)))), (4, (AV.v (TV.one (At.int IntKind.i64 k))))] [(Blk.mk Bool.false (Body.fl FloatKind.f32 b0)), (Blk.mk Bool.false (Body.fl FloatKind.f32 b1)), (Blk.mk Bool.false (Body.cells [(At.vw 0 0 b2_0n 1), (At.vw 1 0 b2_1n 1)]))]) K = T_spec_l04Rose_l5 n_ b0 b1 b2_0n b2_1n k (fun k' => K .normal (St.mk [(0, (AV.v (TV.one (At.ptr 2 0 2)))), (3, (AV.v (TV.one (At.int IntKind.i64 n_)))), (4, (AV.v (TV.one (At.int IntKind.i64 k'))))] [(Blk.mk Bool.false (Body.fl FloatKind.f32 b0)), (Blk.mk Bool.false (Body.fl FloatKind.f32 b1)), (Blk.mk Bool.false (Body.cells [(At.vw 0 0 b2_0n 1), (At.vw 1 0 b2_1n 1)]))])) (fun _ => K Ex.ret (St.mk [(2, (AV.v (TV.one (At.bool Bool.false))))] [(Blk.mk Bool.false (Body.fl FloatKind.f32 b0)), (Blk.mk Bool.false (Body.fl FloatKind.f32 b1)), (Blk.mk Bool.false (Body.cells [(At.vw 0 0 b2_0n 1), (At.vw 1 0 b2_1n 1)]))])) (fun c0_ c1_ => K (Ex.exit 0) (St.mk [(0, (AV.v (TV.one (At.ptr 2 0 2)))), (3, (AV.v (TV.one (At.int IntKind.i64 n_)))), (4, (AV.v (TV.one (At.int IntKind.i64 c0_)))), (27, (AV.v (TV.one (At.bool c1_))))] [(Blk.mk Bool.false (Body.fl FloatKind.f32 b0)), (Blk.mk Bool.false (Body.fl FloatKind.f32 b1)), (Blk.mk Bool.false (Body.cells [(At.vw 0 0 b2_0n 1), (At.vw 1 0 b2_1n 1)]))])) := by kernel_rfl
theorem i_spec_l04Rose_l5 (n_ : Int) (b0 : List Nat) (b1 : List Nat) (b2_0n : Nat) (b2_1n : Nat) : ∀ (n : Nat) (k : Int), iter 71 5 3 (evC (R := Ex × St) Γ3 (evFn Γ3 8 8) 71 3 fi71.nt fi71.live fi71.nl 8 (findL 5 (loopsIn fi71.code))) n (St.mk [(0, (AV.v (TV.one (At.ptr 2 0 2)))), (3, (AV.v (TV.one (At.int IntKind.i64 n_)))), (4, (AV.v (TV.one (At.int IntKind.i64 k))))] [(Blk.mk Bool.false (Body.fl FloatKind.f32 b0)), (Blk.mk Bool.false (Body.fl FloatKind.f32 b1)), (Blk.mk Bool.false (Body.cells [(At.vw 0 0 b2_0n 1), (At.vw 1 0 b2_1n 1)]))]) (fun e st => some (e, st)) = (o_spec_l04Rose_l5 n_ b0 b1 b2_0n b2_1n) (L_spec_l04Rose_l5 n_ b0 b1 b2_0n b2_1n n k) := by
  intro n
  induction n with
  | zero => intros; rfl
  | succ n ih =>
    intro k
    refine Eq.trans (r_spec_l04Rose_l5 n_ k b0 b1 b2_0n b2_1n (fun e st => match e with | .normal => iter 71 5 3 (evC (R := Ex × St) Γ3 (evFn Γ3 8 8) 71 3 fi71.nt fi71.live fi71.nl 8 (findL 5 (loopsIn fi71.code))) n st (fun e st => some (e, st)) | e => some (e, st))) (Eq.trans ?_ (T_spec_l04Rose_l5_nat (o_spec_l04Rose_l5 n_ b0 b1 b2_0n b2_1n) rfl n_ b0 b1 b2_0n b2_1n k (fun k' => L_spec_l04Rose_l5 n_ b0 b1 b2_0n b2_1n n k') (fun _ => some (Sum.inl ())) (fun c0_ c1_ => some (Sum.inr (c0_, c1_)))))
    exact congrArg (fun kn_ => T_spec_l04Rose_l5 n_ b0 b1 b2_0n b2_1n k kn_ (fun _ => (o_spec_l04Rose_l5 n_ b0 b1 b2_0n b2_1n) (some (Sum.inl ()))) (fun c0_ c1_ => (o_spec_l04Rose_l5 n_ b0 b1 b2_0n b2_1n) (some (Sum.inr (c0_, c1_))))) (funext fun k' => ih k')
theorem l_spec_l04Rose_l5_ok : LoopOne Try.prog fnTab 71 5 l_spec_l04Rose_l5 := lp_of (Γ := Γ3) tyTab_ok (FnL.ok fnTab_ok _ _) (LpL.ok lt3_ok) (SumL.ok tb3_ok _) mixed (fi := fi71) (by kernel_rfl) (by kernel_rfl) (by
  intro lo st out hp
  unfold l_spec_l04Rose_l5 at hp
  split at hp
  · rename_i n_ k b0 b1 b2_0n b2_1n
    injection hp with hp
    injection hp with h1 h2
    subst h2
    exact ⟨8, 8, big, Eq.trans (i_spec_l04Rose_l5 n_ b0 b1 b2_0n b2_1n big k) (f_spec_l04Rose_l5 n_ b0 b1 b2_0n b2_1n (L_spec_l04Rose_l5 n_ b0 b1 b2_0n b2_1n big k) h1)⟩
  · cases hp)
noncomputable def tb4 : List (Nat × (List PT → Option (Bool × AV × List Blk))) := [(129, s_math_Float64bits), (133, s_math_Float64frombits), (137, s_math_Float32bits), (139, s_math_archTrunc), (25, s_laws_sameFloat), (64, s_spec_l01Finite), (70, s_laws_szFloat32S), (72, s_spec_l04Power), (78, s_impl_IsFinite), (21, s_laws_szRose), (58, s_spec_l02Least), (67, s_impl_isLeast), (77, s_impl_checked), (74, s_laws_toFloat32S), (126, s_impl_areLeast_1), (18, s_laws_eqFloat32S), (23, s_laws_toRose)]
noncomputable def lt4 : List ((Nat × Nat) × (Nat → St → Option (Bool × LO))) := [((74, 3), l_laws_toFloat32S_l3), ((18, 4), l_laws_eqFloat32S_l4), ((71, 5), l_spec_l04Rose_l5)]
noncomputable def Γ4 : Ctx := ⟨tyTab, fnTab, tblSum tb4, tblLp lt4⟩
theorem tb4_ok : SumL Try.prog tb4 := SumL.cons s_math_Float64bits_ok (SumL.cons s_math_Float64frombits_ok (SumL.cons s_math_Float32bits_ok (SumL.cons s_math_archTrunc_ok (SumL.cons s_laws_sameFloat_ok (SumL.cons s_spec_l01Finite_ok (SumL.cons s_laws_szFloat32S_ok (SumL.cons s_spec_l04Power_ok (SumL.cons s_impl_IsFinite_ok (SumL.cons s_laws_szRose_ok (SumL.cons s_spec_l02Least_ok (SumL.cons s_impl_isLeast_ok (SumL.cons s_impl_checked_ok (SumL.cons s_laws_toFloat32S_ok (SumL.cons s_impl_areLeast_1_ok (SumL.cons s_laws_eqFloat32S_ok (SumL.cons s_laws_toRose_ok (SumL.nil)))))))))))))))))
theorem lt4_ok : LpL Try.prog fnTab lt4 := LpL.cons l_laws_toFloat32S_l3_ok (LpL.cons l_laws_eqFloat32S_l4_ok (LpL.cons l_spec_l04Rose_l5_ok (LpL.nil)))
noncomputable def s_laws_eqRose : List PT → Option (Bool × AV × List Blk)
  | [.agg [.row 1 a_Shares_n (.fl .f32 a_Shares), .row 1 a_Speeds_n (.fl .f32 a_Speeds)], .agg [.row 1 b_Shares_n (.fl .f32 b_Shares), .row 1 b_Speeds_n (.fl .f32 b_Speeds)]] => some ((laws_eqRose_p a_Shares_n a_Shares a_Speeds_n a_Speeds b_Shares_n b_Shares b_Speeds_n b_Speeds), ((AV.v (TV.one (At.bool (laws_eqRose_v0 a_Shares_n a_Shares a_Speeds_n a_Speeds b_Shares_n b_Shares b_Speeds_n b_Speeds)))), []))
  | _ => none
def o_laws_eqRose (a_Shares_n : Nat) (a_Shares : List Nat) (a_Speeds_n : Nat) (a_Speeds : List Nat) (b_Shares_n : Nat) (b_Shares : List Nat) (b_Speeds_n : Nat) (b_Speeds : List Nat) : Option (Bool) → Option (AV × List Blk)
  | some r => some ((AV.v (TV.one (At.bool r))), [])
  | none => none
theorem e_laws_eqRose (a_Shares_n : Nat) (a_Shares : List Nat) (a_Speeds_n : Nat) (a_Speeds : List Nat) (b_Shares_n : Nat) (b_Shares : List Nat) (b_Speeds_n : Nat) (b_Speeds : List Nat) : evFn Γ4 8 8 26 (impTs 0 [.agg [.row 1 a_Shares_n (.fl .f32 a_Shares), .row 1 a_Speeds_n (.fl .f32 a_Speeds)], .agg [.row 1 b_Shares_n (.fl .f32 b_Shares), .row 1 b_Speeds_n (.fl .f32 b_Speeds)]]).1 (impTs 0 [.agg [.row 1 a_Shares_n (.fl .f32 a_Shares), .row 1 a_Speeds_n (.fl .f32 a_Speeds)], .agg [.row 1 b_Shares_n (.fl .f32 b_Shares), .row 1 b_Speeds_n (.fl .f32 b_Speeds)]]).2 (expo (impTs 0 [.agg [.row 1 a_Shares_n (.fl .f32 a_Shares), .row 1 a_Speeds_n (.fl .f32 a_Speeds)], .agg [.row 1 b_Shares_n (.fl .f32 b_Shares), .row 1 b_Speeds_n (.fl .f32 b_Speeds)]]).2.length) = T_laws_eqRose a_Shares_n a_Shares a_Speeds_n a_Speeds b_Shares_n b_Shares b_Speeds_n b_Speeds (fun c0_ => some ((AV.v (TV.one (At.bool c0_))), [])) := by kernel_rfl
theorem s_laws_eqRose_ok : SumOne Try.prog 26 s_laws_eqRose := sum_of (Γ := Γ4) (fuel := 8) (d := 8) tyTab_ok (FnL.ok fnTab_ok _ _) (LpL.ok lt4_ok) (SumL.ok tb4_ok _) mixed (by
  intro pts v news hp hc
  clear hc
  unfold s_laws_eqRose at hp
  split at hp
  · rename_i a_Shares_n a_Shares a_Speeds_n a_Speeds b_Shares_n b_Shares b_Speeds_n b_Speeds
    exact Eq.trans (Eq.trans (e_laws_eqRose a_Shares_n a_Shares a_Speeds_n a_Speeds b_Shares_n b_Shares b_Speeds_n b_Speeds) (T_laws_eqRose_nat (o_laws_eqRose a_Shares_n a_Shares a_Speeds_n a_Speeds b_Shares_n b_Shares b_Speeds_n b_Speeds) rfl a_Shares_n a_Shares a_Speeds_n a_Speeds b_Shares_n b_Shares b_Speeds_n b_Speeds (fun c0_ => some c0_))) (fin_out (o := (o_laws_eqRose a_Shares_n a_Shares a_Speeds_n a_Speeds b_Shares_n b_Shares b_Speeds_n b_Speeds)) (x := F_laws_eqRose a_Shares_n a_Shares a_Speeds_n a_Speeds b_Shares_n b_Shares b_Speeds_n b_Speeds) (d := default) (V := fun r => ((AV.v (TV.one (At.bool r))), [])) (fun r => rfl) hp)
  · cases hp)
noncomputable def s_spec_l04Rose : List PT → Option (Bool × AV × List Blk)
  | [.ptr [.row 1 r_Shares_n (.fl .f32 r_Shares), .row 1 r_Speeds_n (.fl .f32 r_Speeds)]] => some ((spec_l04Rose_p r_Shares_n r_Shares r_Speeds_n r_Speeds), ((AV.v (TV.one (At.bool (spec_l04Rose_v0 r_Shares_n r_Shares r_Speeds_n r_Speeds)))), []))
  | _ => none
def o_spec_l04Rose (r_Shares_n : Nat) (r_Shares : List Nat) (r_Speeds_n : Nat) (r_Speeds : List Nat) : Option (Bool) → Option (AV × List Blk)
  | some r => some ((AV.v (TV.one (At.bool r))), [])
  | none => none
theorem e_spec_l04Rose (r_Shares_n : Nat) (r_Shares : List Nat) (r_Speeds_n : Nat) (r_Speeds : List Nat) : evFn Γ4 8 8 71 (impTs 0 [.ptr [.row 1 r_Shares_n (.fl .f32 r_Shares), .row 1 r_Speeds_n (.fl .f32 r_Speeds)]]).1 (impTs 0 [.ptr [.row 1 r_Shares_n (.fl .f32 r_Shares), .row 1 r_Speeds_n (.fl .f32 r_Speeds)]]).2 (expo (impTs 0 [.ptr [.row 1 r_Shares_n (.fl .f32 r_Shares), .row 1 r_Speeds_n (.fl .f32 r_Speeds)]]).2.length) = T_spec_l04Rose r_Shares_n r_Shares r_Speeds_n r_Speeds (fun c0_ => some ((AV.v (TV.one (At.bool c0_))), [])) := by kernel_rfl
theorem s_spec_l04Rose_ok : SumOne Try.prog 71 s_spec_l04Rose := sum_of (Γ := Γ4) (fuel := 8) (d := 8) tyTab_ok (FnL.ok fnTab_ok _ _) (LpL.ok lt4_ok) (SumL.ok tb4_ok _) mixed (by
  intro pts v news hp hc
  clear hc
  unfold s_spec_l04Rose at hp
  split at hp
  · rename_i r_Shares_n r_Shares r_Speeds_n r_Speeds
    exact Eq.trans (Eq.trans (e_spec_l04Rose r_Shares_n r_Shares r_Speeds_n r_Speeds) (T_spec_l04Rose_nat (o_spec_l04Rose r_Shares_n r_Shares r_Speeds_n r_Speeds) rfl r_Shares_n r_Shares r_Speeds_n r_Speeds (fun c0_ => some c0_))) (fin_out (o := (o_spec_l04Rose r_Shares_n r_Shares r_Speeds_n r_Speeds)) (x := F_spec_l04Rose r_Shares_n r_Shares r_Speeds_n r_Speeds) (d := default) (V := fun r => ((AV.v (TV.one (At.bool r))), [])) (fun r => rfl) hp)
  · cases hp)
noncomputable def l_slices_IndexFunc_sf32_f32_areLeast_1_l2 : Nat → St → Option (Bool × LO)
  | 1, (St.mk [(0, (AV.v (TV.one (At.vw 0 0 sn 1)))), (1, (AV.v (TV.one (At.fn 126 [])))), (7, (AV.v (TV.one (At.int IntKind.i64 t7)))), (8, (AV.v (TV.one (At.int IntKind.i64 t8))))] [(Blk.mk Bool.false (Body.fl FloatKind.f32 b0))]) => some ((slices_IndexFunc_sf32_f32_areLeast_1_l2_p sn t7 b0 t8), (LO.two (slices_IndexFunc_sf32_f32_areLeast_1_l2_w0 sn t7 b0 t8) (LO.one Ex.ret (St.mk [(4, (AV.v (TV.one (At.int IntKind.i64 (slices_IndexFunc_sf32_f32_areLeast_1_l2_a0_0 sn t7 b0 t8)))))] [(Blk.mk Bool.false (Body.fl FloatKind.f32 b0))])) (LO.one (Ex.exit 0) (St.mk [(0, (AV.v (TV.one (At.vw 0 0 sn 1)))), (1, (AV.v (TV.one (At.fn 126 [])))), (7, (AV.v (TV.one (At.int IntKind.i64 t7)))), (8, (AV.v (TV.one (At.int IntKind.i64 (slices_IndexFunc_sf32_f32_areLeast_1_l2_a1_0 sn t7 b0 t8))))), (9, (AV.v (TV.one (At.bool (slices_IndexFunc_sf32_f32_areLeast_1_l2_a1_1 sn t7 b0 t8)))))] [(Blk.mk Bool.false (Body.fl FloatKind.f32 b0))]))))
  | _, _ => none
def o_slices_IndexFunc_sf32_f32_areLeast_1_l2 (sn : Nat) (t7 : Int) (b0 : List Nat) : Option ((Int) ⊕ (Int × Bool)) → Option (Ex × St)
  | none => none
  | some (Sum.inl r) => some (Ex.ret, (St.mk [(4, (AV.v (TV.one (At.int IntKind.i64 r))))] [(Blk.mk Bool.false (Body.fl FloatKind.f32 b0))]))
  | some (Sum.inr r) => some ((Ex.exit 0), (St.mk [(0, (AV.v (TV.one (At.vw 0 0 sn 1)))), (1, (AV.v (TV.one (At.fn 126 [])))), (7, (AV.v (TV.one (At.int IntKind.i64 t7)))), (8, (AV.v (TV.one (At.int IntKind.i64 r.1)))), (9, (AV.v (TV.one (At.bool r.2))))] [(Blk.mk Bool.false (Body.fl FloatKind.f32 b0))]))
def lo_slices_IndexFunc_sf32_f32_areLeast_1_l2 (sn : Nat) (t7 : Int) (b0 : List Nat) (x : Option ((Int) ⊕ (Int × Bool))) : LO := (LO.two (oL x) (LO.one Ex.ret (St.mk [(4, (AV.v (TV.one (At.int IntKind.i64 ((tL x).getD default)))))] [(Blk.mk Bool.false (Body.fl FloatKind.f32 b0))])) (LO.one (Ex.exit 0) (St.mk [(0, (AV.v (TV.one (At.vw 0 0 sn 1)))), (1, (AV.v (TV.one (At.fn 126 [])))), (7, (AV.v (TV.one (At.int IntKind.i64 t7)))), (8, (AV.v (TV.one (At.int IntKind.i64 ((tR x).getD default).1)))), (9, (AV.v (TV.one (At.bool ((tR x).getD default).2))))] [(Blk.mk Bool.false (Body.fl FloatKind.f32 b0))])))
theorem f_slices_IndexFunc_sf32_f32_areLeast_1_l2 (sn : Nat) (t7 : Int) (b0 : List Nat) : ∀ x : Option ((Int) ⊕ (Int × Bool)), x.isSome = true → (o_slices_IndexFunc_sf32_f32_areLeast_1_l2 sn t7 b0) x = some (pick (lo_slices_IndexFunc_sf32_f32_areLeast_1_l2 sn t7 b0 x))
  | none, h => by cases h
  | some (Sum.inl r), _ => rfl
  | some (Sum.inr r), _ => rfl
theorem r_slices_IndexFunc_sf32_f32_areLeast_1_l2 (sn : Nat) (t7 : Int) (t8 : Int) (b0 : List Nat) (K : Ex → St → Option (Ex × St)) : evC (R := Ex × St) Γ4 (evFn Γ4 8 8) 125 1 fi125.nt fi125.live fi125.nl 8 (findL 2 (loopsIn fi125.code)) (St.mk [(0, (AV.v (TV.one (At.vw 0 0 sn 1)))), (1, (AV.v (TV.one (At.fn 126 [])))), (7, (AV.v (TV.one (At.int IntKind.i64 t7)))), (8, (AV.v (TV.one (At.int IntKind.i64 t8))))] [(Blk.mk Bool.false (Body.fl FloatKind.f32 b0))]) K = T_slices_IndexFunc_sf32_f32_areLeast_1_l2 sn t7 b0 t8 (fun t8' => K .normal (St.mk [(0, (AV.v (TV.one (At.vw 0 0 sn 1)))), (1, (AV.v (TV.one (At.fn 126 [])))), (7, (AV.v (TV.one (At.int IntKind.i64 t7)))), (8, (AV.v (TV.one (At.int IntKind.i64 t8'))))] [(Blk.mk Bool.false (Body.fl FloatKind.f32 b0))])) (fun c0_ => K Ex.ret (St.mk [(4, (AV.v (TV.one (At.int IntKind.i64 c0_))))] [(Blk.mk Bool.false (Body.fl FloatKind.f32 b0))])) (fun c0_ c1_ => K (Ex.exit 0) (St.mk [(0, (AV.v (TV.one (At.vw 0 0 sn 1)))), (1, (AV.v (TV.one (At.fn 126 [])))), (7, (AV.v (TV.one (At.int IntKind.i64 t7)))), (8, (AV.v (TV.one (At.int IntKind.i64 c0_)))), (9, (AV.v (TV.one (At.bool c1_))))] [(Blk.mk Bool.false (Body.fl FloatKind.f32 b0))])) := by kernel_rfl
theorem i_slices_IndexFunc_sf32_f32_areLeast_1_l2 (sn : Nat) (t7 : Int) (b0 : List Nat) : ∀ (n : Nat) (t8 : Int), iter 125 2 1 (evC (R := Ex × St) Γ4 (evFn Γ4 8 8) 125 1 fi125.nt fi125.live fi125.nl 8 (findL 2 (loopsIn fi125.code))) n (St.mk [(0, (AV.v (TV.one (At.vw 0 0 sn 1)))), (1, (AV.v (TV.one (At.fn 126 [])))), (7, (AV.v (TV.one (At.int IntKind.i64 t7)))), (8, (AV.v (TV.one (At.int IntKind.i64 t8))))] [(Blk.mk Bool.false (Body.fl FloatKind.f32 b0))]) (fun e st => some (e, st)) = (o_slices_IndexFunc_sf32_f32_areLeast_1_l2 sn t7 b0) (L_slices_IndexFunc_sf32_f32_areLeast_1_l2 sn t7 b0 n t8) := by
  intro n
  induction n with
  | zero => intros; rfl
  | succ n ih =>
    intro t8
    refine Eq.trans (r_slices_IndexFunc_sf32_f32_areLeast_1_l2 sn t7 t8 b0 (fun e st => match e with | .normal => iter 125 2 1 (evC (R := Ex × St) Γ4 (evFn Γ4 8 8) 125 1 fi125.nt fi125.live fi125.nl 8 (findL 2 (loopsIn fi125.code))) n st (fun e st => some (e, st)) | e => some (e, st))) (Eq.trans ?_ (T_slices_IndexFunc_sf32_f32_areLeast_1_l2_nat (o_slices_IndexFunc_sf32_f32_areLeast_1_l2 sn t7 b0) rfl sn t7 b0 t8 (fun t8' => L_slices_IndexFunc_sf32_f32_areLeast_1_l2 sn t7 b0 n t8') (fun c0_ => some (Sum.inl c0_)) (fun c0_ c1_ => some (Sum.inr (c0_, c1_)))))
    exact congrArg (fun kn_ => T_slices_IndexFunc_sf32_f32_areLeast_1_l2 sn t7 b0 t8 kn_ (fun c0_ => (o_slices_IndexFunc_sf32_f32_areLeast_1_l2 sn t7 b0) (some (Sum.inl c0_))) (fun c0_ c1_ => (o_slices_IndexFunc_sf32_f32_areLeast_1_l2 sn t7 b0) (some (Sum.inr (c0_, c1_))))) (funext fun t8' => ih t8')
theorem l_slices_IndexFunc_sf32_f32_areLeast_1_l2_ok : LoopOne Try.prog fnTab 125 2 l_slices_IndexFunc_sf32_f32_areLeast_1_l2 := lp_of (Γ := Γ4) tyTab_ok (FnL.ok fnTab_ok _ _) (LpL.ok lt4_ok) (SumL.ok tb4_ok _) mixed (fi := fi125) (by kernel_rfl) (by kernel_rfl) (by
  intro lo st out hp
  unfold l_slices_IndexFunc_sf32_f32_areLeast_1_l2 at hp
  split at hp
  · rename_i sn t7 t8 b0
    injection hp with hp
    injection hp with h1 h2
    subst h2
    exact ⟨8, 8, big, Eq.trans (i_slices_IndexFunc_sf32_f32_areLeast_1_l2 sn t7 b0 big t8) (f_slices_IndexFunc_sf32_f32_areLeast_1_l2 sn t7 b0 (L_slices_IndexFunc_sf32_f32_areLeast_1_l2 sn t7 b0 big t8) h1)⟩
  · cases hp)
noncomputable def tb5 : List (Nat × (List PT → Option (Bool × AV × List Blk))) := [(129, s_math_Float64bits), (133, s_math_Float64frombits), (137, s_math_Float32bits), (139, s_math_archTrunc), (25, s_laws_sameFloat), (64, s_spec_l01Finite), (70, s_laws_szFloat32S), (72, s_spec_l04Power), (78, s_impl_IsFinite), (21, s_laws_szRose), (58, s_spec_l02Least), (67, s_impl_isLeast), (77, s_impl_checked), (74, s_laws_toFloat32S), (126, s_impl_areLeast_1), (18, s_laws_eqFloat32S), (23, s_laws_toRose), (26, s_laws_eqRose), (71, s_spec_l04Rose)]
noncomputable def lt5 : List ((Nat × Nat) × (Nat → St → Option (Bool × LO))) := [((74, 3), l_laws_toFloat32S_l3), ((18, 4), l_laws_eqFloat32S_l4), ((71, 5), l_spec_l04Rose_l5), ((125, 2), l_slices_IndexFunc_sf32_f32_areLeast_1_l2)]
noncomputable def Γ5 : Ctx := ⟨tyTab, fnTab, tblSum tb5, tblLp lt5⟩
theorem tb5_ok : SumL Try.prog tb5 := SumL.cons s_math_Float64bits_ok (SumL.cons s_math_Float64frombits_ok (SumL.cons s_math_Float32bits_ok (SumL.cons s_math_archTrunc_ok (SumL.cons s_laws_sameFloat_ok (SumL.cons s_spec_l01Finite_ok (SumL.cons s_laws_szFloat32S_ok (SumL.cons s_spec_l04Power_ok (SumL.cons s_impl_IsFinite_ok (SumL.cons s_laws_szRose_ok (SumL.cons s_spec_l02Least_ok (SumL.cons s_impl_isLeast_ok (SumL.cons s_impl_checked_ok (SumL.cons s_laws_toFloat32S_ok (SumL.cons s_impl_areLeast_1_ok (SumL.cons s_laws_eqFloat32S_ok (SumL.cons s_laws_toRose_ok (SumL.cons s_laws_eqRose_ok (SumL.cons s_spec_l04Rose_ok (SumL.nil)))))))))))))))))))
theorem lt5_ok : LpL Try.prog fnTab lt5 := LpL.cons l_laws_toFloat32S_l3_ok (LpL.cons l_laws_eqFloat32S_l4_ok (LpL.cons l_spec_l04Rose_l5_ok (LpL.cons l_slices_IndexFunc_sf32_f32_areLeast_1_l2_ok (LpL.nil))))
noncomputable def s_slices_IndexFunc_sf32_f32_areLeast_1 : List PT → Option (Bool × AV × List Blk)
  | [.one (.row 1 s_n (.fl .f32 s)), .fn 126 []] => some ((slices_IndexFunc_sf32_f32_areLeast_1_p s_n s), ((AV.v (TV.one (At.int IntKind.i64 (slices_IndexFunc_sf32_f32_areLeast_1_v0 s_n s)))), []))
  | _ => none
def o_slices_IndexFunc_sf32_f32_areLeast_1 (s_n : Nat) (s : List Nat) : Option (Int) → Option (AV × List Blk)
  | some r => some ((AV.v (TV.one (At.int IntKind.i64 r))), [])
  | none => none
theorem e_slices_IndexFunc_sf32_f32_areLeast_1 (s_n : Nat) (s : List Nat) : evFn Γ5 8 8 125 (impTs 0 [.one (.row 1 s_n (.fl .f32 s)), .fn 126 []]).1 (impTs 0 [.one (.row 1 s_n (.fl .f32 s)), .fn 126 []]).2 (expo (impTs 0 [.one (.row 1 s_n (.fl .f32 s)), .fn 126 []]).2.length) = T_slices_IndexFunc_sf32_f32_areLeast_1 s_n s (fun c0_ => some ((AV.v (TV.one (At.int IntKind.i64 c0_))), [])) := by kernel_rfl
theorem s_slices_IndexFunc_sf32_f32_areLeast_1_ok : SumOne Try.prog 125 s_slices_IndexFunc_sf32_f32_areLeast_1 := sum_of (Γ := Γ5) (fuel := 8) (d := 8) tyTab_ok (FnL.ok fnTab_ok _ _) (LpL.ok lt5_ok) (SumL.ok tb5_ok _) mixed (by
  intro pts v news hp hc
  clear hc
  unfold s_slices_IndexFunc_sf32_f32_areLeast_1 at hp
  split at hp
  · rename_i s_n s
    exact Eq.trans (Eq.trans (e_slices_IndexFunc_sf32_f32_areLeast_1 s_n s) (T_slices_IndexFunc_sf32_f32_areLeast_1_nat (o_slices_IndexFunc_sf32_f32_areLeast_1 s_n s) rfl s_n s (fun c0_ => some c0_))) (fin_out (o := (o_slices_IndexFunc_sf32_f32_areLeast_1 s_n s)) (x := F_slices_IndexFunc_sf32_f32_areLeast_1 s_n s) (d := default) (V := fun r => ((AV.v (TV.one (At.int IntKind.i64 r))), [])) (fun r => rfl) hp)
  · cases hp)
noncomputable def tb6 : List (Nat × (List PT → Option (Bool × AV × List Blk))) := [(129, s_math_Float64bits), (133, s_math_Float64frombits), (137, s_math_Float32bits), (139, s_math_archTrunc), (25, s_laws_sameFloat), (64, s_spec_l01Finite), (70, s_laws_szFloat32S), (72, s_spec_l04Power), (78, s_impl_IsFinite), (21, s_laws_szRose), (58, s_spec_l02Least), (67, s_impl_isLeast), (77, s_impl_checked), (74, s_laws_toFloat32S), (126, s_impl_areLeast_1), (18, s_laws_eqFloat32S), (23, s_laws_toRose), (26, s_laws_eqRose), (71, s_spec_l04Rose), (125, s_slices_IndexFunc_sf32_f32_areLeast_1)]
noncomputable def lt6 : List ((Nat × Nat) × (Nat → St → Option (Bool × LO))) := [((74, 3), l_laws_toFloat32S_l3), ((18, 4), l_laws_eqFloat32S_l4), ((71, 5), l_spec_l04Rose_l5), ((125, 2), l_slices_IndexFunc_sf32_f32_areLeast_1_l2)]
noncomputable def Γ6 : Ctx := ⟨tyTab, fnTab, tblSum tb6, tblLp lt6⟩
theorem tb6_ok : SumL Try.prog tb6 := SumL.cons s_math_Float64bits_ok (SumL.cons s_math_Float64frombits_ok (SumL.cons s_math_Float32bits_ok (SumL.cons s_math_archTrunc_ok (SumL.cons s_laws_sameFloat_ok (SumL.cons s_spec_l01Finite_ok (SumL.cons s_laws_szFloat32S_ok (SumL.cons s_spec_l04Power_ok (SumL.cons s_impl_IsFinite_ok (SumL.cons s_laws_szRose_ok (SumL.cons s_spec_l02Least_ok (SumL.cons s_impl_isLeast_ok (SumL.cons s_impl_checked_ok (SumL.cons s_laws_toFloat32S_ok (SumL.cons s_impl_areLeast_1_ok (SumL.cons s_laws_eqFloat32S_ok (SumL.cons s_laws_toRose_ok (SumL.cons s_laws_eqRose_ok (SumL.cons s_spec_l04Rose_ok (SumL.cons s_slices_IndexFunc_sf32_f32_areLeast_1_ok (SumL.nil))))))))))))))))))))
theorem lt6_ok : LpL Try.prog fnTab lt6 := LpL.cons l_laws_toFloat32S_l3_ok (LpL.cons l_laws_eqFloat32S_l4_ok (LpL.cons l_spec_l04Rose_l5_ok (LpL.cons l_slices_IndexFunc_sf32_f32_areLeast_1_l2_ok (LpL.nil))))
noncomputable def s_slices_ContainsFunc_sf32_f32_areLeast_1 : List PT → Option (Bool × AV × List Blk)
  | [.one (.row 1 s_n (.fl .f32 s)), .fn 126 []] => some ((slices_ContainsFunc_sf32_f32_areLeast_1_p s_n s), ((AV.v (TV.one (At.bool (slices_ContainsFunc_sf32_f32_areLeast_1_v0 s_n s)))), []))
  | _ => none
def o_slices_ContainsFunc_sf32_f32_areLeast_1 (s_n : Nat) (s : List Nat) : Option (Bool) → Option (AV × List Blk)
  | some r => some ((AV.v (TV.one (At.bool r))), [])
  | none => none
theorem e_slices_ContainsFunc_sf32_f32_areLeast_1 (s_n : Nat) (s : List Nat) : evFn Γ6 8 8 110 (impTs 0 [.one (.row 1 s_n (.fl .f32 s)), .fn 126 []]).1 (impTs 0 [.one (.row 1 s_n (.fl .f32 s)), .fn 126 []]).2 (expo (impTs 0 [.one (.row 1 s_n (.fl .f32 s)), .fn 126 []]).2.length) = T_slices_ContainsFunc_sf32_f32_areLeast_1 s_n s (fun c0_ => some ((AV.v (TV.one (At.bool c0_))), [])) := by kernel_rfl
theorem s_slices_ContainsFunc_sf32_f32_areLeast_1_ok : SumOne Try.prog 110 s_slices_ContainsFunc_sf32_f32_areLeast_1 := sum_of (Γ := Γ6) (fuel := 8) (d := 8) tyTab_ok (FnL.ok fnTab_ok _ _) (LpL.ok lt6_ok) (SumL.ok tb6_ok _) mixed (by
  intro pts v news hp hc
  clear hc
  unfold s_slices_ContainsFunc_sf32_f32_areLeast_1 at hp
  split at hp
  · rename_i s_n s
    exact Eq.trans (Eq.trans (e_slices_ContainsFunc_sf32_f32_areLeast_1 s_n s) (T_slices_ContainsFunc_sf32_f32_areLeast_1_nat (o_slices_ContainsFunc_sf32_f32_areLeast_1 s_n s) rfl s_n s (fun c0_ => some c0_))) (fin_out (o := (o_slices_ContainsFunc_sf32_f32_areLeast_1 s_n s)) (x := F_slices_ContainsFunc_sf32_f32_areLeast_1 s_n s) (d := default) (V := fun r => ((AV.v (TV.one (At.bool r))), [])) (fun r => rfl) hp)
  · cases hp)
noncomputable def l_spec_StrongestSector_l6 : Nat → St → Option (Bool × LO)
  | 2, (St.mk [(1, (AV.v (TV.one (At.ptr 2 0 2)))), (5, (AV.v (TV.one (At.int IntKind.i64 best)))), (6, (AV.v (TV.one (At.flt FloatKind.f32 most)))), (7, (AV.v (TV.one (At.int IntKind.i64 k))))] [(Blk.mk Bool.false (Body.fl FloatKind.f32 b0)), (Blk.mk Bool.false (Body.fl FloatKind.f32 b1)), (Blk.mk Bool.true (Body.cells [(At.vw 0 0 b2_0n 1), (At.vw 1 0 b2_1n 1)]))]) => some ((spec_StrongestSector_l6_p b0 b1 b2_0n b2_1n best most k), (LO.two (spec_StrongestSector_l6_w0 b0 b1 b2_0n b2_1n best most k) (LO.one Ex.ret (St.mk [(2, (AV.v (TV.one (At.int IntKind.i64 0)))), (3, (AV.v (TV.one (At.flt FloatKind.f32 0)))), (4, (AV.v (TV.one (At.bool Bool.false))))] [(Blk.mk Bool.false (Body.fl FloatKind.f32 b0)), (Blk.mk Bool.false (Body.fl FloatKind.f32 b1))])) (LO.one (Ex.exit 0) (St.mk [(1, (AV.v (TV.one (At.ptr 2 0 2)))), (5, (AV.v (TV.one (At.int IntKind.i64 (spec_StrongestSector_l6_a1_0 b0 b1 b2_0n b2_1n best most k))))), (6, (AV.v (TV.one (At.flt FloatKind.f32 (spec_StrongestSector_l6_a1_1 b0 b1 b2_0n b2_1n best most k))))), (7, (AV.v (TV.one (At.int IntKind.i64 (spec_StrongestSector_l6_a1_2 b0 b1 b2_0n b2_1n best most k))))), (15, (AV.v (TV.one (At.bool (spec_StrongestSector_l6_a1_3 b0 b1 b2_0n b2_1n best most k)))))] [(Blk.mk Bool.false (Body.fl FloatKind.f32 b0)), (Blk.mk Bool.false (Body.fl FloatKind.f32 b1)), (Blk.mk Bool.true (Body.cells [(At.vw 0 0 b2_0n 1), (At.vw 1 0 b2_1n 1)]))]))))
  | _, _ => none
def o_spec_StrongestSector_l6 (b0 : List Nat) (b1 : List Nat) (b2_0n : Nat) (b2_1n : Nat) : Option ((Unit) ⊕ (Int × Nat × Int × Bool)) → Option (Ex × St)
  | none => none
  | some (Sum.inl r) => some (Ex.ret, (St.mk [(2, (AV.v (TV.one (At.int IntKind.i64 0)))), (3, (AV.v (TV.one (At.flt FloatKind.f32 0)))), (4, (AV.v (TV.one (At.bool Bool.false))))] [(Blk.mk Bool.false (Body.fl FloatKind.f32 b0)), (Blk.mk Bool.false (Body.fl FloatKind.f32 b1))]))
  | some (Sum.inr r) => some ((Ex.exit 0), (St.mk [(1, (AV.v (TV.one (At.ptr 2 0 2)))), (5, (AV.v (TV.one (At.int IntKind.i64 r.1)))), (6, (AV.v (TV.one (At.flt FloatKind.f32 r.2.1)))), (7, (AV.v (TV.one (At.int IntKind.i64 r.2.2.1)))), (15, (AV.v (TV.one (At.bool r.2.2.2))))] [(Blk.mk Bool.false (Body.fl FloatKind.f32 b0)), (Blk.mk Bool.false (Body.fl FloatKind.f32 b1)), (Blk.mk Bool.true (Body.cells [(At.vw 0 0 b2_0n 1), (At.vw 1 0 b2_1n 1)]))]))
def lo_spec_StrongestSector_l6 (b0 : List Nat) (b1 : List Nat) (b2_0n : Nat) (b2_1n : Nat) (x : Option ((Unit) ⊕ (Int × Nat × Int × Bool))) : LO := (LO.two (oL x) (LO.one Ex.ret (St.mk [(2, (AV.v (TV.one (At.int IntKind.i64 0)))), (3, (AV.v (TV.one (At.flt FloatKind.f32 0)))), (4, (AV.v (TV.one (At.bool Bool.false))))] [(Blk.mk Bool.false (Body.fl FloatKind.f32 b0)), (Blk.mk Bool.false (Body.fl FloatKind.f32 b1))])) (LO.one (Ex.exit 0) (St.mk [(1, (AV.v (TV.one (At.ptr 2 0 2)))), (5, (AV.v (TV.one (At.int IntKind.i64 ((tR x).getD default).1)))), (6, (AV.v (TV.one (At.flt FloatKind.f32 ((tR x).getD default).2.1)))), (7, (AV.v (TV.one (At.int IntKind.i64 ((tR x).getD default).2.2.1)))), (15, (AV.v (TV.one (At.bool ((tR x).getD default).2.2.2))))] [(Blk.mk Bool.false (Body.fl FloatKind.f32 b0)), (Blk.mk Bool.false (Body.fl FloatKind.f32 b1)), (Blk.mk Bool.true (Body.cells [(At.vw 0 0 b2_0n 1), (At.vw 1 0 b2_1n 1)]))])))
theorem f_spec_StrongestSector_l6 (b0 : List Nat) (b1 : List Nat) (b2_0n : Nat) (b2_1n : Nat) : ∀ x : Option ((Unit) ⊕ (Int × Nat × Int × Bool)), x.isSome = true → (o_spec_StrongestSector_l6 b0 b1 b2_0n b2_1n) x = some (pick (lo_spec_StrongestSector_l6 b0 b1 b2_0n b2_1n x))
  | none, h => by cases h
  | some (Sum.inl r), _ => rfl
  | some (Sum.inr r), _ => rfl
theorem r_spec_StrongestSector_l6 (best : Int) (most : Nat) (k : Int) (b0 : List Nat) (b1 : List Nat) (b2_0n : Nat) (b2_1n : Nat) (K : Ex → St → Option (Ex × St)) : evC (R := Ex × St) Γ6 (evFn Γ6 8 8) 27 2 fi27.nt fi27.live fi27.nl 8 (findL 6 (loopsIn fi27.code)) (St.mk [(1, (AV.v (TV.one (At.ptr 2 0 2)))), (5, (AV.v (TV.one (At.int IntKind.i64 best)))), (6, (AV.v (TV.one (At.flt FloatKind.f32 most)))), (7, (AV.v (TV.one (At.int IntKind.i64 k))))] [(Blk.mk Bool.false (Body.fl FloatKind.f32 b0)), (Blk.mk Bool.false (Body.fl FloatKind.f32 b1)), (Blk.mk Bool.true (Body.cells [(At.vw 0 0 b2_0n 1), (At.vw 1 0 b2_1n 1)]))]) K = T_spec_StrongestSector_l6 b0 b1 b2_0n b2_1n best most k (fun best' most' k' => K .normal (St.mk [(1, (AV.v (TV.one (At.ptr 2 0 2)))), (5, (AV.v (TV.one (At.int IntKind.i64 best')))), (6, (AV.v (TV.one (At.flt FloatKind.f32 most')))), (7, (AV.v (TV.one (At.int IntKind.i64 k'))))] [(Blk.mk Bool.false (Body.fl FloatKind.f32 b0)), (Blk.mk Bool.false (Body.fl FloatKind.f32 b1)), (Blk.mk Bool.true (Body.cells [(At.vw 0 0 b2_0n 1), (At.vw 1 0 b2_1n 1)]))])) (fun _ => K Ex.ret (St.mk [(2, (AV.v (TV.one (At.int IntKind.i64 0)))), (3, (AV.v (TV.one (At.flt FloatKind.f32 0)))), (4, (AV.v (TV.one (At.bool Bool.false))))] [(Blk.mk Bool.false (Body.fl FloatKind.f32 b0)), (Blk.mk Bool.false (Body.fl FloatKind.f32 b1))])) (fun c0_ c1_ c2_ c3_ => K (Ex.exit 0) (St.mk [(1, (AV.v (TV.one (At.ptr 2 0 2)))), (5, (AV.v (TV.one (At.int IntKind.i64 c0_)))), (6, (AV.v (TV.one (At.flt FloatKind.f32 c1_)))), (7, (AV.v (TV.one (At.int IntKind.i64 c2_)))), (15, (AV.v (TV.one (At.bool c3_))))] [(Blk.mk Bool.false (Body.fl FloatKind.f32 b0)), (Blk.mk Bool.false (Body.fl FloatKind.f32 b1)), (Blk.mk Bool.true (Body.cells [(At.vw 0 0 b2_0n 1), (At.vw 1 0 b2_1n 1)]))])) := by kernel_rfl
theorem i_spec_StrongestSector_l6 (b0 : List Nat) (b1 : List Nat) (b2_0n : Nat) (b2_1n : Nat) : ∀ (n : Nat) (best : Int) (most : Nat) (k : Int), iter 27 6 2 (evC (R := Ex × St) Γ6 (evFn Γ6 8 8) 27 2 fi27.nt fi27.live fi27.nl 8 (findL 6 (loopsIn fi27.code))) n (St.mk [(1, (AV.v (TV.one (At.ptr 2 0 2)))), (5, (AV.v (TV.one (At.int IntKind.i64 best)))), (6, (AV.v (TV.one (At.flt FloatKind.f32 most)))), (7, (AV.v (TV.one (At.int IntKind.i64 k))))] [(Blk.mk Bool.false (Body.fl FloatKind.f32 b0)), (Blk.mk Bool.false (Body.fl FloatKind.f32 b1)), (Blk.mk Bool.true (Body.cells [(At.vw 0 0 b2_0n 1), (At.vw 1 0 b2_1n 1)]))]) (fun e st => some (e, st)) = (o_spec_StrongestSector_l6 b0 b1 b2_0n b2_1n) (L_spec_StrongestSector_l6 b0 b1 b2_0n b2_1n n best most k) := by
  intro n
  induction n with
  | zero => intros; rfl
  | succ n ih =>
    intro best most k
    refine Eq.trans (r_spec_StrongestSector_l6 best most k b0 b1 b2_0n b2_1n (fun e st => match e with | .normal => iter 27 6 2 (evC (R := Ex × St) Γ6 (evFn Γ6 8 8) 27 2 fi27.nt fi27.live fi27.nl 8 (findL 6 (loopsIn fi27.code))) n st (fun e st => some (e, st)) | e => some (e, st))) (Eq.trans ?_ (T_spec_StrongestSector_l6_nat (o_spec_StrongestSector_l6 b0 b1 b2_0n b2_1n) rfl b0 b1 b2_0n b2_1n best most k (fun best' most' k' => L_spec_StrongestSector_l6 b0 b1 b2_0n b2_1n n best' most' k') (fun _ => some (Sum.inl ())) (fun c0_ c1_ c2_ c3_ => some (Sum.inr (c0_, c1_, c2_, c3_)))))
    exact congrArg (fun kn_ => T_spec_StrongestSector_l6 b0 b1 b2_0n b2_1n best most k kn_ (fun _ => (o_spec_StrongestSector_l6 b0 b1 b2_0n b2_1n) (some (Sum.inl ()))) (fun c0_ c1_ c2_ c3_ => (o_spec_StrongestSector_l6 b0 b1 b2_0n b2_1n) (some (Sum.inr (c0_, c1_, c2_, c3_))))) (funext fun best' => funext fun most' => funext fun k' => ih best' most' k')
theorem l_spec_StrongestSector_l6_ok : LoopOne Try.prog fnTab 27 6 l_spec_StrongestSector_l6 := lp_of (Γ := Γ6) tyTab_ok (FnL.ok fnTab_ok _ _) (LpL.ok lt6_ok) (SumL.ok tb6_ok _) mixed (fi := fi27) (by kernel_rfl) (by kernel_rfl) (by
  intro lo st out hp
  unfold l_spec_StrongestSector_l6 at hp
  split at hp
  · rename_i best most k b0 b1 b2_0n b2_1n
    injection hp with hp
    injection hp with h1 h2
    subst h2
    exact ⟨8, 8, big, Eq.trans (i_spec_StrongestSector_l6 b0 b1 b2_0n b2_1n big best most k) (f_spec_StrongestSector_l6 b0 b1 b2_0n b2_1n (L_spec_StrongestSector_l6 b0 b1 b2_0n b2_1n big best most k) h1)⟩
  · cases hp)
noncomputable def tb7 : List (Nat × (List PT → Option (Bool × AV × List Blk))) := [(129, s_math_Float64bits), (133, s_math_Float64frombits), (137, s_math_Float32bits), (139, s_math_archTrunc), (25, s_laws_sameFloat), (64, s_spec_l01Finite), (70, s_laws_szFloat32S), (72, s_spec_l04Power), (78, s_impl_IsFinite), (21, s_laws_szRose), (58, s_spec_l02Least), (67, s_impl_isLeast), (77, s_impl_checked), (74, s_laws_toFloat32S), (126, s_impl_areLeast_1), (18, s_laws_eqFloat32S), (23, s_laws_toRose), (26, s_laws_eqRose), (71, s_spec_l04Rose), (125, s_slices_IndexFunc_sf32_f32_areLeast_1), (110, s_slices_ContainsFunc_sf32_f32_areLeast_1)]
noncomputable def lt7 : List ((Nat × Nat) × (Nat → St → Option (Bool × LO))) := [((74, 3), l_laws_toFloat32S_l3), ((18, 4), l_laws_eqFloat32S_l4), ((71, 5), l_spec_l04Rose_l5), ((125, 2), l_slices_IndexFunc_sf32_f32_areLeast_1_l2), ((27, 6), l_spec_StrongestSector_l6)]
noncomputable def Γ7 : Ctx := ⟨tyTab, fnTab, tblSum tb7, tblLp lt7⟩
theorem tb7_ok : SumL Try.prog tb7 := SumL.cons s_math_Float64bits_ok (SumL.cons s_math_Float64frombits_ok (SumL.cons s_math_Float32bits_ok (SumL.cons s_math_archTrunc_ok (SumL.cons s_laws_sameFloat_ok (SumL.cons s_spec_l01Finite_ok (SumL.cons s_laws_szFloat32S_ok (SumL.cons s_spec_l04Power_ok (SumL.cons s_impl_IsFinite_ok (SumL.cons s_laws_szRose_ok (SumL.cons s_spec_l02Least_ok (SumL.cons s_impl_isLeast_ok (SumL.cons s_impl_checked_ok (SumL.cons s_laws_toFloat32S_ok (SumL.cons s_impl_areLeast_1_ok (SumL.cons s_laws_eqFloat32S_ok (SumL.cons s_laws_toRose_ok (SumL.cons s_laws_eqRose_ok (SumL.cons s_spec_l04Rose_ok (SumL.cons s_slices_IndexFunc_sf32_f32_areLeast_1_ok (SumL.cons s_slices_ContainsFunc_sf32_f32_areLeast_1_ok (SumL.nil)))))))))))))))))))))
theorem lt7_ok : LpL Try.prog fnTab lt7 := LpL.cons l_laws_toFloat32S_l3_ok (LpL.cons l_laws_eqFloat32S_l4_ok (LpL.cons l_spec_l04Rose_l5_ok (LpL.cons l_slices_IndexFunc_sf32_f32_areLeast_1_l2_ok (LpL.cons l_spec_StrongestSector_l6_ok (LpL.nil)))))
noncomputable def s_spec_StrongestSector : List PT → Option (Bool × AV × List Blk)
  | [.agg [.row 1 r_Shares_n (.fl .f32 r_Shares), .row 1 r_Speeds_n (.fl .f32 r_Speeds)]] => some ((spec_StrongestSector_p r_Shares_n r_Shares r_Speeds_n r_Speeds), ((AV.tup [(TV.one (At.int IntKind.i64 (spec_StrongestSector_v0 r_Shares_n r_Shares r_Speeds_n r_Speeds))), (TV.one (At.flt FloatKind.f32 (spec_StrongestSector_v1 r_Shares_n r_Shares r_Speeds_n r_Speeds))), (TV.one (At.bool (spec_StrongestSector_v2 r_Shares_n r_Shares r_Speeds_n r_Speeds)))]), []))
  | _ => none
def o_spec_StrongestSector (r_Shares_n : Nat) (r_Shares : List Nat) (r_Speeds_n : Nat) (r_Speeds : List Nat) : Option (Int × Nat × Bool) → Option (AV × List Blk)
  | some r => some ((AV.tup [(TV.one (At.int IntKind.i64 r.1)), (TV.one (At.flt FloatKind.f32 r.2.1)), (TV.one (At.bool r.2.2))]), [])
  | none => none
theorem e_spec_StrongestSector (r_Shares_n : Nat) (r_Shares : List Nat) (r_Speeds_n : Nat) (r_Speeds : List Nat) : evFn Γ7 8 8 27 (impTs 0 [.agg [.row 1 r_Shares_n (.fl .f32 r_Shares), .row 1 r_Speeds_n (.fl .f32 r_Speeds)]]).1 (impTs 0 [.agg [.row 1 r_Shares_n (.fl .f32 r_Shares), .row 1 r_Speeds_n (.fl .f32 r_Speeds)]]).2 (expo (impTs 0 [.agg [.row 1 r_Shares_n (.fl .f32 r_Shares), .row 1 r_Speeds_n (.fl .f32 r_Speeds)]]).2.length) = T_spec_StrongestSector r_Shares_n r_Shares r_Speeds_n r_Speeds (fun c0_ c1_ c2_ => some ((AV.tup [(TV.one (At.int IntKind.i64 c0_)), (TV.one (At.flt FloatKind.f32 c1_)), (TV.one (At.bool c2_))]), [])) := by kernel_rfl
theorem s_spec_StrongestSector_ok : SumOne Try.prog 27 s_spec_StrongestSector := sum_of (Γ := Γ7) (fuel := 8) (d := 8) tyTab_ok (FnL.ok fnTab_ok _ _) (LpL.ok lt7_ok) (SumL.ok tb7_ok _) mixed (by
  intro pts v news hp hc
  clear hc
  unfold s_spec_StrongestSector at hp
  split at hp
  · rename_i r_Shares_n r_Shares r_Speeds_n r_Speeds
    exact Eq.trans (Eq.trans (e_spec_StrongestSector r_Shares_n r_Shares r_Speeds_n r_Speeds) (T_spec_StrongestSector_nat (o_spec_StrongestSector r_Shares_n r_Shares r_Speeds_n r_Speeds) rfl r_Shares_n r_Shares r_Speeds_n r_Speeds (fun c0_ c1_ c2_ => some (c0_, c1_, c2_)))) (fin_out (o := (o_spec_StrongestSector r_Shares_n r_Shares r_Speeds_n r_Speeds)) (x := F_spec_StrongestSector r_Shares_n r_Shares r_Speeds_n r_Speeds) (d := default) (V := fun r => ((AV.tup [(TV.one (At.int IntKind.i64 r.1)), (TV.one (At.flt FloatKind.f32 r.2.1)), (TV.one (At.bool r.2.2))]), [])) (fun r => rfl) hp)
  · cases hp)
noncomputable def s_impl_areLeast : List PT → Option (Bool × AV × List Blk)
  | [.one (.row 1 list_n (.fl .f32 list))] => some ((impl_areLeast_p list_n list), ((AV.v (TV.one (At.bool (impl_areLeast_v0 list_n list)))), []))
  | _ => none
def o_impl_areLeast (list_n : Nat) (list : List Nat) : Option (Bool) → Option (AV × List Blk)
  | some r => some ((AV.v (TV.one (At.bool r))), [])
  | none => none
theorem e_impl_areLeast (list_n : Nat) (list : List Nat) : evFn Γ7 8 8 112 (impTs 0 [.one (.row 1 list_n (.fl .f32 list))]).1 (impTs 0 [.one (.row 1 list_n (.fl .f32 list))]).2 (expo (impTs 0 [.one (.row 1 list_n (.fl .f32 list))]).2.length) = T_impl_areLeast list_n list (fun c0_ => some ((AV.v (TV.one (At.bool c0_))), [])) := by kernel_rfl
theorem s_impl_areLeast_ok : SumOne Try.prog 112 s_impl_areLeast := sum_of (Γ := Γ7) (fuel := 8) (d := 8) tyTab_ok (FnL.ok fnTab_ok _ _) (LpL.ok lt7_ok) (SumL.ok tb7_ok _) mixed (by
  intro pts v news hp hc
  clear hc
  unfold s_impl_areLeast at hp
  split at hp
  · rename_i list_n list
    exact Eq.trans (Eq.trans (e_impl_areLeast list_n list) (T_impl_areLeast_nat (o_impl_areLeast list_n list) rfl list_n list (fun c0_ => some c0_))) (fin_out (o := (o_impl_areLeast list_n list)) (x := F_impl_areLeast list_n list) (d := default) (V := fun r => ((AV.v (TV.one (At.bool r))), [])) (fun r => rfl) hp)
  · cases hp)
noncomputable def tb8 : List (Nat × (List PT → Option (Bool × AV × List Blk))) := [(129, s_math_Float64bits), (133, s_math_Float64frombits), (137, s_math_Float32bits), (139, s_math_archTrunc), (25, s_laws_sameFloat), (64, s_spec_l01Finite), (70, s_laws_szFloat32S), (72, s_spec_l04Power), (78, s_impl_IsFinite), (21, s_laws_szRose), (58, s_spec_l02Least), (67, s_impl_isLeast), (77, s_impl_checked), (74, s_laws_toFloat32S), (126, s_impl_areLeast_1), (18, s_laws_eqFloat32S), (23, s_laws_toRose), (26, s_laws_eqRose), (71, s_spec_l04Rose), (125, s_slices_IndexFunc_sf32_f32_areLeast_1), (110, s_slices_ContainsFunc_sf32_f32_areLeast_1), (27, s_spec_StrongestSector), (112, s_impl_areLeast)]
noncomputable def lt8 : List ((Nat × Nat) × (Nat → St → Option (Bool × LO))) := [((74, 3), l_laws_toFloat32S_l3), ((18, 4), l_laws_eqFloat32S_l4), ((71, 5), l_spec_l04Rose_l5), ((125, 2), l_slices_IndexFunc_sf32_f32_areLeast_1_l2), ((27, 6), l_spec_StrongestSector_l6)]
noncomputable def Γ8 : Ctx := ⟨tyTab, fnTab, tblSum tb8, tblLp lt8⟩
theorem tb8_ok : SumL Try.prog tb8 := SumL.cons s_math_Float64bits_ok (SumL.cons s_math_Float64frombits_ok (SumL.cons s_math_Float32bits_ok (SumL.cons s_math_archTrunc_ok (SumL.cons s_laws_sameFloat_ok (SumL.cons s_spec_l01Finite_ok (SumL.cons s_laws_szFloat32S_ok (SumL.cons s_spec_l04Power_ok (SumL.cons s_impl_IsFinite_ok (SumL.cons s_laws_szRose_ok (SumL.cons s_spec_l02Least_ok (SumL.cons s_impl_isLeast_ok (SumL.cons s_impl_checked_ok (SumL.cons s_laws_toFloat32S_ok (SumL.cons s_impl_areLeast_1_ok (SumL.cons s_laws_eqFloat32S_ok (SumL.cons s_laws_toRose_ok (SumL.cons s_laws_eqRose_ok (SumL.cons s_spec_l04Rose_ok (SumL.cons s_slices_IndexFunc_sf32_f32_areLeast_1_ok (SumL.cons s_slices_ContainsFunc_sf32_f32_areLeast_1_ok (SumL.cons s_spec_StrongestSector_ok (SumL.cons s_impl_areLeast_ok (SumL.nil)))))))))))))))))))))))
theorem lt8_ok : LpL Try.prog fnTab lt8 := LpL.cons l_laws_toFloat32S_l3_ok (LpL.cons l_laws_eqFloat32S_l4_ok (LpL.cons l_spec_l04Rose_l5_ok (LpL.cons l_slices_IndexFunc_sf32_f32_areLeast_1_l2_ok (LpL.cons l_spec_StrongestSector_l6_ok (LpL.nil)))))
noncomputable def s_impl_ValidRose : List PT → Option (Bool × AV × List Blk)
  | [.agg [.row 1 r_Shares_n (.fl .f32 r_Shares), .row 1 r_Speeds_n (.fl .f32 r_Speeds)]] => some ((impl_ValidRose_p r_Shares_n r_Shares r_Speeds_n r_Speeds), ((AV.v (TV.one (At.bool (impl_ValidRose_v0 r_Shares_n r_Shares r_Speeds_n r_Speeds)))), []))
  | _ => none
def o_impl_ValidRose (r_Shares_n : Nat) (r_Shares : List Nat) (r_Speeds_n : Nat) (r_Speeds : List Nat) : Option (Bool) → Option (AV × List Blk)
  | some r => some ((AV.v (TV.one (At.bool r))), [])
  | none => none
theorem e_impl_ValidRose (r_Shares_n : Nat) (r_Shares : List Nat) (r_Speeds_n : Nat) (r_Speeds : List Nat) : evFn Γ8 8 8 75 (impTs 0 [.agg [.row 1 r_Shares_n (.fl .f32 r_Shares), .row 1 r_Speeds_n (.fl .f32 r_Speeds)]]).1 (impTs 0 [.agg [.row 1 r_Shares_n (.fl .f32 r_Shares), .row 1 r_Speeds_n (.fl .f32 r_Speeds)]]).2 (expo (impTs 0 [.agg [.row 1 r_Shares_n (.fl .f32 r_Shares), .row 1 r_Speeds_n (.fl .f32 r_Speeds)]]).2.length) = T_impl_ValidRose r_Shares_n r_Shares r_Speeds_n r_Speeds (fun c0_ => some ((AV.v (TV.one (At.bool c0_))), [])) := by kernel_rfl
theorem s_impl_ValidRose_ok : SumOne Try.prog 75 s_impl_ValidRose := sum_of (Γ := Γ8) (fuel := 8) (d := 8) tyTab_ok (FnL.ok fnTab_ok _ _) (LpL.ok lt8_ok) (SumL.ok tb8_ok _) mixed (by
  intro pts v news hp hc
  clear hc
  unfold s_impl_ValidRose at hp
  split at hp
  · rename_i r_Shares_n r_Shares r_Speeds_n r_Speeds
    exact Eq.trans (Eq.trans (e_impl_ValidRose r_Shares_n r_Shares r_Speeds_n r_Speeds) (T_impl_ValidRose_nat (o_impl_ValidRose r_Shares_n r_Shares r_Speeds_n r_Speeds) rfl r_Shares_n r_Shares r_Speeds_n r_Speeds (fun c0_ => some c0_))) (fin_out (o := (o_impl_ValidRose r_Shares_n r_Shares r_Speeds_n r_Speeds)) (x := F_impl_ValidRose r_Shares_n r_Shares r_Speeds_n r_Speeds) (d := default) (V := fun r => ((AV.v (TV.one (At.bool r))), [])) (fun r => rfl) hp)
  · cases hp)
noncomputable def s_impl_AirPower : List PT → Option (Bool × AV × List Blk)
  | [.one (.s (.flt .f32 density)), .one (.s (.flt .f32 speed))] => some ((impl_AirPower_p density speed), ((AV.tup [(TV.one (At.flt FloatKind.f32 (impl_AirPower_v0 density speed))), (TV.one (At.bool (impl_AirPower_v1 density speed)))]), []))
  | _ => none
def o_impl_AirPower (density : Nat) (speed : Nat) : Option (Nat × Bool) → Option (AV × List Blk)
  | some r => some ((AV.tup [(TV.one (At.flt FloatKind.f32 r.1)), (TV.one (At.bool r.2))]), [])
  | none => none
theorem e_impl_AirPower (density : Nat) (speed : Nat) : evFn Γ8 8 8 76 (impTs 0 [.one (.s (.flt .f32 density)), .one (.s (.flt .f32 speed))]).1 (impTs 0 [.one (.s (.flt .f32 density)), .one (.s (.flt .f32 speed))]).2 (expo (impTs 0 [.one (.s (.flt .f32 density)), .one (.s (.flt .f32 speed))]).2.length) = T_impl_AirPower density speed (fun c0_ c1_ => some ((AV.tup [(TV.one (At.flt FloatKind.f32 c0_)), (TV.one (At.bool c1_))]), [])) := by kernel_rfl
theorem s_impl_AirPower_ok : SumOne Try.prog 76 s_impl_AirPower := sum_of (Γ := Γ8) (fuel := 8) (d := 8) tyTab_ok (FnL.ok fnTab_ok _ _) (LpL.ok lt8_ok) (SumL.ok tb8_ok _) mixed (by
  intro pts v news hp hc
  clear hc
  unfold s_impl_AirPower at hp
  split at hp
  · rename_i density speed
    exact Eq.trans (Eq.trans (e_impl_AirPower density speed) (T_impl_AirPower_nat (o_impl_AirPower density speed) rfl density speed (fun c0_ c1_ => some (c0_, c1_)))) (fin_out (o := (o_impl_AirPower density speed)) (x := F_impl_AirPower density speed) (d := default) (V := fun r => ((AV.tup [(TV.one (At.flt FloatKind.f32 r.1)), (TV.one (At.bool r.2))]), [])) (fun r => rfl) hp)
  · cases hp)
noncomputable def tb9 : List (Nat × (List PT → Option (Bool × AV × List Blk))) := [(129, s_math_Float64bits), (133, s_math_Float64frombits), (137, s_math_Float32bits), (139, s_math_archTrunc), (25, s_laws_sameFloat), (64, s_spec_l01Finite), (70, s_laws_szFloat32S), (72, s_spec_l04Power), (78, s_impl_IsFinite), (21, s_laws_szRose), (58, s_spec_l02Least), (67, s_impl_isLeast), (77, s_impl_checked), (74, s_laws_toFloat32S), (126, s_impl_areLeast_1), (18, s_laws_eqFloat32S), (23, s_laws_toRose), (26, s_laws_eqRose), (71, s_spec_l04Rose), (125, s_slices_IndexFunc_sf32_f32_areLeast_1), (110, s_slices_ContainsFunc_sf32_f32_areLeast_1), (27, s_spec_StrongestSector), (112, s_impl_areLeast), (75, s_impl_ValidRose), (76, s_impl_AirPower)]
noncomputable def lt9 : List ((Nat × Nat) × (Nat → St → Option (Bool × LO))) := [((74, 3), l_laws_toFloat32S_l3), ((18, 4), l_laws_eqFloat32S_l4), ((71, 5), l_spec_l04Rose_l5), ((125, 2), l_slices_IndexFunc_sf32_f32_areLeast_1_l2), ((27, 6), l_spec_StrongestSector_l6)]
noncomputable def Γ9 : Ctx := ⟨tyTab, fnTab, tblSum tb9, tblLp lt9⟩
theorem tb9_ok : SumL Try.prog tb9 := SumL.cons s_math_Float64bits_ok (SumL.cons s_math_Float64frombits_ok (SumL.cons s_math_Float32bits_ok (SumL.cons s_math_archTrunc_ok (SumL.cons s_laws_sameFloat_ok (SumL.cons s_spec_l01Finite_ok (SumL.cons s_laws_szFloat32S_ok (SumL.cons s_spec_l04Power_ok (SumL.cons s_impl_IsFinite_ok (SumL.cons s_laws_szRose_ok (SumL.cons s_spec_l02Least_ok (SumL.cons s_impl_isLeast_ok (SumL.cons s_impl_checked_ok (SumL.cons s_laws_toFloat32S_ok (SumL.cons s_impl_areLeast_1_ok (SumL.cons s_laws_eqFloat32S_ok (SumL.cons s_laws_toRose_ok (SumL.cons s_laws_eqRose_ok (SumL.cons s_spec_l04Rose_ok (SumL.cons s_slices_IndexFunc_sf32_f32_areLeast_1_ok (SumL.cons s_slices_ContainsFunc_sf32_f32_areLeast_1_ok (SumL.cons s_spec_StrongestSector_ok (SumL.cons s_impl_areLeast_ok (SumL.cons s_impl_ValidRose_ok (SumL.cons s_impl_AirPower_ok (SumL.nil)))))))))))))))))))))))))
theorem lt9_ok : LpL Try.prog fnTab lt9 := LpL.cons l_laws_toFloat32S_l3_ok (LpL.cons l_laws_eqFloat32S_l4_ok (LpL.cons l_spec_l04Rose_l5_ok (LpL.cons l_slices_IndexFunc_sf32_f32_areLeast_1_l2_ok (LpL.cons l_spec_StrongestSector_l6_ok (LpL.nil)))))
noncomputable def tb10 : List (Nat × (List PT → Option (Bool × AV × List Blk))) := [(129, s_math_Float64bits), (133, s_math_Float64frombits), (137, s_math_Float32bits), (139, s_math_archTrunc), (25, s_laws_sameFloat), (64, s_spec_l01Finite), (70, s_laws_szFloat32S), (72, s_spec_l04Power), (78, s_impl_IsFinite), (21, s_laws_szRose), (58, s_spec_l02Least), (67, s_impl_isLeast), (77, s_impl_checked), (74, s_laws_toFloat32S), (126, s_impl_areLeast_1), (18, s_laws_eqFloat32S), (23, s_laws_toRose), (26, s_laws_eqRose), (71, s_spec_l04Rose), (125, s_slices_IndexFunc_sf32_f32_areLeast_1), (110, s_slices_ContainsFunc_sf32_f32_areLeast_1), (27, s_spec_StrongestSector), (112, s_impl_areLeast), (75, s_impl_ValidRose), (76, s_impl_AirPower)]
noncomputable def lt10 : List ((Nat × Nat) × (Nat → St → Option (Bool × LO))) := [((74, 3), l_laws_toFloat32S_l3), ((18, 4), l_laws_eqFloat32S_l4), ((71, 5), l_spec_l04Rose_l5), ((125, 2), l_slices_IndexFunc_sf32_f32_areLeast_1_l2), ((27, 6), l_spec_StrongestSector_l6)]
noncomputable def Γ10 : Ctx := ⟨tyTab, fnTab, tblSum tb10, tblLp lt10⟩
theorem tb10_ok : SumL Try.prog tb10 := SumL.cons s_math_Float64bits_ok (SumL.cons s_math_Float64frombits_ok (SumL.cons s_math_Float32bits_ok (SumL.cons s_math_archTrunc_ok (SumL.cons s_laws_sameFloat_ok (SumL.cons s_spec_l01Finite_ok (SumL.cons s_laws_szFloat32S_ok (SumL.cons s_spec_l04Power_ok (SumL.cons s_impl_IsFinite_ok (SumL.cons s_laws_szRose_ok (SumL.cons s_spec_l02Least_ok (SumL.cons s_impl_isLeast_ok (SumL.cons s_impl_checked_ok (SumL.cons s_laws_toFloat32S_ok (SumL.cons s_impl_areLeast_1_ok (SumL.cons s_laws_eqFloat32S_ok (SumL.cons s_laws_toRose_ok (SumL.cons s_laws_eqRose_ok (SumL.cons s_spec_l04Rose_ok (SumL.cons s_slices_IndexFunc_sf32_f32_areLeast_1_ok (SumL.cons s_slices_ContainsFunc_sf32_f32_areLeast_1_ok (SumL.cons s_spec_StrongestSector_ok (SumL.cons s_impl_areLeast_ok (SumL.cons s_impl_ValidRose_ok (SumL.cons s_impl_AirPower_ok (SumL.nil)))))))))))))))))))))))))
theorem lt10_ok : LpL Try.prog fnTab lt10 := LpL.cons l_laws_toFloat32S_l3_ok (LpL.cons l_laws_eqFloat32S_l4_ok (LpL.cons l_spec_l04Rose_l5_ok (LpL.cons l_slices_IndexFunc_sf32_f32_areLeast_1_l2_ok (LpL.cons l_spec_StrongestSector_l6_ok (LpL.nil)))))
noncomputable def l_impl_StrongestSector_l5 : Nat → St → Option (Bool × LO)
  | 2, (St.mk [(1, (AV.v (TV.one (At.ptr 2 0 2)))), (5, (AV.v (TV.one (At.int IntKind.i64 best)))), (6, (AV.v (TV.one (At.flt FloatKind.f32 most)))), (16, (AV.v (TV.one (At.vw 0 0 t16n 1)))), (17, (AV.v (TV.one (At.int IntKind.i64 t17)))), (18, (AV.v (TV.one (At.int IntKind.i64 t18))))] [(Blk.mk Bool.false (Body.fl FloatKind.f32 b0)), (Blk.mk Bool.false (Body.fl FloatKind.f32 b1)), (Blk.mk Bool.true (Body.cells [(At.vw 0 0 b2_0n 1), (At.vw 1 0 b2_1n 1)]))]) => some ((impl_StrongestSector_l5_p t16n t17 b0 b1 b2_1n best most t18), (LO.two (impl_StrongestSector_l5_w0 t16n t17 b0 b1 b2_1n best most t18) (LO.one Ex.ret (St.mk [(2, (AV.v (TV.one (At.int IntKind.i64 0)))), (3, (AV.v (TV.one (At.flt FloatKind.f32 0)))), (4, (AV.v (TV.one (At.bool Bool.false))))] [(Blk.mk Bool.false (Body.fl FloatKind.f32 b0)), (Blk.mk Bool.false (Body.fl FloatKind.f32 b1))])) (LO.one (Ex.exit 0) (St.mk [(1, (AV.v (TV.one (At.ptr 2 0 2)))), (5, (AV.v (TV.one (At.int IntKind.i64 (impl_StrongestSector_l5_a1_0 t16n t17 b0 b1 b2_1n best most t18))))), (6, (AV.v (TV.one (At.flt FloatKind.f32 (impl_StrongestSector_l5_a1_1 t16n t17 b0 b1 b2_1n best most t18))))), (16, (AV.v (TV.one (At.vw 0 0 t16n 1)))), (17, (AV.v (TV.one (At.int IntKind.i64 t17)))), (18, (AV.v (TV.one (At.int IntKind.i64 (impl_StrongestSector_l5_a1_2 t16n t17 b0 b1 b2_1n best most t18))))), (19, (AV.v (TV.one (At.bool (impl_StrongestSector_l5_a1_3 t16n t17 b0 b1 b2_1n best most t18)))))] [(Blk.mk Bool.false (Body.fl FloatKind.f32 b0)), (Blk.mk Bool.false (Body.fl FloatKind.f32 b1)), (Blk.mk Bool.true (Body.cells [(At.vw 0 0 b2_0n 1), (At.vw 1 0 b2_1n 1)]))]))))
  | _, _ => none
def o_impl_StrongestSector_l5 (t16n : Nat) (t17 : Int) (b0 : List Nat) (b1 : List Nat) (b2_0n : Nat) (b2_1n : Nat) : Option ((Unit) ⊕ (Int × Nat × Int × Bool)) → Option (Ex × St)
  | none => none
  | some (Sum.inl r) => some (Ex.ret, (St.mk [(2, (AV.v (TV.one (At.int IntKind.i64 0)))), (3, (AV.v (TV.one (At.flt FloatKind.f32 0)))), (4, (AV.v (TV.one (At.bool Bool.false))))] [(Blk.mk Bool.false (Body.fl FloatKind.f32 b0)), (Blk.mk Bool.false (Body.fl FloatKind.f32 b1))]))
  | some (Sum.inr r) => some ((Ex.exit 0), (St.mk [(1, (AV.v (TV.one (At.ptr 2 0 2)))), (5, (AV.v (TV.one (At.int IntKind.i64 r.1)))), (6, (AV.v (TV.one (At.flt FloatKind.f32 r.2.1)))), (16, (AV.v (TV.one (At.vw 0 0 t16n 1)))), (17, (AV.v (TV.one (At.int IntKind.i64 t17)))), (18, (AV.v (TV.one (At.int IntKind.i64 r.2.2.1)))), (19, (AV.v (TV.one (At.bool r.2.2.2))))] [(Blk.mk Bool.false (Body.fl FloatKind.f32 b0)), (Blk.mk Bool.false (Body.fl FloatKind.f32 b1)), (Blk.mk Bool.true (Body.cells [(At.vw 0 0 b2_0n 1), (At.vw 1 0 b2_1n 1)]))]))
def lo_impl_StrongestSector_l5 (t16n : Nat) (t17 : Int) (b0 : List Nat) (b1 : List Nat) (b2_0n : Nat) (b2_1n : Nat) (x : Option ((Unit) ⊕ (Int × Nat × Int × Bool))) : LO := (LO.two (oL x) (LO.one Ex.ret (St.mk [(2, (AV.v (TV.one (At.int IntKind.i64 0)))), (3, (AV.v (TV.one (At.flt FloatKind.f32 0)))), (4, (AV.v (TV.one (At.bool Bool.false))))] [(Blk.mk Bool.false (Body.fl FloatKind.f32 b0)), (Blk.mk Bool.false (Body.fl FloatKind.f32 b1))])) (LO.one (Ex.exit 0) (St.mk [(1, (AV.v (TV.one (At.ptr 2 0 2)))), (5, (AV.v (TV.one (At.int IntKind.i64 ((tR x).getD default).1)))), (6, (AV.v (TV.one (At.flt FloatKind.f32 ((tR x).getD default).2.1)))), (16, (AV.v (TV.one (At.vw 0 0 t16n 1)))), (17, (AV.v (TV.one (At.int IntKind.i64 t17)))), (18, (AV.v (TV.one (At.int IntKind.i64 ((tR x).getD default).2.2.1)))), (19, (AV.v (TV.one (At.bool ((tR x).getD default).2.2.2))))] [(Blk.mk Bool.false (Body.fl FloatKind.f32 b0)), (Blk.mk Bool.false (Body.fl FloatKind.f32 b1)), (Blk.mk Bool.true (Body.cells [(At.vw 0 0 b2_0n 1), (At.vw 1 0 b2_1n 1)]))])))
theorem f_impl_StrongestSector_l5 (t16n : Nat) (t17 : Int) (b0 : List Nat) (b1 : List Nat) (b2_0n : Nat) (b2_1n : Nat) : ∀ x : Option ((Unit) ⊕ (Int × Nat × Int × Bool)), x.isSome = true → (o_impl_StrongestSector_l5 t16n t17 b0 b1 b2_0n b2_1n) x = some (pick (lo_impl_StrongestSector_l5 t16n t17 b0 b1 b2_0n b2_1n x))
  | none, h => by cases h
  | some (Sum.inl r), _ => rfl
  | some (Sum.inr r), _ => rfl
theorem r_impl_StrongestSector_l5 (best : Int) (most : Nat) (t16n : Nat) (t17 : Int) (t18 : Int) (b0 : List Nat) (b1 : List Nat) (b2_0n : Nat) (b2_1n : Nat) (K : Ex → St → Option (Ex × St)) : evC (R := Ex × St) Γ10 (evFn Γ10 8 8) 28 2 fi28.nt fi28.live fi28.nl 8 (findL 5 (loopsIn fi28.code)) (St.mk [(1, (AV.v (TV.one (At.ptr 2 0 2)))), (5, (AV.v (TV.one (At.int IntKind.i64 best)))), (6, (AV.v (TV.one (At.flt FloatKind.f32 most)))), (16, (AV.v (TV.one (At.vw 0 0 t16n 1)))), (17, (AV.v (TV.one (At.int IntKind.i64 t17)))), (18, (AV.v (TV.one (At.int IntKind.i64 t18))))] [(Blk.mk Bool.false (Body.fl FloatKind.f32 b0)), (Blk.mk Bool.false (Body.fl FloatKind.f32 b1)), (Blk.mk Bool.true (Body.cells [(At.vw 0 0 b2_0n 1), (At.vw 1 0 b2_1n 1)]))]) K = T_impl_StrongestSector_l5 t16n t17 b0 b1 b2_1n best most t18 (fun best' most' t18' => K .normal (St.mk [(1, (AV.v (TV.one (At.ptr 2 0 2)))), (5, (AV.v (TV.one (At.int IntKind.i64 best')))), (6, (AV.v (TV.one (At.flt FloatKind.f32 most')))), (16, (AV.v (TV.one (At.vw 0 0 t16n 1)))), (17, (AV.v (TV.one (At.int IntKind.i64 t17)))), (18, (AV.v (TV.one (At.int IntKind.i64 t18'))))] [(Blk.mk Bool.false (Body.fl FloatKind.f32 b0)), (Blk.mk Bool.false (Body.fl FloatKind.f32 b1)), (Blk.mk Bool.true (Body.cells [(At.vw 0 0 b2_0n 1), (At.vw 1 0 b2_1n 1)]))])) (fun _ => K Ex.ret (St.mk [(2, (AV.v (TV.one (At.int IntKind.i64 0)))), (3, (AV.v (TV.one (At.flt FloatKind.f32 0)))), (4, (AV.v (TV.one (At.bool Bool.false))))] [(Blk.mk Bool.false (Body.fl FloatKind.f32 b0)), (Blk.mk Bool.false (Body.fl FloatKind.f32 b1))])) (fun c0_ c1_ c2_ c3_ => K (Ex.exit 0) (St.mk [(1, (AV.v (TV.one (At.ptr 2 0 2)))), (5, (AV.v (TV.one (At.int IntKind.i64 c0_)))), (6, (AV.v (TV.one (At.flt FloatKind.f32 c1_)))), (16, (AV.v (TV.one (At.vw 0 0 t16n 1)))), (17, (AV.v (TV.one (At.int IntKind.i64 t17)))), (18, (AV.v (TV.one (At.int IntKind.i64 c2_)))), (19, (AV.v (TV.one (At.bool c3_))))] [(Blk.mk Bool.false (Body.fl FloatKind.f32 b0)), (Blk.mk Bool.false (Body.fl FloatKind.f32 b1)), (Blk.mk Bool.true (Body.cells [(At.vw 0 0 b2_0n 1), (At.vw 1 0 b2_1n 1)]))])) := by kernel_rfl
theorem i_impl_StrongestSector_l5 (t16n : Nat) (t17 : Int) (b0 : List Nat) (b1 : List Nat) (b2_0n : Nat) (b2_1n : Nat) : ∀ (n : Nat) (best : Int) (most : Nat) (t18 : Int), iter 28 5 2 (evC (R := Ex × St) Γ10 (evFn Γ10 8 8) 28 2 fi28.nt fi28.live fi28.nl 8 (findL 5 (loopsIn fi28.code))) n (St.mk [(1, (AV.v (TV.one (At.ptr 2 0 2)))), (5, (AV.v (TV.one (At.int IntKind.i64 best)))), (6, (AV.v (TV.one (At.flt FloatKind.f32 most)))), (16, (AV.v (TV.one (At.vw 0 0 t16n 1)))), (17, (AV.v (TV.one (At.int IntKind.i64 t17)))), (18, (AV.v (TV.one (At.int IntKind.i64 t18))))] [(Blk.mk Bool.false (Body.fl FloatKind.f32 b0)), (Blk.mk Bool.false (Body.fl FloatKind.f32 b1)), (Blk.mk Bool.true (Body.cells [(At.vw 0 0 b2_0n 1), (At.vw 1 0 b2_1n 1)]))]) (fun e st => some (e, st)) = (o_impl_StrongestSector_l5 t16n t17 b0 b1 b2_0n b2_1n) (L_impl_StrongestSector_l5 t16n t17 b0 b1 b2_1n n best most t18) := by
  intro n
  induction n with
  | zero => intros; rfl
  | succ n ih =>
    intro best most t18
    refine Eq.trans (r_impl_StrongestSector_l5 best most t16n t17 t18 b0 b1 b2_0n b2_1n (fun e st => match e with | .normal => iter 28 5 2 (evC (R := Ex × St) Γ10 (evFn Γ10 8 8) 28 2 fi28.nt fi28.live fi28.nl 8 (findL 5 (loopsIn fi28.code))) n st (fun e st => some (e, st)) | e => some (e, st))) (Eq.trans ?_ (T_impl_StrongestSector_l5_nat (o_impl_StrongestSector_l5 t16n t17 b0 b1 b2_0n b2_1n) rfl t16n t17 b0 b1 b2_1n best most t18 (fun best' most' t18' => L_impl_StrongestSector_l5 t16n t17 b0 b1 b2_1n n best' most' t18') (fun _ => some (Sum.inl ())) (fun c0_ c1_ c2_ c3_ => some (Sum.inr (c0_, c1_, c2_, c3_)))))
    exact congrArg (fun kn_ => T_impl_StrongestSector_l5 t16n t17 b0 b1 b2_1n best most t18 kn_ (fun _ => (o_impl_StrongestSector_l5 t16n t17 b0 b1 b2_0n b2_1n) (some (Sum.inl ()))) (fun c0_ c1_ c2_ c3_ => (o_impl_StrongestSector_l5 t16n t17 b0 b1 b2_0n b2_1n) (some (Sum.inr (c0_, c1_, c2_, c3_))))) (funext fun best' => funext fun most' => funext fun t18' => ih best' most' t18')
theorem l_impl_StrongestSector_l5_ok : LoopOne Try.prog fnTab 28 5 l_impl_StrongestSector_l5 := lp_of (Γ := Γ10) tyTab_ok (FnL.ok fnTab_ok _ _) (LpL.ok lt10_ok) (SumL.ok tb10_ok _) mixed (fi := fi28) (by kernel_rfl) (by kernel_rfl) (by
  intro lo st out hp
  unfold l_impl_StrongestSector_l5 at hp
  split at hp
  · rename_i best most t16n t17 t18 b0 b1 b2_0n b2_1n
    injection hp with hp
    injection hp with h1 h2
    subst h2
    exact ⟨8, 8, big, Eq.trans (i_impl_StrongestSector_l5 t16n t17 b0 b1 b2_0n b2_1n big best most t18) (f_impl_StrongestSector_l5 t16n t17 b0 b1 b2_0n b2_1n (L_impl_StrongestSector_l5 t16n t17 b0 b1 b2_1n big best most t18) h1)⟩
  · cases hp)
noncomputable def tb11 : List (Nat × (List PT → Option (Bool × AV × List Blk))) := [(129, s_math_Float64bits), (133, s_math_Float64frombits), (137, s_math_Float32bits), (139, s_math_archTrunc), (25, s_laws_sameFloat), (64, s_spec_l01Finite), (70, s_laws_szFloat32S), (72, s_spec_l04Power), (78, s_impl_IsFinite), (21, s_laws_szRose), (58, s_spec_l02Least), (67, s_impl_isLeast), (77, s_impl_checked), (74, s_laws_toFloat32S), (126, s_impl_areLeast_1), (18, s_laws_eqFloat32S), (23, s_laws_toRose), (26, s_laws_eqRose), (71, s_spec_l04Rose), (125, s_slices_IndexFunc_sf32_f32_areLeast_1), (110, s_slices_ContainsFunc_sf32_f32_areLeast_1), (27, s_spec_StrongestSector), (112, s_impl_areLeast), (75, s_impl_ValidRose), (76, s_impl_AirPower)]
noncomputable def lt11 : List ((Nat × Nat) × (Nat → St → Option (Bool × LO))) := [((74, 3), l_laws_toFloat32S_l3), ((18, 4), l_laws_eqFloat32S_l4), ((71, 5), l_spec_l04Rose_l5), ((125, 2), l_slices_IndexFunc_sf32_f32_areLeast_1_l2), ((27, 6), l_spec_StrongestSector_l6), ((28, 5), l_impl_StrongestSector_l5)]
noncomputable def Γ11 : Ctx := ⟨tyTab, fnTab, tblSum tb11, tblLp lt11⟩
theorem tb11_ok : SumL Try.prog tb11 := SumL.cons s_math_Float64bits_ok (SumL.cons s_math_Float64frombits_ok (SumL.cons s_math_Float32bits_ok (SumL.cons s_math_archTrunc_ok (SumL.cons s_laws_sameFloat_ok (SumL.cons s_spec_l01Finite_ok (SumL.cons s_laws_szFloat32S_ok (SumL.cons s_spec_l04Power_ok (SumL.cons s_impl_IsFinite_ok (SumL.cons s_laws_szRose_ok (SumL.cons s_spec_l02Least_ok (SumL.cons s_impl_isLeast_ok (SumL.cons s_impl_checked_ok (SumL.cons s_laws_toFloat32S_ok (SumL.cons s_impl_areLeast_1_ok (SumL.cons s_laws_eqFloat32S_ok (SumL.cons s_laws_toRose_ok (SumL.cons s_laws_eqRose_ok (SumL.cons s_spec_l04Rose_ok (SumL.cons s_slices_IndexFunc_sf32_f32_areLeast_1_ok (SumL.cons s_slices_ContainsFunc_sf32_f32_areLeast_1_ok (SumL.cons s_spec_StrongestSector_ok (SumL.cons s_impl_areLeast_ok (SumL.cons s_impl_ValidRose_ok (SumL.cons s_impl_AirPower_ok (SumL.nil)))))))))))))))))))))))))
theorem lt11_ok : LpL Try.prog fnTab lt11 := LpL.cons l_laws_toFloat32S_l3_ok (LpL.cons l_laws_eqFloat32S_l4_ok (LpL.cons l_spec_l04Rose_l5_ok (LpL.cons l_slices_IndexFunc_sf32_f32_areLeast_1_l2_ok (LpL.cons l_spec_StrongestSector_l6_ok (LpL.cons l_impl_StrongestSector_l5_ok (LpL.nil))))))
noncomputable def s_impl_StrongestSector : List PT → Option (Bool × AV × List Blk)
  | [.agg [.row 1 r_Shares_n (.fl .f32 r_Shares), .row 1 r_Speeds_n (.fl .f32 r_Speeds)]] => some ((impl_StrongestSector_p r_Shares_n r_Shares r_Speeds_n r_Speeds), ((AV.tup [(TV.one (At.int IntKind.i64 (impl_StrongestSector_v0 r_Shares_n r_Shares r_Speeds_n r_Speeds))), (TV.one (At.flt FloatKind.f32 (impl_StrongestSector_v1 r_Shares_n r_Shares r_Speeds_n r_Speeds))), (TV.one (At.bool (impl_StrongestSector_v2 r_Shares_n r_Shares r_Speeds_n r_Speeds)))]), []))
  | _ => none
def o_impl_StrongestSector (r_Shares_n : Nat) (r_Shares : List Nat) (r_Speeds_n : Nat) (r_Speeds : List Nat) : Option (Int × Nat × Bool) → Option (AV × List Blk)
  | some r => some ((AV.tup [(TV.one (At.int IntKind.i64 r.1)), (TV.one (At.flt FloatKind.f32 r.2.1)), (TV.one (At.bool r.2.2))]), [])
  | none => none
theorem e_impl_StrongestSector (r_Shares_n : Nat) (r_Shares : List Nat) (r_Speeds_n : Nat) (r_Speeds : List Nat) : evFn Γ11 8 8 28 (impTs 0 [.agg [.row 1 r_Shares_n (.fl .f32 r_Shares), .row 1 r_Speeds_n (.fl .f32 r_Speeds)]]).1 (impTs 0 [.agg [.row 1 r_Shares_n (.fl .f32 r_Shares), .row 1 r_Speeds_n (.fl .f32 r_Speeds)]]).2 (expo (impTs 0 [.agg [.row 1 r_Shares_n (.fl .f32 r_Shares), .row 1 r_Speeds_n (.fl .f32 r_Speeds)]]).2.length) = T_impl_StrongestSector r_Shares_n r_Shares r_Speeds_n r_Speeds (fun c0_ c1_ c2_ => some ((AV.tup [(TV.one (At.int IntKind.i64 c0_)), (TV.one (At.flt FloatKind.f32 c1_)), (TV.one (At.bool c2_))]), [])) := by kernel_rfl
theorem s_impl_StrongestSector_ok : SumOne Try.prog 28 s_impl_StrongestSector := sum_of (Γ := Γ11) (fuel := 8) (d := 8) tyTab_ok (FnL.ok fnTab_ok _ _) (LpL.ok lt11_ok) (SumL.ok tb11_ok _) mixed (by
  intro pts v news hp hc
  clear hc
  unfold s_impl_StrongestSector at hp
  split at hp
  · rename_i r_Shares_n r_Shares r_Speeds_n r_Speeds
    exact Eq.trans (Eq.trans (e_impl_StrongestSector r_Shares_n r_Shares r_Speeds_n r_Speeds) (T_impl_StrongestSector_nat (o_impl_StrongestSector r_Shares_n r_Shares r_Speeds_n r_Speeds) rfl r_Shares_n r_Shares r_Speeds_n r_Speeds (fun c0_ c1_ c2_ => some (c0_, c1_, c2_)))) (fin_out (o := (o_impl_StrongestSector r_Shares_n r_Shares r_Speeds_n r_Speeds)) (x := F_impl_StrongestSector r_Shares_n r_Shares r_Speeds_n r_Speeds) (d := default) (V := fun r => ((AV.tup [(TV.one (At.int IntKind.i64 r.1)), (TV.one (At.flt FloatKind.f32 r.2.1)), (TV.one (At.bool r.2.2))]), [])) (fun r => rfl) hp)
  · cases hp)
noncomputable def tb12 : List (Nat × (List PT → Option (Bool × AV × List Blk))) := [(129, s_math_Float64bits), (133, s_math_Float64frombits), (137, s_math_Float32bits), (139, s_math_archTrunc), (25, s_laws_sameFloat), (64, s_spec_l01Finite), (70, s_laws_szFloat32S), (72, s_spec_l04Power), (78, s_impl_IsFinite), (21, s_laws_szRose), (58, s_spec_l02Least), (67, s_impl_isLeast), (77, s_impl_checked), (74, s_laws_toFloat32S), (126, s_impl_areLeast_1), (18, s_laws_eqFloat32S), (23, s_laws_toRose), (26, s_laws_eqRose), (71, s_spec_l04Rose), (125, s_slices_IndexFunc_sf32_f32_areLeast_1), (110, s_slices_ContainsFunc_sf32_f32_areLeast_1), (27, s_spec_StrongestSector), (112, s_impl_areLeast), (75, s_impl_ValidRose), (76, s_impl_AirPower), (28, s_impl_StrongestSector)]
noncomputable def lt12 : List ((Nat × Nat) × (Nat → St → Option (Bool × LO))) := [((74, 3), l_laws_toFloat32S_l3), ((18, 4), l_laws_eqFloat32S_l4), ((71, 5), l_spec_l04Rose_l5), ((125, 2), l_slices_IndexFunc_sf32_f32_areLeast_1_l2), ((27, 6), l_spec_StrongestSector_l6), ((28, 5), l_impl_StrongestSector_l5)]
noncomputable def Γ12 : Ctx := ⟨tyTab, fnTab, tblSum tb12, tblLp lt12⟩
theorem tb12_ok : SumL Try.prog tb12 := SumL.cons s_math_Float64bits_ok (SumL.cons s_math_Float64frombits_ok (SumL.cons s_math_Float32bits_ok (SumL.cons s_math_archTrunc_ok (SumL.cons s_laws_sameFloat_ok (SumL.cons s_spec_l01Finite_ok (SumL.cons s_laws_szFloat32S_ok (SumL.cons s_spec_l04Power_ok (SumL.cons s_impl_IsFinite_ok (SumL.cons s_laws_szRose_ok (SumL.cons s_spec_l02Least_ok (SumL.cons s_impl_isLeast_ok (SumL.cons s_impl_checked_ok (SumL.cons s_laws_toFloat32S_ok (SumL.cons s_impl_areLeast_1_ok (SumL.cons s_laws_eqFloat32S_ok (SumL.cons s_laws_toRose_ok (SumL.cons s_laws_eqRose_ok (SumL.cons s_spec_l04Rose_ok (SumL.cons s_slices_IndexFunc_sf32_f32_areLeast_1_ok (SumL.cons s_slices_ContainsFunc_sf32_f32_areLeast_1_ok (SumL.cons s_spec_StrongestSector_ok (SumL.cons s_impl_areLeast_ok (SumL.cons s_impl_ValidRose_ok (SumL.cons s_impl_AirPower_ok (SumL.cons s_impl_StrongestSector_ok (SumL.nil))))))))))))))))))))))))))
theorem lt12_ok : LpL Try.prog fnTab lt12 := LpL.cons l_laws_toFloat32S_l3_ok (LpL.cons l_laws_eqFloat32S_l4_ok (LpL.cons l_spec_l04Rose_l5_ok (LpL.cons l_slices_IndexFunc_sf32_f32_areLeast_1_l2_ok (LpL.cons l_spec_StrongestSector_l6_ok (LpL.cons l_impl_StrongestSector_l5_ok (LpL.nil))))))
noncomputable def s_laws_FnExactStrongestSector : List PT → Option (Bool × AV × List Blk)
  | [.agg [.row 1 aR_Shares_n (.fl .f32 aR_Shares), .row 1 aR_Speeds_n (.fl .f32 aR_Speeds)]] => some ((laws_FnExactStrongestSector_p aR_Shares_n aR_Shares aR_Speeds_n aR_Speeds), ((AV.v (TV.one (At.bool (laws_FnExactStrongestSector_v0 aR_Shares_n aR_Shares aR_Speeds_n aR_Speeds)))), []))
  | _ => none
def o_laws_FnExactStrongestSector (aR_Shares_n : Nat) (aR_Shares : List Nat) (aR_Speeds_n : Nat) (aR_Speeds : List Nat) : Option (Bool) → Option (AV × List Blk)
  | some r => some ((AV.v (TV.one (At.bool r))), [])
  | none => none
theorem e_laws_FnExactStrongestSector (aR_Shares_n : Nat) (aR_Shares : List Nat) (aR_Speeds_n : Nat) (aR_Speeds : List Nat) : evFn Γ12 8 8 5 (impTs 0 [.agg [.row 1 aR_Shares_n (.fl .f32 aR_Shares), .row 1 aR_Speeds_n (.fl .f32 aR_Speeds)]]).1 (impTs 0 [.agg [.row 1 aR_Shares_n (.fl .f32 aR_Shares), .row 1 aR_Speeds_n (.fl .f32 aR_Speeds)]]).2 (expo (impTs 0 [.agg [.row 1 aR_Shares_n (.fl .f32 aR_Shares), .row 1 aR_Speeds_n (.fl .f32 aR_Speeds)]]).2.length) = T_laws_FnExactStrongestSector aR_Shares_n aR_Shares aR_Speeds_n aR_Speeds (fun c0_ => some ((AV.v (TV.one (At.bool c0_))), [])) := by kernel_rfl
theorem s_laws_FnExactStrongestSector_ok : SumOne Try.prog 5 s_laws_FnExactStrongestSector := sum_of (Γ := Γ12) (fuel := 8) (d := 8) tyTab_ok (FnL.ok fnTab_ok _ _) (LpL.ok lt12_ok) (SumL.ok tb12_ok _) mixed (by
  intro pts v news hp hc
  clear hc
  unfold s_laws_FnExactStrongestSector at hp
  split at hp
  · rename_i aR_Shares_n aR_Shares aR_Speeds_n aR_Speeds
    exact Eq.trans (Eq.trans (e_laws_FnExactStrongestSector aR_Shares_n aR_Shares aR_Speeds_n aR_Speeds) (T_laws_FnExactStrongestSector_nat (o_laws_FnExactStrongestSector aR_Shares_n aR_Shares aR_Speeds_n aR_Speeds) rfl aR_Shares_n aR_Shares aR_Speeds_n aR_Speeds (fun c0_ => some c0_))) (fin_out (o := (o_laws_FnExactStrongestSector aR_Shares_n aR_Shares aR_Speeds_n aR_Speeds)) (x := F_laws_FnExactStrongestSector aR_Shares_n aR_Shares aR_Speeds_n aR_Speeds) (d := default) (V := fun r => ((AV.v (TV.one (At.bool r))), [])) (fun r => rfl) hp)
  · cases hp)
noncomputable def tb13 : List (Nat × (List PT → Option (Bool × AV × List Blk))) := [(129, s_math_Float64bits), (133, s_math_Float64frombits), (137, s_math_Float32bits), (139, s_math_archTrunc), (25, s_laws_sameFloat), (64, s_spec_l01Finite), (70, s_laws_szFloat32S), (72, s_spec_l04Power), (78, s_impl_IsFinite), (21, s_laws_szRose), (58, s_spec_l02Least), (67, s_impl_isLeast), (77, s_impl_checked), (74, s_laws_toFloat32S), (126, s_impl_areLeast_1), (18, s_laws_eqFloat32S), (23, s_laws_toRose), (26, s_laws_eqRose), (71, s_spec_l04Rose), (125, s_slices_IndexFunc_sf32_f32_areLeast_1), (110, s_slices_ContainsFunc_sf32_f32_areLeast_1), (27, s_spec_StrongestSector), (112, s_impl_areLeast), (75, s_impl_ValidRose), (76, s_impl_AirPower), (28, s_impl_StrongestSector), (5, s_laws_FnExactStrongestSector)]
noncomputable def lt13 : List ((Nat × Nat) × (Nat → St → Option (Bool × LO))) := [((74, 3), l_laws_toFloat32S_l3), ((18, 4), l_laws_eqFloat32S_l4), ((71, 5), l_spec_l04Rose_l5), ((125, 2), l_slices_IndexFunc_sf32_f32_areLeast_1_l2), ((27, 6), l_spec_StrongestSector_l6), ((28, 5), l_impl_StrongestSector_l5)]
noncomputable def Γ13 : Ctx := ⟨tyTab, fnTab, tblSum tb13, tblLp lt13⟩
theorem tb13_ok : SumL Try.prog tb13 := SumL.cons s_math_Float64bits_ok (SumL.cons s_math_Float64frombits_ok (SumL.cons s_math_Float32bits_ok (SumL.cons s_math_archTrunc_ok (SumL.cons s_laws_sameFloat_ok (SumL.cons s_spec_l01Finite_ok (SumL.cons s_laws_szFloat32S_ok (SumL.cons s_spec_l04Power_ok (SumL.cons s_impl_IsFinite_ok (SumL.cons s_laws_szRose_ok (SumL.cons s_spec_l02Least_ok (SumL.cons s_impl_isLeast_ok (SumL.cons s_impl_checked_ok (SumL.cons s_laws_toFloat32S_ok (SumL.cons s_impl_areLeast_1_ok (SumL.cons s_laws_eqFloat32S_ok (SumL.cons s_laws_toRose_ok (SumL.cons s_laws_eqRose_ok (SumL.cons s_spec_l04Rose_ok (SumL.cons s_slices_IndexFunc_sf32_f32_areLeast_1_ok (SumL.cons s_slices_ContainsFunc_sf32_f32_areLeast_1_ok (SumL.cons s_spec_StrongestSector_ok (SumL.cons s_impl_areLeast_ok (SumL.cons s_impl_ValidRose_ok (SumL.cons s_impl_AirPower_ok (SumL.cons s_impl_StrongestSector_ok (SumL.cons s_laws_FnExactStrongestSector_ok (SumL.nil)))))))))))))))))))))))))))
theorem lt13_ok : LpL Try.prog fnTab lt13 := LpL.cons l_laws_toFloat32S_l3_ok (LpL.cons l_laws_eqFloat32S_l4_ok (LpL.cons l_spec_l04Rose_l5_ok (LpL.cons l_slices_IndexFunc_sf32_f32_areLeast_1_l2_ok (LpL.cons l_spec_StrongestSector_l6_ok (LpL.cons l_impl_StrongestSector_l5_ok (LpL.nil))))))
noncomputable def tb14 : List (Nat × (List PT → Option (Bool × AV × List Blk))) := [(129, s_math_Float64bits), (133, s_math_Float64frombits), (137, s_math_Float32bits), (139, s_math_archTrunc), (25, s_laws_sameFloat), (64, s_spec_l01Finite), (70, s_laws_szFloat32S), (72, s_spec_l04Power), (78, s_impl_IsFinite), (21, s_laws_szRose), (58, s_spec_l02Least), (67, s_impl_isLeast), (77, s_impl_checked), (74, s_laws_toFloat32S), (126, s_impl_areLeast_1), (18, s_laws_eqFloat32S), (23, s_laws_toRose), (26, s_laws_eqRose), (71, s_spec_l04Rose), (125, s_slices_IndexFunc_sf32_f32_areLeast_1), (110, s_slices_ContainsFunc_sf32_f32_areLeast_1), (27, s_spec_StrongestSector), (112, s_impl_areLeast), (75, s_impl_ValidRose), (76, s_impl_AirPower), (28, s_impl_StrongestSector), (5, s_laws_FnExactStrongestSector)]
noncomputable def lt14 : List ((Nat × Nat) × (Nat → St → Option (Bool × LO))) := [((74, 3), l_laws_toFloat32S_l3), ((18, 4), l_laws_eqFloat32S_l4), ((71, 5), l_spec_l04Rose_l5), ((125, 2), l_slices_IndexFunc_sf32_f32_areLeast_1_l2), ((27, 6), l_spec_StrongestSector_l6), ((28, 5), l_impl_StrongestSector_l5)]
noncomputable def Γ14 : Ctx := ⟨tyTab, fnTab, tblSum tb14, tblLp lt14⟩
theorem tb14_ok : SumL Try.prog tb14 := SumL.cons s_math_Float64bits_ok (SumL.cons s_math_Float64frombits_ok (SumL.cons s_math_Float32bits_ok (SumL.cons s_math_archTrunc_ok (SumL.cons s_laws_sameFloat_ok (SumL.cons s_spec_l01Finite_ok (SumL.cons s_laws_szFloat32S_ok (SumL.cons s_spec_l04Power_ok (SumL.cons s_impl_IsFinite_ok (SumL.cons s_laws_szRose_ok (SumL.cons s_spec_l02Least_ok (SumL.cons s_impl_isLeast_ok (SumL.cons s_impl_checked_ok (SumL.cons s_laws_toFloat32S_ok (SumL.cons s_impl_areLeast_1_ok (SumL.cons s_laws_eqFloat32S_ok (SumL.cons s_laws_toRose_ok (SumL.cons s_laws_eqRose_ok (SumL.cons s_spec_l04Rose_ok (SumL.cons s_slices_IndexFunc_sf32_f32_areLeast_1_ok (SumL.cons s_slices_ContainsFunc_sf32_f32_areLeast_1_ok (SumL.cons s_spec_StrongestSector_ok (SumL.cons s_impl_areLeast_ok (SumL.cons s_impl_ValidRose_ok (SumL.cons s_impl_AirPower_ok (SumL.cons s_impl_StrongestSector_ok (SumL.cons s_laws_FnExactStrongestSector_ok (SumL.nil)))))))))))))))))))))))))))
theorem lt14_ok : LpL Try.prog fnTab lt14 := LpL.cons l_laws_toFloat32S_l3_ok (LpL.cons l_laws_eqFloat32S_l4_ok (LpL.cons l_spec_l04Rose_l5_ok (LpL.cons l_slices_IndexFunc_sf32_f32_areLeast_1_l2_ok (LpL.cons l_spec_StrongestSector_l6_ok (LpL.cons l_impl_StrongestSector_l5_ok (LpL.nil))))))
noncomputable def tb15 : List (Nat × (List PT → Option (Bool × AV × List Blk))) := [(129, s_math_Float64bits), (133, s_math_Float64frombits), (137, s_math_Float32bits), (139, s_math_archTrunc), (25, s_laws_sameFloat), (64, s_spec_l01Finite), (70, s_laws_szFloat32S), (72, s_spec_l04Power), (78, s_impl_IsFinite), (21, s_laws_szRose), (58, s_spec_l02Least), (67, s_impl_isLeast), (77, s_impl_checked), (74, s_laws_toFloat32S), (126, s_impl_areLeast_1), (18, s_laws_eqFloat32S), (23, s_laws_toRose), (26, s_laws_eqRose), (71, s_spec_l04Rose), (125, s_slices_IndexFunc_sf32_f32_areLeast_1), (110, s_slices_ContainsFunc_sf32_f32_areLeast_1), (27, s_spec_StrongestSector), (112, s_impl_areLeast), (75, s_impl_ValidRose), (76, s_impl_AirPower), (28, s_impl_StrongestSector), (5, s_laws_FnExactStrongestSector)]
noncomputable def lt15 : List ((Nat × Nat) × (Nat → St → Option (Bool × LO))) := [((74, 3), l_laws_toFloat32S_l3), ((18, 4), l_laws_eqFloat32S_l4), ((71, 5), l_spec_l04Rose_l5), ((125, 2), l_slices_IndexFunc_sf32_f32_areLeast_1_l2), ((27, 6), l_spec_StrongestSector_l6), ((28, 5), l_impl_StrongestSector_l5)]
noncomputable def Γ15 : Ctx := ⟨tyTab, fnTab, tblSum tb15, tblLp lt15⟩
theorem tb15_ok : SumL Try.prog tb15 := SumL.cons s_math_Float64bits_ok (SumL.cons s_math_Float64frombits_ok (SumL.cons s_math_Float32bits_ok (SumL.cons s_math_archTrunc_ok (SumL.cons s_laws_sameFloat_ok (SumL.cons s_spec_l01Finite_ok (SumL.cons s_laws_szFloat32S_ok (SumL.cons s_spec_l04Power_ok (SumL.cons s_impl_IsFinite_ok (SumL.cons s_laws_szRose_ok (SumL.cons s_spec_l02Least_ok (SumL.cons s_impl_isLeast_ok (SumL.cons s_impl_checked_ok (SumL.cons s_laws_toFloat32S_ok (SumL.cons s_impl_areLeast_1_ok (SumL.cons s_laws_eqFloat32S_ok (SumL.cons s_laws_toRose_ok (SumL.cons s_laws_eqRose_ok (SumL.cons s_spec_l04Rose_ok (SumL.cons s_slices_IndexFunc_sf32_f32_areLeast_1_ok (SumL.cons s_slices_ContainsFunc_sf32_f32_areLeast_1_ok (SumL.cons s_spec_StrongestSector_ok (SumL.cons s_impl_areLeast_ok (SumL.cons s_impl_ValidRose_ok (SumL.cons s_impl_AirPower_ok (SumL.cons s_impl_StrongestSector_ok (SumL.cons s_laws_FnExactStrongestSector_ok (SumL.nil)))))))))))))))))))))))))))
theorem lt15_ok : LpL Try.prog fnTab lt15 := LpL.cons l_laws_toFloat32S_l3_ok (LpL.cons l_laws_eqFloat32S_l4_ok (LpL.cons l_spec_l04Rose_l5_ok (LpL.cons l_slices_IndexFunc_sf32_f32_areLeast_1_l2_ok (LpL.cons l_spec_StrongestSector_l6_ok (LpL.cons l_impl_StrongestSector_l5_ok (LpL.nil))))))
noncomputable def tb16 : List (Nat × (List PT → Option (Bool × AV × List Blk))) := [(129, s_math_Float64bits), (133, s_math_Float64frombits), (137, s_math_Float32bits), (139, s_math_archTrunc), (25, s_laws_sameFloat), (64, s_spec_l01Finite), (70, s_laws_szFloat32S), (72, s_spec_l04Power), (78, s_impl_IsFinite), (21, s_laws_szRose), (58, s_spec_l02Least), (67, s_impl_isLeast), (77, s_impl_checked), (74, s_laws_toFloat32S), (126, s_impl_areLeast_1), (18, s_laws_eqFloat32S), (23, s_laws_toRose), (26, s_laws_eqRose), (71, s_spec_l04Rose), (125, s_slices_IndexFunc_sf32_f32_areLeast_1), (110, s_slices_ContainsFunc_sf32_f32_areLeast_1), (27, s_spec_StrongestSector), (112, s_impl_areLeast), (75, s_impl_ValidRose), (76, s_impl_AirPower), (28, s_impl_StrongestSector), (5, s_laws_FnExactStrongestSector)]
noncomputable def lt16 : List ((Nat × Nat) × (Nat → St → Option (Bool × LO))) := [((74, 3), l_laws_toFloat32S_l3), ((18, 4), l_laws_eqFloat32S_l4), ((71, 5), l_spec_l04Rose_l5), ((125, 2), l_slices_IndexFunc_sf32_f32_areLeast_1_l2), ((27, 6), l_spec_StrongestSector_l6), ((28, 5), l_impl_StrongestSector_l5)]
noncomputable def Γ16 : Ctx := ⟨tyTab, fnTab, tblSum tb16, tblLp lt16⟩
theorem tb16_ok : SumL Try.prog tb16 := SumL.cons s_math_Float64bits_ok (SumL.cons s_math_Float64frombits_ok (SumL.cons s_math_Float32bits_ok (SumL.cons s_math_archTrunc_ok (SumL.cons s_laws_sameFloat_ok (SumL.cons s_spec_l01Finite_ok (SumL.cons s_laws_szFloat32S_ok (SumL.cons s_spec_l04Power_ok (SumL.cons s_impl_IsFinite_ok (SumL.cons s_laws_szRose_ok (SumL.cons s_spec_l02Least_ok (SumL.cons s_impl_isLeast_ok (SumL.cons s_impl_checked_ok (SumL.cons s_laws_toFloat32S_ok (SumL.cons s_impl_areLeast_1_ok (SumL.cons s_laws_eqFloat32S_ok (SumL.cons s_laws_toRose_ok (SumL.cons s_laws_eqRose_ok (SumL.cons s_spec_l04Rose_ok (SumL.cons s_slices_IndexFunc_sf32_f32_areLeast_1_ok (SumL.cons s_slices_ContainsFunc_sf32_f32_areLeast_1_ok (SumL.cons s_spec_StrongestSector_ok (SumL.cons s_impl_areLeast_ok (SumL.cons s_impl_ValidRose_ok (SumL.cons s_impl_AirPower_ok (SumL.cons s_impl_StrongestSector_ok (SumL.cons s_laws_FnExactStrongestSector_ok (SumL.nil)))))))))))))))))))))))))))
theorem lt16_ok : LpL Try.prog fnTab lt16 := LpL.cons l_laws_toFloat32S_l3_ok (LpL.cons l_laws_eqFloat32S_l4_ok (LpL.cons l_spec_l04Rose_l5_ok (LpL.cons l_slices_IndexFunc_sf32_f32_areLeast_1_l2_ok (LpL.cons l_spec_StrongestSector_l6_ok (LpL.cons l_impl_StrongestSector_l5_ok (LpL.nil))))))
noncomputable def tb17 : List (Nat × (List PT → Option (Bool × AV × List Blk))) := [(129, s_math_Float64bits), (133, s_math_Float64frombits), (137, s_math_Float32bits), (139, s_math_archTrunc), (25, s_laws_sameFloat), (64, s_spec_l01Finite), (70, s_laws_szFloat32S), (72, s_spec_l04Power), (78, s_impl_IsFinite), (21, s_laws_szRose), (58, s_spec_l02Least), (67, s_impl_isLeast), (77, s_impl_checked), (74, s_laws_toFloat32S), (126, s_impl_areLeast_1), (18, s_laws_eqFloat32S), (23, s_laws_toRose), (26, s_laws_eqRose), (71, s_spec_l04Rose), (125, s_slices_IndexFunc_sf32_f32_areLeast_1), (110, s_slices_ContainsFunc_sf32_f32_areLeast_1), (27, s_spec_StrongestSector), (112, s_impl_areLeast), (75, s_impl_ValidRose), (76, s_impl_AirPower), (28, s_impl_StrongestSector), (5, s_laws_FnExactStrongestSector)]
noncomputable def lt17 : List ((Nat × Nat) × (Nat → St → Option (Bool × LO))) := [((74, 3), l_laws_toFloat32S_l3), ((18, 4), l_laws_eqFloat32S_l4), ((71, 5), l_spec_l04Rose_l5), ((125, 2), l_slices_IndexFunc_sf32_f32_areLeast_1_l2), ((27, 6), l_spec_StrongestSector_l6), ((28, 5), l_impl_StrongestSector_l5)]
noncomputable def Γ17 : Ctx := ⟨tyTab, fnTab, tblSum tb17, tblLp lt17⟩
theorem tb17_ok : SumL Try.prog tb17 := SumL.cons s_math_Float64bits_ok (SumL.cons s_math_Float64frombits_ok (SumL.cons s_math_Float32bits_ok (SumL.cons s_math_archTrunc_ok (SumL.cons s_laws_sameFloat_ok (SumL.cons s_spec_l01Finite_ok (SumL.cons s_laws_szFloat32S_ok (SumL.cons s_spec_l04Power_ok (SumL.cons s_impl_IsFinite_ok (SumL.cons s_laws_szRose_ok (SumL.cons s_spec_l02Least_ok (SumL.cons s_impl_isLeast_ok (SumL.cons s_impl_checked_ok (SumL.cons s_laws_toFloat32S_ok (SumL.cons s_impl_areLeast_1_ok (SumL.cons s_laws_eqFloat32S_ok (SumL.cons s_laws_toRose_ok (SumL.cons s_laws_eqRose_ok (SumL.cons s_spec_l04Rose_ok (SumL.cons s_slices_IndexFunc_sf32_f32_areLeast_1_ok (SumL.cons s_slices_ContainsFunc_sf32_f32_areLeast_1_ok (SumL.cons s_spec_StrongestSector_ok (SumL.cons s_impl_areLeast_ok (SumL.cons s_impl_ValidRose_ok (SumL.cons s_impl_AirPower_ok (SumL.cons s_impl_StrongestSector_ok (SumL.cons s_laws_FnExactStrongestSector_ok (SumL.nil)))))))))))))))))))))))))))
theorem lt17_ok : LpL Try.prog fnTab lt17 := LpL.cons l_laws_toFloat32S_l3_ok (LpL.cons l_laws_eqFloat32S_l4_ok (LpL.cons l_spec_l04Rose_l5_ok (LpL.cons l_slices_IndexFunc_sf32_f32_areLeast_1_l2_ok (LpL.cons l_spec_StrongestSector_l6_ok (LpL.cons l_impl_StrongestSector_l5_ok (LpL.nil))))))
noncomputable def tb18 : List (Nat × (List PT → Option (Bool × AV × List Blk))) := [(129, s_math_Float64bits), (133, s_math_Float64frombits), (137, s_math_Float32bits), (139, s_math_archTrunc), (25, s_laws_sameFloat), (64, s_spec_l01Finite), (70, s_laws_szFloat32S), (72, s_spec_l04Power), (78, s_impl_IsFinite), (21, s_laws_szRose), (58, s_spec_l02Least), (67, s_impl_isLeast), (77, s_impl_checked), (74, s_laws_toFloat32S), (126, s_impl_areLeast_1), (18, s_laws_eqFloat32S), (23, s_laws_toRose), (26, s_laws_eqRose), (71, s_spec_l04Rose), (125, s_slices_IndexFunc_sf32_f32_areLeast_1), (110, s_slices_ContainsFunc_sf32_f32_areLeast_1), (27, s_spec_StrongestSector), (112, s_impl_areLeast), (75, s_impl_ValidRose), (76, s_impl_AirPower), (28, s_impl_StrongestSector), (5, s_laws_FnExactStrongestSector)]
noncomputable def lt18 : List ((Nat × Nat) × (Nat → St → Option (Bool × LO))) := [((74, 3), l_laws_toFloat32S_l3), ((18, 4), l_laws_eqFloat32S_l4), ((71, 5), l_spec_l04Rose_l5), ((125, 2), l_slices_IndexFunc_sf32_f32_areLeast_1_l2), ((27, 6), l_spec_StrongestSector_l6), ((28, 5), l_impl_StrongestSector_l5)]
noncomputable def Γ18 : Ctx := ⟨tyTab, fnTab, tblSum tb18, tblLp lt18⟩
theorem tb18_ok : SumL Try.prog tb18 := SumL.cons s_math_Float64bits_ok (SumL.cons s_math_Float64frombits_ok (SumL.cons s_math_Float32bits_ok (SumL.cons s_math_archTrunc_ok (SumL.cons s_laws_sameFloat_ok (SumL.cons s_spec_l01Finite_ok (SumL.cons s_laws_szFloat32S_ok (SumL.cons s_spec_l04Power_ok (SumL.cons s_impl_IsFinite_ok (SumL.cons s_laws_szRose_ok (SumL.cons s_spec_l02Least_ok (SumL.cons s_impl_isLeast_ok (SumL.cons s_impl_checked_ok (SumL.cons s_laws_toFloat32S_ok (SumL.cons s_impl_areLeast_1_ok (SumL.cons s_laws_eqFloat32S_ok (SumL.cons s_laws_toRose_ok (SumL.cons s_laws_eqRose_ok (SumL.cons s_spec_l04Rose_ok (SumL.cons s_slices_IndexFunc_sf32_f32_areLeast_1_ok (SumL.cons s_slices_ContainsFunc_sf32_f32_areLeast_1_ok (SumL.cons s_spec_StrongestSector_ok (SumL.cons s_impl_areLeast_ok (SumL.cons s_impl_ValidRose_ok (SumL.cons s_impl_AirPower_ok (SumL.cons s_impl_StrongestSector_ok (SumL.cons s_laws_FnExactStrongestSector_ok (SumL.nil)))))))))))))))))))))))))))
theorem lt18_ok : LpL Try.prog fnTab lt18 := LpL.cons l_laws_toFloat32S_l3_ok (LpL.cons l_laws_eqFloat32S_l4_ok (LpL.cons l_spec_l04Rose_l5_ok (LpL.cons l_slices_IndexFunc_sf32_f32_areLeast_1_l2_ok (LpL.cons l_spec_StrongestSector_l6_ok (LpL.cons l_impl_StrongestSector_l5_ok (LpL.nil))))))
noncomputable def tb19 : List (Nat × (List PT → Option (Bool × AV × List Blk))) := [(129, s_math_Float64bits), (133, s_math_Float64frombits), (137, s_math_Float32bits), (139, s_math_archTrunc), (25, s_laws_sameFloat), (64, s_spec_l01Finite), (70, s_laws_szFloat32S), (72, s_spec_l04Power), (78, s_impl_IsFinite), (21, s_laws_szRose), (58, s_spec_l02Least), (67, s_impl_isLeast), (77, s_impl_checked), (74, s_laws_toFloat32S), (126, s_impl_areLeast_1), (18, s_laws_eqFloat32S), (23, s_laws_toRose), (26, s_laws_eqRose), (71, s_spec_l04Rose), (125, s_slices_IndexFunc_sf32_f32_areLeast_1), (110, s_slices_ContainsFunc_sf32_f32_areLeast_1), (27, s_spec_StrongestSector), (112, s_impl_areLeast), (75, s_impl_ValidRose), (76, s_impl_AirPower), (28, s_impl_StrongestSector), (5, s_laws_FnExactStrongestSector)]
noncomputable def lt19 : List ((Nat × Nat) × (Nat → St → Option (Bool × LO))) := [((74, 3), l_laws_toFloat32S_l3), ((18, 4), l_laws_eqFloat32S_l4), ((71, 5), l_spec_l04Rose_l5), ((125, 2), l_slices_IndexFunc_sf32_f32_areLeast_1_l2), ((27, 6), l_spec_StrongestSector_l6), ((28, 5), l_impl_StrongestSector_l5)]
noncomputable def Γ19 : Ctx := ⟨tyTab, fnTab, tblSum tb19, tblLp lt19⟩
theorem tb19_ok : SumL Try.prog tb19 := SumL.cons s_math_Float64bits_ok (SumL.cons s_math_Float64frombits_ok (SumL.cons s_math_Float32bits_ok (SumL.cons s_math_archTrunc_ok (SumL.cons s_laws_sameFloat_ok (SumL.cons s_spec_l01Finite_ok (SumL.cons s_laws_szFloat32S_ok (SumL.cons s_spec_l04Power_ok (SumL.cons s_impl_IsFinite_ok (SumL.cons s_laws_szRose_ok (SumL.cons s_spec_l02Least_ok (SumL.cons s_impl_isLeast_ok (SumL.cons s_impl_checked_ok (SumL.cons s_laws_toFloat32S_ok (SumL.cons s_impl_areLeast_1_ok (SumL.cons s_laws_eqFloat32S_ok (SumL.cons s_laws_toRose_ok (SumL.cons s_laws_eqRose_ok (SumL.cons s_spec_l04Rose_ok (SumL.cons s_slices_IndexFunc_sf32_f32_areLeast_1_ok (SumL.cons s_slices_ContainsFunc_sf32_f32_areLeast_1_ok (SumL.cons s_spec_StrongestSector_ok (SumL.cons s_impl_areLeast_ok (SumL.cons s_impl_ValidRose_ok (SumL.cons s_impl_AirPower_ok (SumL.cons s_impl_StrongestSector_ok (SumL.cons s_laws_FnExactStrongestSector_ok (SumL.nil)))))))))))))))))))))))))))
theorem lt19_ok : LpL Try.prog fnTab lt19 := LpL.cons l_laws_toFloat32S_l3_ok (LpL.cons l_laws_eqFloat32S_l4_ok (LpL.cons l_spec_l04Rose_l5_ok (LpL.cons l_slices_IndexFunc_sf32_f32_areLeast_1_l2_ok (LpL.cons l_spec_StrongestSector_l6_ok (LpL.cons l_impl_StrongestSector_l5_ok (LpL.nil))))))
noncomputable def tb20 : List (Nat × (List PT → Option (Bool × AV × List Blk))) := [(129, s_math_Float64bits), (133, s_math_Float64frombits), (137, s_math_Float32bits), (139, s_math_archTrunc), (25, s_laws_sameFloat), (64, s_spec_l01Finite), (70, s_laws_szFloat32S), (72, s_spec_l04Power), (78, s_impl_IsFinite), (21, s_laws_szRose), (58, s_spec_l02Least), (67, s_impl_isLeast), (77, s_impl_checked), (74, s_laws_toFloat32S), (126, s_impl_areLeast_1), (18, s_laws_eqFloat32S), (23, s_laws_toRose), (26, s_laws_eqRose), (71, s_spec_l04Rose), (125, s_slices_IndexFunc_sf32_f32_areLeast_1), (110, s_slices_ContainsFunc_sf32_f32_areLeast_1), (27, s_spec_StrongestSector), (112, s_impl_areLeast), (75, s_impl_ValidRose), (76, s_impl_AirPower), (28, s_impl_StrongestSector), (5, s_laws_FnExactStrongestSector)]
noncomputable def lt20 : List ((Nat × Nat) × (Nat → St → Option (Bool × LO))) := [((74, 3), l_laws_toFloat32S_l3), ((18, 4), l_laws_eqFloat32S_l4), ((71, 5), l_spec_l04Rose_l5), ((125, 2), l_slices_IndexFunc_sf32_f32_areLeast_1_l2), ((27, 6), l_spec_StrongestSector_l6), ((28, 5), l_impl_StrongestSector_l5)]
noncomputable def Γ20 : Ctx := ⟨tyTab, fnTab, tblSum tb20, tblLp lt20⟩
theorem tb20_ok : SumL Try.prog tb20 := SumL.cons s_math_Float64bits_ok (SumL.cons s_math_Float64frombits_ok (SumL.cons s_math_Float32bits_ok (SumL.cons s_math_archTrunc_ok (SumL.cons s_laws_sameFloat_ok (SumL.cons s_spec_l01Finite_ok (SumL.cons s_laws_szFloat32S_ok (SumL.cons s_spec_l04Power_ok (SumL.cons s_impl_IsFinite_ok (SumL.cons s_laws_szRose_ok (SumL.cons s_spec_l02Least_ok (SumL.cons s_impl_isLeast_ok (SumL.cons s_impl_checked_ok (SumL.cons s_laws_toFloat32S_ok (SumL.cons s_impl_areLeast_1_ok (SumL.cons s_laws_eqFloat32S_ok (SumL.cons s_laws_toRose_ok (SumL.cons s_laws_eqRose_ok (SumL.cons s_spec_l04Rose_ok (SumL.cons s_slices_IndexFunc_sf32_f32_areLeast_1_ok (SumL.cons s_slices_ContainsFunc_sf32_f32_areLeast_1_ok (SumL.cons s_spec_StrongestSector_ok (SumL.cons s_impl_areLeast_ok (SumL.cons s_impl_ValidRose_ok (SumL.cons s_impl_AirPower_ok (SumL.cons s_impl_StrongestSector_ok (SumL.cons s_laws_FnExactStrongestSector_ok (SumL.nil)))))))))))))))))))))))))))
theorem lt20_ok : LpL Try.prog fnTab lt20 := LpL.cons l_laws_toFloat32S_l3_ok (LpL.cons l_laws_eqFloat32S_l4_ok (LpL.cons l_spec_l04Rose_l5_ok (LpL.cons l_slices_IndexFunc_sf32_f32_areLeast_1_l2_ok (LpL.cons l_spec_StrongestSector_l6_ok (LpL.cons l_impl_StrongestSector_l5_ok (LpL.nil))))))
noncomputable def tb21 : List (Nat × (List PT → Option (Bool × AV × List Blk))) := [(129, s_math_Float64bits), (133, s_math_Float64frombits), (137, s_math_Float32bits), (139, s_math_archTrunc), (25, s_laws_sameFloat), (64, s_spec_l01Finite), (70, s_laws_szFloat32S), (72, s_spec_l04Power), (78, s_impl_IsFinite), (21, s_laws_szRose), (58, s_spec_l02Least), (67, s_impl_isLeast), (77, s_impl_checked), (74, s_laws_toFloat32S), (126, s_impl_areLeast_1), (18, s_laws_eqFloat32S), (23, s_laws_toRose), (26, s_laws_eqRose), (71, s_spec_l04Rose), (125, s_slices_IndexFunc_sf32_f32_areLeast_1), (110, s_slices_ContainsFunc_sf32_f32_areLeast_1), (27, s_spec_StrongestSector), (112, s_impl_areLeast), (75, s_impl_ValidRose), (76, s_impl_AirPower), (28, s_impl_StrongestSector), (5, s_laws_FnExactStrongestSector)]
noncomputable def lt21 : List ((Nat × Nat) × (Nat → St → Option (Bool × LO))) := [((74, 3), l_laws_toFloat32S_l3), ((18, 4), l_laws_eqFloat32S_l4), ((71, 5), l_spec_l04Rose_l5), ((125, 2), l_slices_IndexFunc_sf32_f32_areLeast_1_l2), ((27, 6), l_spec_StrongestSector_l6), ((28, 5), l_impl_StrongestSector_l5)]
noncomputable def Γ21 : Ctx := ⟨tyTab, fnTab, tblSum tb21, tblLp lt21⟩
theorem tb21_ok : SumL Try.prog tb21 := SumL.cons s_math_Float64bits_ok (SumL.cons s_math_Float64frombits_ok (SumL.cons s_math_Float32bits_ok (SumL.cons s_math_archTrunc_ok (SumL.cons s_laws_sameFloat_ok (SumL.cons s_spec_l01Finite_ok (SumL.cons s_laws_szFloat32S_ok (SumL.cons s_spec_l04Power_ok (SumL.cons s_impl_IsFinite_ok (SumL.cons s_laws_szRose_ok (SumL.cons s_spec_l02Least_ok (SumL.cons s_impl_isLeast_ok (SumL.cons s_impl_checked_ok (SumL.cons s_laws_toFloat32S_ok (SumL.cons s_impl_areLeast_1_ok (SumL.cons s_laws_eqFloat32S_ok (SumL.cons s_laws_toRose_ok (SumL.cons s_laws_eqRose_ok (SumL.cons s_spec_l04Rose_ok (SumL.cons s_slices_IndexFunc_sf32_f32_areLeast_1_ok (SumL.cons s_slices_ContainsFunc_sf32_f32_areLeast_1_ok (SumL.cons s_spec_StrongestSector_ok (SumL.cons s_impl_areLeast_ok (SumL.cons s_impl_ValidRose_ok (SumL.cons s_impl_AirPower_ok (SumL.cons s_impl_StrongestSector_ok (SumL.cons s_laws_FnExactStrongestSector_ok (SumL.nil)))))))))))))))))))))))))))
theorem lt21_ok : LpL Try.prog fnTab lt21 := LpL.cons l_laws_toFloat32S_l3_ok (LpL.cons l_laws_eqFloat32S_l4_ok (LpL.cons l_spec_l04Rose_l5_ok (LpL.cons l_slices_IndexFunc_sf32_f32_areLeast_1_l2_ok (LpL.cons l_spec_StrongestSector_l6_ok (LpL.cons l_impl_StrongestSector_l5_ok (LpL.nil))))))
noncomputable def tb22 : List (Nat × (List PT → Option (Bool × AV × List Blk))) := [(129, s_math_Float64bits), (133, s_math_Float64frombits), (137, s_math_Float32bits), (139, s_math_archTrunc), (25, s_laws_sameFloat), (64, s_spec_l01Finite), (70, s_laws_szFloat32S), (72, s_spec_l04Power), (78, s_impl_IsFinite), (21, s_laws_szRose), (58, s_spec_l02Least), (67, s_impl_isLeast), (77, s_impl_checked), (74, s_laws_toFloat32S), (126, s_impl_areLeast_1), (18, s_laws_eqFloat32S), (23, s_laws_toRose), (26, s_laws_eqRose), (71, s_spec_l04Rose), (125, s_slices_IndexFunc_sf32_f32_areLeast_1), (110, s_slices_ContainsFunc_sf32_f32_areLeast_1), (27, s_spec_StrongestSector), (112, s_impl_areLeast), (75, s_impl_ValidRose), (76, s_impl_AirPower), (28, s_impl_StrongestSector), (5, s_laws_FnExactStrongestSector)]
noncomputable def lt22 : List ((Nat × Nat) × (Nat → St → Option (Bool × LO))) := [((74, 3), l_laws_toFloat32S_l3), ((18, 4), l_laws_eqFloat32S_l4), ((71, 5), l_spec_l04Rose_l5), ((125, 2), l_slices_IndexFunc_sf32_f32_areLeast_1_l2), ((27, 6), l_spec_StrongestSector_l6), ((28, 5), l_impl_StrongestSector_l5)]
noncomputable def Γ22 : Ctx := ⟨tyTab, fnTab, tblSum tb22, tblLp lt22⟩
theorem tb22_ok : SumL Try.prog tb22 := SumL.cons s_math_Float64bits_ok (SumL.cons s_math_Float64frombits_ok (SumL.cons s_math_Float32bits_ok (SumL.cons s_math_archTrunc_ok (SumL.cons s_laws_sameFloat_ok (SumL.cons s_spec_l01Finite_ok (SumL.cons s_laws_szFloat32S_ok (SumL.cons s_spec_l04Power_ok (SumL.cons s_impl_IsFinite_ok (SumL.cons s_laws_szRose_ok (SumL.cons s_spec_l02Least_ok (SumL.cons s_impl_isLeast_ok (SumL.cons s_impl_checked_ok (SumL.cons s_laws_toFloat32S_ok (SumL.cons s_impl_areLeast_1_ok (SumL.cons s_laws_eqFloat32S_ok (SumL.cons s_laws_toRose_ok (SumL.cons s_laws_eqRose_ok (SumL.cons s_spec_l04Rose_ok (SumL.cons s_slices_IndexFunc_sf32_f32_areLeast_1_ok (SumL.cons s_slices_ContainsFunc_sf32_f32_areLeast_1_ok (SumL.cons s_spec_StrongestSector_ok (SumL.cons s_impl_areLeast_ok (SumL.cons s_impl_ValidRose_ok (SumL.cons s_impl_AirPower_ok (SumL.cons s_impl_StrongestSector_ok (SumL.cons s_laws_FnExactStrongestSector_ok (SumL.nil)))))))))))))))))))))))))))
theorem lt22_ok : LpL Try.prog fnTab lt22 := LpL.cons l_laws_toFloat32S_l3_ok (LpL.cons l_laws_eqFloat32S_l4_ok (LpL.cons l_spec_l04Rose_l5_ok (LpL.cons l_slices_IndexFunc_sf32_f32_areLeast_1_l2_ok (LpL.cons l_spec_StrongestSector_l6_ok (LpL.cons l_impl_StrongestSector_l5_ok (LpL.nil))))))
noncomputable def tb23 : List (Nat × (List PT → Option (Bool × AV × List Blk))) := [(129, s_math_Float64bits), (133, s_math_Float64frombits), (137, s_math_Float32bits), (139, s_math_archTrunc), (25, s_laws_sameFloat), (64, s_spec_l01Finite), (70, s_laws_szFloat32S), (72, s_spec_l04Power), (78, s_impl_IsFinite), (21, s_laws_szRose), (58, s_spec_l02Least), (67, s_impl_isLeast), (77, s_impl_checked), (74, s_laws_toFloat32S), (126, s_impl_areLeast_1), (18, s_laws_eqFloat32S), (23, s_laws_toRose), (26, s_laws_eqRose), (71, s_spec_l04Rose), (125, s_slices_IndexFunc_sf32_f32_areLeast_1), (110, s_slices_ContainsFunc_sf32_f32_areLeast_1), (27, s_spec_StrongestSector), (112, s_impl_areLeast), (75, s_impl_ValidRose), (76, s_impl_AirPower), (28, s_impl_StrongestSector), (5, s_laws_FnExactStrongestSector)]
noncomputable def lt23 : List ((Nat × Nat) × (Nat → St → Option (Bool × LO))) := [((74, 3), l_laws_toFloat32S_l3), ((18, 4), l_laws_eqFloat32S_l4), ((71, 5), l_spec_l04Rose_l5), ((125, 2), l_slices_IndexFunc_sf32_f32_areLeast_1_l2), ((27, 6), l_spec_StrongestSector_l6), ((28, 5), l_impl_StrongestSector_l5)]
noncomputable def Γ23 : Ctx := ⟨tyTab, fnTab, tblSum tb23, tblLp lt23⟩
theorem tb23_ok : SumL Try.prog tb23 := SumL.cons s_math_Float64bits_ok (SumL.cons s_math_Float64frombits_ok (SumL.cons s_math_Float32bits_ok (SumL.cons s_math_archTrunc_ok (SumL.cons s_laws_sameFloat_ok (SumL.cons s_spec_l01Finite_ok (SumL.cons s_laws_szFloat32S_ok (SumL.cons s_spec_l04Power_ok (SumL.cons s_impl_IsFinite_ok (SumL.cons s_laws_szRose_ok (SumL.cons s_spec_l02Least_ok (SumL.cons s_impl_isLeast_ok (SumL.cons s_impl_checked_ok (SumL.cons s_laws_toFloat32S_ok (SumL.cons s_impl_areLeast_1_ok (SumL.cons s_laws_eqFloat32S_ok (SumL.cons s_laws_toRose_ok (SumL.cons s_laws_eqRose_ok (SumL.cons s_spec_l04Rose_ok (SumL.cons s_slices_IndexFunc_sf32_f32_areLeast_1_ok (SumL.cons s_slices_ContainsFunc_sf32_f32_areLeast_1_ok (SumL.cons s_spec_StrongestSector_ok (SumL.cons s_impl_areLeast_ok (SumL.cons s_impl_ValidRose_ok (SumL.cons s_impl_AirPower_ok (SumL.cons s_impl_StrongestSector_ok (SumL.cons s_laws_FnExactStrongestSector_ok (SumL.nil)))))))))))))))))))))))))))
theorem lt23_ok : LpL Try.prog fnTab lt23 := LpL.cons l_laws_toFloat32S_l3_ok (LpL.cons l_laws_eqFloat32S_l4_ok (LpL.cons l_spec_l04Rose_l5_ok (LpL.cons l_slices_IndexFunc_sf32_f32_areLeast_1_l2_ok (LpL.cons l_spec_StrongestSector_l6_ok (LpL.cons l_impl_StrongestSector_l5_ok (LpL.nil))))))
noncomputable def tb24 : List (Nat × (List PT → Option (Bool × AV × List Blk))) := [(129, s_math_Float64bits), (133, s_math_Float64frombits), (137, s_math_Float32bits), (139, s_math_archTrunc), (25, s_laws_sameFloat), (64, s_spec_l01Finite), (70, s_laws_szFloat32S), (72, s_spec_l04Power), (78, s_impl_IsFinite), (21, s_laws_szRose), (58, s_spec_l02Least), (67, s_impl_isLeast), (77, s_impl_checked), (74, s_laws_toFloat32S), (126, s_impl_areLeast_1), (18, s_laws_eqFloat32S), (23, s_laws_toRose), (26, s_laws_eqRose), (71, s_spec_l04Rose), (125, s_slices_IndexFunc_sf32_f32_areLeast_1), (110, s_slices_ContainsFunc_sf32_f32_areLeast_1), (27, s_spec_StrongestSector), (112, s_impl_areLeast), (75, s_impl_ValidRose), (76, s_impl_AirPower), (28, s_impl_StrongestSector), (5, s_laws_FnExactStrongestSector)]
noncomputable def lt24 : List ((Nat × Nat) × (Nat → St → Option (Bool × LO))) := [((74, 3), l_laws_toFloat32S_l3), ((18, 4), l_laws_eqFloat32S_l4), ((71, 5), l_spec_l04Rose_l5), ((125, 2), l_slices_IndexFunc_sf32_f32_areLeast_1_l2), ((27, 6), l_spec_StrongestSector_l6), ((28, 5), l_impl_StrongestSector_l5)]
noncomputable def Γ24 : Ctx := ⟨tyTab, fnTab, tblSum tb24, tblLp lt24⟩
theorem tb24_ok : SumL Try.prog tb24 := SumL.cons s_math_Float64bits_ok (SumL.cons s_math_Float64frombits_ok (SumL.cons s_math_Float32bits_ok (SumL.cons s_math_archTrunc_ok (SumL.cons s_laws_sameFloat_ok (SumL.cons s_spec_l01Finite_ok (SumL.cons s_laws_szFloat32S_ok (SumL.cons s_spec_l04Power_ok (SumL.cons s_impl_IsFinite_ok (SumL.cons s_laws_szRose_ok (SumL.cons s_spec_l02Least_ok (SumL.cons s_impl_isLeast_ok (SumL.cons s_impl_checked_ok (SumL.cons s_laws_toFloat32S_ok (SumL.cons s_impl_areLeast_1_ok (SumL.cons s_laws_eqFloat32S_ok (SumL.cons s_laws_toRose_ok (SumL.cons s_laws_eqRose_ok (SumL.cons s_spec_l04Rose_ok (SumL.cons s_slices_IndexFunc_sf32_f32_areLeast_1_ok (SumL.cons s_slices_ContainsFunc_sf32_f32_areLeast_1_ok (SumL.cons s_spec_StrongestSector_ok (SumL.cons s_impl_areLeast_ok (SumL.cons s_impl_ValidRose_ok (SumL.cons s_impl_AirPower_ok (SumL.cons s_impl_StrongestSector_ok (SumL.cons s_laws_FnExactStrongestSector_ok (SumL.nil)))))))))))))))))))))))))))
theorem lt24_ok : LpL Try.prog fnTab lt24 := LpL.cons l_laws_toFloat32S_l3_ok (LpL.cons l_laws_eqFloat32S_l4_ok (LpL.cons l_spec_l04Rose_l5_ok (LpL.cons l_slices_IndexFunc_sf32_f32_areLeast_1_l2_ok (LpL.cons l_spec_StrongestSector_l6_ok (LpL.cons l_impl_StrongestSector_l5_ok (LpL.nil))))))
noncomputable def tb25 : List (Nat × (List PT → Option (Bool × AV × List Blk))) := [(129, s_math_Float64bits), (133, s_math_Float64frombits), (137, s_math_Float32bits), (139, s_math_archTrunc), (25, s_laws_sameFloat), (64, s_spec_l01Finite), (70, s_laws_szFloat32S), (72, s_spec_l04Power), (78, s_impl_IsFinite), (21, s_laws_szRose), (58, s_spec_l02Least), (67, s_impl_isLeast), (77, s_impl_checked), (74, s_laws_toFloat32S), (126, s_impl_areLeast_1), (18, s_laws_eqFloat32S), (23, s_laws_toRose), (26, s_laws_eqRose), (71, s_spec_l04Rose), (125, s_slices_IndexFunc_sf32_f32_areLeast_1), (110, s_slices_ContainsFunc_sf32_f32_areLeast_1), (27, s_spec_StrongestSector), (112, s_impl_areLeast), (75, s_impl_ValidRose), (76, s_impl_AirPower), (28, s_impl_StrongestSector), (5, s_laws_FnExactStrongestSector)]
noncomputable def lt25 : List ((Nat × Nat) × (Nat → St → Option (Bool × LO))) := [((74, 3), l_laws_toFloat32S_l3), ((18, 4), l_laws_eqFloat32S_l4), ((71, 5), l_spec_l04Rose_l5), ((125, 2), l_slices_IndexFunc_sf32_f32_areLeast_1_l2), ((27, 6), l_spec_StrongestSector_l6), ((28, 5), l_impl_StrongestSector_l5)]
noncomputable def Γ25 : Ctx := ⟨tyTab, fnTab, tblSum tb25, tblLp lt25⟩
theorem tb25_ok : SumL Try.prog tb25 := SumL.cons s_math_Float64bits_ok (SumL.cons s_math_Float64frombits_ok (SumL.cons s_math_Float32bits_ok (SumL.cons s_math_archTrunc_ok (SumL.cons s_laws_sameFloat_ok (SumL.cons s_spec_l01Finite_ok (SumL.cons s_laws_szFloat32S_ok (SumL.cons s_spec_l04Power_ok (SumL.cons s_impl_IsFinite_ok (SumL.cons s_laws_szRose_ok (SumL.cons s_spec_l02Least_ok (SumL.cons s_impl_isLeast_ok (SumL.cons s_impl_checked_ok (SumL.cons s_laws_toFloat32S_ok (SumL.cons s_impl_areLeast_1_ok (SumL.cons s_laws_eqFloat32S_ok (SumL.cons s_laws_toRose_ok (SumL.cons s_laws_eqRose_ok (SumL.cons s_spec_l04Rose_ok (SumL.cons s_slices_IndexFunc_sf32_f32_areLeast_1_ok (SumL.cons s_slices_ContainsFunc_sf32_f32_areLeast_1_ok (SumL.cons s_spec_StrongestSector_ok (SumL.cons s_impl_areLeast_ok (SumL.cons s_impl_ValidRose_ok (SumL.cons s_impl_AirPower_ok (SumL.cons s_impl_StrongestSector_ok (SumL.cons s_laws_FnExactStrongestSector_ok (SumL.nil)))))))))))))))))))))))))))
theorem lt25_ok : LpL Try.prog fnTab lt25 := LpL.cons l_laws_toFloat32S_l3_ok (LpL.cons l_laws_eqFloat32S_l4_ok (LpL.cons l_spec_l04Rose_l5_ok (LpL.cons l_slices_IndexFunc_sf32_f32_areLeast_1_l2_ok (LpL.cons l_spec_StrongestSector_l6_ok (LpL.cons l_impl_StrongestSector_l5_ok (LpL.nil))))))
noncomputable def tb26 : List (Nat × (List PT → Option (Bool × AV × List Blk))) := [(129, s_math_Float64bits), (133, s_math_Float64frombits), (137, s_math_Float32bits), (139, s_math_archTrunc), (25, s_laws_sameFloat), (64, s_spec_l01Finite), (70, s_laws_szFloat32S), (72, s_spec_l04Power), (78, s_impl_IsFinite), (21, s_laws_szRose), (58, s_spec_l02Least), (67, s_impl_isLeast), (77, s_impl_checked), (74, s_laws_toFloat32S), (126, s_impl_areLeast_1), (18, s_laws_eqFloat32S), (23, s_laws_toRose), (26, s_laws_eqRose), (71, s_spec_l04Rose), (125, s_slices_IndexFunc_sf32_f32_areLeast_1), (110, s_slices_ContainsFunc_sf32_f32_areLeast_1), (27, s_spec_StrongestSector), (112, s_impl_areLeast), (75, s_impl_ValidRose), (76, s_impl_AirPower), (28, s_impl_StrongestSector), (5, s_laws_FnExactStrongestSector)]
noncomputable def lt26 : List ((Nat × Nat) × (Nat → St → Option (Bool × LO))) := [((74, 3), l_laws_toFloat32S_l3), ((18, 4), l_laws_eqFloat32S_l4), ((71, 5), l_spec_l04Rose_l5), ((125, 2), l_slices_IndexFunc_sf32_f32_areLeast_1_l2), ((27, 6), l_spec_StrongestSector_l6), ((28, 5), l_impl_StrongestSector_l5)]
noncomputable def Γ26 : Ctx := ⟨tyTab, fnTab, tblSum tb26, tblLp lt26⟩
theorem tb26_ok : SumL Try.prog tb26 := SumL.cons s_math_Float64bits_ok (SumL.cons s_math_Float64frombits_ok (SumL.cons s_math_Float32bits_ok (SumL.cons s_math_archTrunc_ok (SumL.cons s_laws_sameFloat_ok (SumL.cons s_spec_l01Finite_ok (SumL.cons s_laws_szFloat32S_ok (SumL.cons s_spec_l04Power_ok (SumL.cons s_impl_IsFinite_ok (SumL.cons s_laws_szRose_ok (SumL.cons s_spec_l02Least_ok (SumL.cons s_impl_isLeast_ok (SumL.cons s_impl_checked_ok (SumL.cons s_laws_toFloat32S_ok (SumL.cons s_impl_areLeast_1_ok (SumL.cons s_laws_eqFloat32S_ok (SumL.cons s_laws_toRose_ok (SumL.cons s_laws_eqRose_ok (SumL.cons s_spec_l04Rose_ok (SumL.cons s_slices_IndexFunc_sf32_f32_areLeast_1_ok (SumL.cons s_slices_ContainsFunc_sf32_f32_areLeast_1_ok (SumL.cons s_spec_StrongestSector_ok (SumL.cons s_impl_areLeast_ok (SumL.cons s_impl_ValidRose_ok (SumL.cons s_impl_AirPower_ok (SumL.cons s_impl_StrongestSector_ok (SumL.cons s_laws_FnExactStrongestSector_ok (SumL.nil)))))))))))))))))))))))))))
theorem lt26_ok : LpL Try.prog fnTab lt26 := LpL.cons l_laws_toFloat32S_l3_ok (LpL.cons l_laws_eqFloat32S_l4_ok (LpL.cons l_spec_l04Rose_l5_ok (LpL.cons l_slices_IndexFunc_sf32_f32_areLeast_1_l2_ok (LpL.cons l_spec_StrongestSector_l6_ok (LpL.cons l_impl_StrongestSector_l5_ok (LpL.nil))))))
noncomputable def tb27 : List (Nat × (List PT → Option (Bool × AV × List Blk))) := [(129, s_math_Float64bits), (133, s_math_Float64frombits), (137, s_math_Float32bits), (139, s_math_archTrunc), (25, s_laws_sameFloat), (64, s_spec_l01Finite), (70, s_laws_szFloat32S), (72, s_spec_l04Power), (78, s_impl_IsFinite), (21, s_laws_szRose), (58, s_spec_l02Least), (67, s_impl_isLeast), (77, s_impl_checked), (74, s_laws_toFloat32S), (126, s_impl_areLeast_1), (18, s_laws_eqFloat32S), (23, s_laws_toRose), (26, s_laws_eqRose), (71, s_spec_l04Rose), (125, s_slices_IndexFunc_sf32_f32_areLeast_1), (110, s_slices_ContainsFunc_sf32_f32_areLeast_1), (27, s_spec_StrongestSector), (112, s_impl_areLeast), (75, s_impl_ValidRose), (76, s_impl_AirPower), (28, s_impl_StrongestSector), (5, s_laws_FnExactStrongestSector)]
noncomputable def lt27 : List ((Nat × Nat) × (Nat → St → Option (Bool × LO))) := [((74, 3), l_laws_toFloat32S_l3), ((18, 4), l_laws_eqFloat32S_l4), ((71, 5), l_spec_l04Rose_l5), ((125, 2), l_slices_IndexFunc_sf32_f32_areLeast_1_l2), ((27, 6), l_spec_StrongestSector_l6), ((28, 5), l_impl_StrongestSector_l5)]
noncomputable def Γ27 : Ctx := ⟨tyTab, fnTab, tblSum tb27, tblLp lt27⟩
theorem tb27_ok : SumL Try.prog tb27 := SumL.cons s_math_Float64bits_ok (SumL.cons s_math_Float64frombits_ok (SumL.cons s_math_Float32bits_ok (SumL.cons s_math_archTrunc_ok (SumL.cons s_laws_sameFloat_ok (SumL.cons s_spec_l01Finite_ok (SumL.cons s_laws_szFloat32S_ok (SumL.cons s_spec_l04Power_ok (SumL.cons s_impl_IsFinite_ok (SumL.cons s_laws_szRose_ok (SumL.cons s_spec_l02Least_ok (SumL.cons s_impl_isLeast_ok (SumL.cons s_impl_checked_ok (SumL.cons s_laws_toFloat32S_ok (SumL.cons s_impl_areLeast_1_ok (SumL.cons s_laws_eqFloat32S_ok (SumL.cons s_laws_toRose_ok (SumL.cons s_laws_eqRose_ok (SumL.cons s_spec_l04Rose_ok (SumL.cons s_slices_IndexFunc_sf32_f32_areLeast_1_ok (SumL.cons s_slices_ContainsFunc_sf32_f32_areLeast_1_ok (SumL.cons s_spec_StrongestSector_ok (SumL.cons s_impl_areLeast_ok (SumL.cons s_impl_ValidRose_ok (SumL.cons s_impl_AirPower_ok (SumL.cons s_impl_StrongestSector_ok (SumL.cons s_laws_FnExactStrongestSector_ok (SumL.nil)))))))))))))))))))))))))))
theorem lt27_ok : LpL Try.prog fnTab lt27 := LpL.cons l_laws_toFloat32S_l3_ok (LpL.cons l_laws_eqFloat32S_l4_ok (LpL.cons l_spec_l04Rose_l5_ok (LpL.cons l_slices_IndexFunc_sf32_f32_areLeast_1_l2_ok (LpL.cons l_spec_StrongestSector_l6_ok (LpL.cons l_impl_StrongestSector_l5_ok (LpL.nil))))))
noncomputable def tb28 : List (Nat × (List PT → Option (Bool × AV × List Blk))) := [(129, s_math_Float64bits), (133, s_math_Float64frombits), (137, s_math_Float32bits), (139, s_math_archTrunc), (25, s_laws_sameFloat), (64, s_spec_l01Finite), (70, s_laws_szFloat32S), (72, s_spec_l04Power), (78, s_impl_IsFinite), (21, s_laws_szRose), (58, s_spec_l02Least), (67, s_impl_isLeast), (77, s_impl_checked), (74, s_laws_toFloat32S), (126, s_impl_areLeast_1), (18, s_laws_eqFloat32S), (23, s_laws_toRose), (26, s_laws_eqRose), (71, s_spec_l04Rose), (125, s_slices_IndexFunc_sf32_f32_areLeast_1), (110, s_slices_ContainsFunc_sf32_f32_areLeast_1), (27, s_spec_StrongestSector), (112, s_impl_areLeast), (75, s_impl_ValidRose), (76, s_impl_AirPower), (28, s_impl_StrongestSector), (5, s_laws_FnExactStrongestSector)]
noncomputable def lt28 : List ((Nat × Nat) × (Nat → St → Option (Bool × LO))) := [((74, 3), l_laws_toFloat32S_l3), ((18, 4), l_laws_eqFloat32S_l4), ((71, 5), l_spec_l04Rose_l5), ((125, 2), l_slices_IndexFunc_sf32_f32_areLeast_1_l2), ((27, 6), l_spec_StrongestSector_l6), ((28, 5), l_impl_StrongestSector_l5)]
noncomputable def Γ28 : Ctx := ⟨tyTab, fnTab, tblSum tb28, tblLp lt28⟩
theorem tb28_ok : SumL Try.prog tb28 := SumL.cons s_math_Float64bits_ok (SumL.cons s_math_Float64frombits_ok (SumL.cons s_math_Float32bits_ok (SumL.cons s_math_archTrunc_ok (SumL.cons s_laws_sameFloat_ok (SumL.cons s_spec_l01Finite_ok (SumL.cons s_laws_szFloat32S_ok (SumL.cons s_spec_l04Power_ok (SumL.cons s_impl_IsFinite_ok (SumL.cons s_laws_szRose_ok (SumL.cons s_spec_l02Least_ok (SumL.cons s_impl_isLeast_ok (SumL.cons s_impl_checked_ok (SumL.cons s_laws_toFloat32S_ok (SumL.cons s_impl_areLeast_1_ok (SumL.cons s_laws_eqFloat32S_ok (SumL.cons s_laws_toRose_ok (SumL.cons s_laws_eqRose_ok (SumL.cons s_spec_l04Rose_ok (SumL.cons s_slices_IndexFunc_sf32_f32_areLeast_1_ok (SumL.cons s_slices_ContainsFunc_sf32_f32_areLeast_1_ok (SumL.cons s_spec_StrongestSector_ok (SumL.cons s_impl_areLeast_ok (SumL.cons s_impl_ValidRose_ok (SumL.cons s_impl_AirPower_ok (SumL.cons s_impl_StrongestSector_ok (SumL.cons s_laws_FnExactStrongestSector_ok (SumL.nil)))))))))))))))))))))))))))
theorem lt28_ok : LpL Try.prog fnTab lt28 := LpL.cons l_laws_toFloat32S_l3_ok (LpL.cons l_laws_eqFloat32S_l4_ok (LpL.cons l_spec_l04Rose_l5_ok (LpL.cons l_slices_IndexFunc_sf32_f32_areLeast_1_l2_ok (LpL.cons l_spec_StrongestSector_l6_ok (LpL.cons l_impl_StrongestSector_l5_ok (LpL.nil))))))
noncomputable def tb29 : List (Nat × (List PT → Option (Bool × AV × List Blk))) := [(129, s_math_Float64bits), (133, s_math_Float64frombits), (137, s_math_Float32bits), (139, s_math_archTrunc), (25, s_laws_sameFloat), (64, s_spec_l01Finite), (70, s_laws_szFloat32S), (72, s_spec_l04Power), (78, s_impl_IsFinite), (21, s_laws_szRose), (58, s_spec_l02Least), (67, s_impl_isLeast), (77, s_impl_checked), (74, s_laws_toFloat32S), (126, s_impl_areLeast_1), (18, s_laws_eqFloat32S), (23, s_laws_toRose), (26, s_laws_eqRose), (71, s_spec_l04Rose), (125, s_slices_IndexFunc_sf32_f32_areLeast_1), (110, s_slices_ContainsFunc_sf32_f32_areLeast_1), (27, s_spec_StrongestSector), (112, s_impl_areLeast), (75, s_impl_ValidRose), (76, s_impl_AirPower), (28, s_impl_StrongestSector), (5, s_laws_FnExactStrongestSector)]
noncomputable def lt29 : List ((Nat × Nat) × (Nat → St → Option (Bool × LO))) := [((74, 3), l_laws_toFloat32S_l3), ((18, 4), l_laws_eqFloat32S_l4), ((71, 5), l_spec_l04Rose_l5), ((125, 2), l_slices_IndexFunc_sf32_f32_areLeast_1_l2), ((27, 6), l_spec_StrongestSector_l6), ((28, 5), l_impl_StrongestSector_l5)]
noncomputable def Γ29 : Ctx := ⟨tyTab, fnTab, tblSum tb29, tblLp lt29⟩
theorem tb29_ok : SumL Try.prog tb29 := SumL.cons s_math_Float64bits_ok (SumL.cons s_math_Float64frombits_ok (SumL.cons s_math_Float32bits_ok (SumL.cons s_math_archTrunc_ok (SumL.cons s_laws_sameFloat_ok (SumL.cons s_spec_l01Finite_ok (SumL.cons s_laws_szFloat32S_ok (SumL.cons s_spec_l04Power_ok (SumL.cons s_impl_IsFinite_ok (SumL.cons s_laws_szRose_ok (SumL.cons s_spec_l02Least_ok (SumL.cons s_impl_isLeast_ok (SumL.cons s_impl_checked_ok (SumL.cons s_laws_toFloat32S_ok (SumL.cons s_impl_areLeast_1_ok (SumL.cons s_laws_eqFloat32S_ok (SumL.cons s_laws_toRose_ok (SumL.cons s_laws_eqRose_ok (SumL.cons s_spec_l04Rose_ok (SumL.cons s_slices_IndexFunc_sf32_f32_areLeast_1_ok (SumL.cons s_slices_ContainsFunc_sf32_f32_areLeast_1_ok (SumL.cons s_spec_StrongestSector_ok (SumL.cons s_impl_areLeast_ok (SumL.cons s_impl_ValidRose_ok (SumL.cons s_impl_AirPower_ok (SumL.cons s_impl_StrongestSector_ok (SumL.cons s_laws_FnExactStrongestSector_ok (SumL.nil)))))))))))))))))))))))))))
theorem lt29_ok : LpL Try.prog fnTab lt29 := LpL.cons l_laws_toFloat32S_l3_ok (LpL.cons l_laws_eqFloat32S_l4_ok (LpL.cons l_spec_l04Rose_l5_ok (LpL.cons l_slices_IndexFunc_sf32_f32_areLeast_1_l2_ok (LpL.cons l_spec_StrongestSector_l6_ok (LpL.cons l_impl_StrongestSector_l5_ok (LpL.nil))))))
noncomputable def tb30 : List (Nat × (List PT → Option (Bool × AV × List Blk))) := [(129, s_math_Float64bits), (133, s_math_Float64frombits), (137, s_math_Float32bits), (139, s_math_archTrunc), (25, s_laws_sameFloat), (64, s_spec_l01Finite), (70, s_laws_szFloat32S), (72, s_spec_l04Power), (78, s_impl_IsFinite), (21, s_laws_szRose), (58, s_spec_l02Least), (67, s_impl_isLeast), (77, s_impl_checked), (74, s_laws_toFloat32S), (126, s_impl_areLeast_1), (18, s_laws_eqFloat32S), (23, s_laws_toRose), (26, s_laws_eqRose), (71, s_spec_l04Rose), (125, s_slices_IndexFunc_sf32_f32_areLeast_1), (110, s_slices_ContainsFunc_sf32_f32_areLeast_1), (27, s_spec_StrongestSector), (112, s_impl_areLeast), (75, s_impl_ValidRose), (76, s_impl_AirPower), (28, s_impl_StrongestSector), (5, s_laws_FnExactStrongestSector)]
noncomputable def lt30 : List ((Nat × Nat) × (Nat → St → Option (Bool × LO))) := [((74, 3), l_laws_toFloat32S_l3), ((18, 4), l_laws_eqFloat32S_l4), ((71, 5), l_spec_l04Rose_l5), ((125, 2), l_slices_IndexFunc_sf32_f32_areLeast_1_l2), ((27, 6), l_spec_StrongestSector_l6), ((28, 5), l_impl_StrongestSector_l5)]
noncomputable def Γ30 : Ctx := ⟨tyTab, fnTab, tblSum tb30, tblLp lt30⟩
theorem tb30_ok : SumL Try.prog tb30 := SumL.cons s_math_Float64bits_ok (SumL.cons s_math_Float64frombits_ok (SumL.cons s_math_Float32bits_ok (SumL.cons s_math_archTrunc_ok (SumL.cons s_laws_sameFloat_ok (SumL.cons s_spec_l01Finite_ok (SumL.cons s_laws_szFloat32S_ok (SumL.cons s_spec_l04Power_ok (SumL.cons s_impl_IsFinite_ok (SumL.cons s_laws_szRose_ok (SumL.cons s_spec_l02Least_ok (SumL.cons s_impl_isLeast_ok (SumL.cons s_impl_checked_ok (SumL.cons s_laws_toFloat32S_ok (SumL.cons s_impl_areLeast_1_ok (SumL.cons s_laws_eqFloat32S_ok (SumL.cons s_laws_toRose_ok (SumL.cons s_laws_eqRose_ok (SumL.cons s_spec_l04Rose_ok (SumL.cons s_slices_IndexFunc_sf32_f32_areLeast_1_ok (SumL.cons s_slices_ContainsFunc_sf32_f32_areLeast_1_ok (SumL.cons s_spec_StrongestSector_ok (SumL.cons s_impl_areLeast_ok (SumL.cons s_impl_ValidRose_ok (SumL.cons s_impl_AirPower_ok (SumL.cons s_impl_StrongestSector_ok (SumL.cons s_laws_FnExactStrongestSector_ok (SumL.nil)))))))))))))))))))))))))))
theorem lt30_ok : LpL Try.prog fnTab lt30 := LpL.cons l_laws_toFloat32S_l3_ok (LpL.cons l_laws_eqFloat32S_l4_ok (LpL.cons l_spec_l04Rose_l5_ok (LpL.cons l_slices_IndexFunc_sf32_f32_areLeast_1_l2_ok (LpL.cons l_spec_StrongestSector_l6_ok (LpL.cons l_impl_StrongestSector_l5_ok (LpL.nil))))))
noncomputable def tb31 : List (Nat × (List PT → Option (Bool × AV × List Blk))) := [(129, s_math_Float64bits), (133, s_math_Float64frombits), (137, s_math_Float32bits), (139, s_math_archTrunc), (25, s_laws_sameFloat), (64, s_spec_l01Finite), (70, s_laws_szFloat32S), (72, s_spec_l04Power), (78, s_impl_IsFinite), (21, s_laws_szRose), (58, s_spec_l02Least), (67, s_impl_isLeast), (77, s_impl_checked), (74, s_laws_toFloat32S), (126, s_impl_areLeast_1), (18, s_laws_eqFloat32S), (23, s_laws_toRose), (26, s_laws_eqRose), (71, s_spec_l04Rose), (125, s_slices_IndexFunc_sf32_f32_areLeast_1), (110, s_slices_ContainsFunc_sf32_f32_areLeast_1), (27, s_spec_StrongestSector), (112, s_impl_areLeast), (75, s_impl_ValidRose), (76, s_impl_AirPower), (28, s_impl_StrongestSector), (5, s_laws_FnExactStrongestSector)]
noncomputable def lt31 : List ((Nat × Nat) × (Nat → St → Option (Bool × LO))) := [((74, 3), l_laws_toFloat32S_l3), ((18, 4), l_laws_eqFloat32S_l4), ((71, 5), l_spec_l04Rose_l5), ((125, 2), l_slices_IndexFunc_sf32_f32_areLeast_1_l2), ((27, 6), l_spec_StrongestSector_l6), ((28, 5), l_impl_StrongestSector_l5)]
noncomputable def Γ31 : Ctx := ⟨tyTab, fnTab, tblSum tb31, tblLp lt31⟩
theorem tb31_ok : SumL Try.prog tb31 := SumL.cons s_math_Float64bits_ok (SumL.cons s_math_Float64frombits_ok (SumL.cons s_math_Float32bits_ok (SumL.cons s_math_archTrunc_ok (SumL.cons s_laws_sameFloat_ok (SumL.cons s_spec_l01Finite_ok (SumL.cons s_laws_szFloat32S_ok (SumL.cons s_spec_l04Power_ok (SumL.cons s_impl_IsFinite_ok (SumL.cons s_laws_szRose_ok (SumL.cons s_spec_l02Least_ok (SumL.cons s_impl_isLeast_ok (SumL.cons s_impl_checked_ok (SumL.cons s_laws_toFloat32S_ok (SumL.cons s_impl_areLeast_1_ok (SumL.cons s_laws_eqFloat32S_ok (SumL.cons s_laws_toRose_ok (SumL.cons s_laws_eqRose_ok (SumL.cons s_spec_l04Rose_ok (SumL.cons s_slices_IndexFunc_sf32_f32_areLeast_1_ok (SumL.cons s_slices_ContainsFunc_sf32_f32_areLeast_1_ok (SumL.cons s_spec_StrongestSector_ok (SumL.cons s_impl_areLeast_ok (SumL.cons s_impl_ValidRose_ok (SumL.cons s_impl_AirPower_ok (SumL.cons s_impl_StrongestSector_ok (SumL.cons s_laws_FnExactStrongestSector_ok (SumL.nil)))))))))))))))))))))))))))
theorem lt31_ok : LpL Try.prog fnTab lt31 := LpL.cons l_laws_toFloat32S_l3_ok (LpL.cons l_laws_eqFloat32S_l4_ok (LpL.cons l_spec_l04Rose_l5_ok (LpL.cons l_slices_IndexFunc_sf32_f32_areLeast_1_l2_ok (LpL.cons l_spec_StrongestSector_l6_ok (LpL.cons l_impl_StrongestSector_l5_ok (LpL.nil))))))
noncomputable def tb32 : List (Nat × (List PT → Option (Bool × AV × List Blk))) := [(129, s_math_Float64bits), (133, s_math_Float64frombits), (137, s_math_Float32bits), (139, s_math_archTrunc), (25, s_laws_sameFloat), (64, s_spec_l01Finite), (70, s_laws_szFloat32S), (72, s_spec_l04Power), (78, s_impl_IsFinite), (21, s_laws_szRose), (58, s_spec_l02Least), (67, s_impl_isLeast), (77, s_impl_checked), (74, s_laws_toFloat32S), (126, s_impl_areLeast_1), (18, s_laws_eqFloat32S), (23, s_laws_toRose), (26, s_laws_eqRose), (71, s_spec_l04Rose), (125, s_slices_IndexFunc_sf32_f32_areLeast_1), (110, s_slices_ContainsFunc_sf32_f32_areLeast_1), (27, s_spec_StrongestSector), (112, s_impl_areLeast), (75, s_impl_ValidRose), (76, s_impl_AirPower), (28, s_impl_StrongestSector), (5, s_laws_FnExactStrongestSector)]
noncomputable def lt32 : List ((Nat × Nat) × (Nat → St → Option (Bool × LO))) := [((74, 3), l_laws_toFloat32S_l3), ((18, 4), l_laws_eqFloat32S_l4), ((71, 5), l_spec_l04Rose_l5), ((125, 2), l_slices_IndexFunc_sf32_f32_areLeast_1_l2), ((27, 6), l_spec_StrongestSector_l6), ((28, 5), l_impl_StrongestSector_l5)]
noncomputable def Γ32 : Ctx := ⟨tyTab, fnTab, tblSum tb32, tblLp lt32⟩
theorem tb32_ok : SumL Try.prog tb32 := SumL.cons s_math_Float64bits_ok (SumL.cons s_math_Float64frombits_ok (SumL.cons s_math_Float32bits_ok (SumL.cons s_math_archTrunc_ok (SumL.cons s_laws_sameFloat_ok (SumL.cons s_spec_l01Finite_ok (SumL.cons s_laws_szFloat32S_ok (SumL.cons s_spec_l04Power_ok (SumL.cons s_impl_IsFinite_ok (SumL.cons s_laws_szRose_ok (SumL.cons s_spec_l02Least_ok (SumL.cons s_impl_isLeast_ok (SumL.cons s_impl_checked_ok (SumL.cons s_laws_toFloat32S_ok (SumL.cons s_impl_areLeast_1_ok (SumL.cons s_laws_eqFloat32S_ok (SumL.cons s_laws_toRose_ok (SumL.cons s_laws_eqRose_ok (SumL.cons s_spec_l04Rose_ok (SumL.cons s_slices_IndexFunc_sf32_f32_areLeast_1_ok (SumL.cons s_slices_ContainsFunc_sf32_f32_areLeast_1_ok (SumL.cons s_spec_StrongestSector_ok (SumL.cons s_impl_areLeast_ok (SumL.cons s_impl_ValidRose_ok (SumL.cons s_impl_AirPower_ok (SumL.cons s_impl_StrongestSector_ok (SumL.cons s_laws_FnExactStrongestSector_ok (SumL.nil)))))))))))))))))))))))))))
theorem lt32_ok : LpL Try.prog fnTab lt32 := LpL.cons l_laws_toFloat32S_l3_ok (LpL.cons l_laws_eqFloat32S_l4_ok (LpL.cons l_spec_l04Rose_l5_ok (LpL.cons l_slices_IndexFunc_sf32_f32_areLeast_1_l2_ok (LpL.cons l_spec_StrongestSector_l6_ok (LpL.cons l_impl_StrongestSector_l5_ok (LpL.nil))))))
noncomputable def tb33 : List (Nat × (List PT → Option (Bool × AV × List Blk))) := [(129, s_math_Float64bits), (133, s_math_Float64frombits), (137, s_math_Float32bits), (139, s_math_archTrunc), (25, s_laws_sameFloat), (64, s_spec_l01Finite), (70, s_laws_szFloat32S), (72, s_spec_l04Power), (78, s_impl_IsFinite), (21, s_laws_szRose), (58, s_spec_l02Least), (67, s_impl_isLeast), (77, s_impl_checked), (74, s_laws_toFloat32S), (126, s_impl_areLeast_1), (18, s_laws_eqFloat32S), (23, s_laws_toRose), (26, s_laws_eqRose), (71, s_spec_l04Rose), (125, s_slices_IndexFunc_sf32_f32_areLeast_1), (110, s_slices_ContainsFunc_sf32_f32_areLeast_1), (27, s_spec_StrongestSector), (112, s_impl_areLeast), (75, s_impl_ValidRose), (76, s_impl_AirPower), (28, s_impl_StrongestSector), (5, s_laws_FnExactStrongestSector)]
noncomputable def lt33 : List ((Nat × Nat) × (Nat → St → Option (Bool × LO))) := [((74, 3), l_laws_toFloat32S_l3), ((18, 4), l_laws_eqFloat32S_l4), ((71, 5), l_spec_l04Rose_l5), ((125, 2), l_slices_IndexFunc_sf32_f32_areLeast_1_l2), ((27, 6), l_spec_StrongestSector_l6), ((28, 5), l_impl_StrongestSector_l5)]
noncomputable def Γ33 : Ctx := ⟨tyTab, fnTab, tblSum tb33, tblLp lt33⟩
theorem tb33_ok : SumL Try.prog tb33 := SumL.cons s_math_Float64bits_ok (SumL.cons s_math_Float64frombits_ok (SumL.cons s_math_Float32bits_ok (SumL.cons s_math_archTrunc_ok (SumL.cons s_laws_sameFloat_ok (SumL.cons s_spec_l01Finite_ok (SumL.cons s_laws_szFloat32S_ok (SumL.cons s_spec_l04Power_ok (SumL.cons s_impl_IsFinite_ok (SumL.cons s_laws_szRose_ok (SumL.cons s_spec_l02Least_ok (SumL.cons s_impl_isLeast_ok (SumL.cons s_impl_checked_ok (SumL.cons s_laws_toFloat32S_ok (SumL.cons s_impl_areLeast_1_ok (SumL.cons s_laws_eqFloat32S_ok (SumL.cons s_laws_toRose_ok (SumL.cons s_laws_eqRose_ok (SumL.cons s_spec_l04Rose_ok (SumL.cons s_slices_IndexFunc_sf32_f32_areLeast_1_ok (SumL.cons s_slices_ContainsFunc_sf32_f32_areLeast_1_ok (SumL.cons s_spec_StrongestSector_ok (SumL.cons s_impl_areLeast_ok (SumL.cons s_impl_ValidRose_ok (SumL.cons s_impl_AirPower_ok (SumL.cons s_impl_StrongestSector_ok (SumL.cons s_laws_FnExactStrongestSector_ok (SumL.nil)))))))))))))))))))))))))))
theorem lt33_ok : LpL Try.prog fnTab lt33 := LpL.cons l_laws_toFloat32S_l3_ok (LpL.cons l_laws_eqFloat32S_l4_ok (LpL.cons l_spec_l04Rose_l5_ok (LpL.cons l_slices_IndexFunc_sf32_f32_areLeast_1_l2_ok (LpL.cons l_spec_StrongestSector_l6_ok (LpL.cons l_impl_StrongestSector_l5_ok (LpL.nil))))))
noncomputable def tb34 : List (Nat × (List PT → Option (Bool × AV × List Blk))) := [(129, s_math_Float64bits), (133, s_math_Float64frombits), (137, s_math_Float32bits), (139, s_math_archTrunc), (25, s_laws_sameFloat), (64, s_spec_l01Finite), (70, s_laws_szFloat32S), (72, s_spec_l04Power), (78, s_impl_IsFinite), (21, s_laws_szRose), (58, s_spec_l02Least), (67, s_impl_isLeast), (77, s_impl_checked), (74, s_laws_toFloat32S), (126, s_impl_areLeast_1), (18, s_laws_eqFloat32S), (23, s_laws_toRose), (26, s_laws_eqRose), (71, s_spec_l04Rose), (125, s_slices_IndexFunc_sf32_f32_areLeast_1), (110, s_slices_ContainsFunc_sf32_f32_areLeast_1), (27, s_spec_StrongestSector), (112, s_impl_areLeast), (75, s_impl_ValidRose), (76, s_impl_AirPower), (28, s_impl_StrongestSector), (5, s_laws_FnExactStrongestSector)]
noncomputable def lt34 : List ((Nat × Nat) × (Nat → St → Option (Bool × LO))) := [((74, 3), l_laws_toFloat32S_l3), ((18, 4), l_laws_eqFloat32S_l4), ((71, 5), l_spec_l04Rose_l5), ((125, 2), l_slices_IndexFunc_sf32_f32_areLeast_1_l2), ((27, 6), l_spec_StrongestSector_l6), ((28, 5), l_impl_StrongestSector_l5)]
noncomputable def Γ34 : Ctx := ⟨tyTab, fnTab, tblSum tb34, tblLp lt34⟩
theorem tb34_ok : SumL Try.prog tb34 := SumL.cons s_math_Float64bits_ok (SumL.cons s_math_Float64frombits_ok (SumL.cons s_math_Float32bits_ok (SumL.cons s_math_archTrunc_ok (SumL.cons s_laws_sameFloat_ok (SumL.cons s_spec_l01Finite_ok (SumL.cons s_laws_szFloat32S_ok (SumL.cons s_spec_l04Power_ok (SumL.cons s_impl_IsFinite_ok (SumL.cons s_laws_szRose_ok (SumL.cons s_spec_l02Least_ok (SumL.cons s_impl_isLeast_ok (SumL.cons s_impl_checked_ok (SumL.cons s_laws_toFloat32S_ok (SumL.cons s_impl_areLeast_1_ok (SumL.cons s_laws_eqFloat32S_ok (SumL.cons s_laws_toRose_ok (SumL.cons s_laws_eqRose_ok (SumL.cons s_spec_l04Rose_ok (SumL.cons s_slices_IndexFunc_sf32_f32_areLeast_1_ok (SumL.cons s_slices_ContainsFunc_sf32_f32_areLeast_1_ok (SumL.cons s_spec_StrongestSector_ok (SumL.cons s_impl_areLeast_ok (SumL.cons s_impl_ValidRose_ok (SumL.cons s_impl_AirPower_ok (SumL.cons s_impl_StrongestSector_ok (SumL.cons s_laws_FnExactStrongestSector_ok (SumL.nil)))))))))))))))))))))))))))
theorem lt34_ok : LpL Try.prog fnTab lt34 := LpL.cons l_laws_toFloat32S_l3_ok (LpL.cons l_laws_eqFloat32S_l4_ok (LpL.cons l_spec_l04Rose_l5_ok (LpL.cons l_slices_IndexFunc_sf32_f32_areLeast_1_l2_ok (LpL.cons l_spec_StrongestSector_l6_ok (LpL.cons l_impl_StrongestSector_l5_ok (LpL.nil))))))
end Go.Proofs.Ytdmbbllcgpicbaa
