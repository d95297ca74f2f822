/-
  What functions answer: that the evaluator answers so. Printed by a program.
-/
import Derived.Test.YtohhkgieggfpeabSmoothWindsC
set_option linter.unusedVariables false
set_option linter.unusedSimpArgs false
set_option maxRecDepth 100000
set_option maxHeartbeats 4000000
namespace Go.Proofs.Ytohhkgieggfpeab
open Go Go.Rf
def s_math_Float32bits : List PT → Option (Bool × AV × List Blk)
  | [.one (.s (.flt .f32 x))] => some (bnot (nanQ .f32 x), A1 (.int .u32 x), [])
  | _ => none
theorem s_math_Float32bits_ok : SumOne Try.prog 109 s_math_Float32bits := by
  intro pts v news hp w vals hv
  unfold s_math_Float32bits at hp
  split at hp
  · rename_i x
    injection hp with hp
    injection hp with h1 hp
    injection hp with h2 h3
    subst h2
    subst h3
    obtain ⟨l, hl⟩ : ∃ l, l = vals.toList := ⟨_, rfl⟩
    rw [← hl] at hv
    cases hv with
    | cons a1 a2 =>
      cases a2
      obtain ⟨b, hb1, hb2, hb3⟩ := a1
      subst hb1
      rename_i hx
      have hvals : vals = #[.float .f32 b] := by rw [← Array.toList_inj, ← hl]
      subst hvals
      have hn : nanB .f32 b = false := by rw [← nanB_cn, hb3]; simpa [bnot, nanQ] using h1
      rw [cn_of_not hn] at hb3
      subst hb3
      refine .inl ⟨_, w, by (simp only [callFunc, Sem.run_bind, run_program, Result.andThen_ok, Try.func109]; rfl), NoB, ⟨⟨(fun t b' h => by cases t <;> cases h), (fun t t' b1 b2 x x' _ h => by cases t <;> cases h)⟩, (fun t x h => by cases h), Fr.refl _ w⟩, rfl⟩
  · cases hp
def s_math_archFloor : List PT → Option (Bool × AV × List Blk)
  | [.one (.s (.flt .f64 x))] => some (bnot (nanQ .f64 x), A1 (.flt .f64 (fint .down x)), [])
  | _ => none
theorem s_math_archFloor_ok : SumOne Try.prog 118 s_math_archFloor := by
  intro pts v news hp w vals hv
  unfold s_math_archFloor at hp
  split at hp
  · rename_i x
    injection hp with hp
    injection hp with h1 hp
    injection hp with h2 h3
    subst h2
    subst h3
    obtain ⟨l, hl⟩ : ∃ l, l = vals.toList := ⟨_, rfl⟩
    rw [← hl] at hv
    cases hv with
    | cons a1 a2 =>
      cases a2
      obtain ⟨b, hb1, hb2, hb3⟩ := a1
      subst hb1
      rename_i hx
      have hvals : vals = #[.float .f64 b] := by rw [← Array.toList_inj, ← hl]
      subst hvals
      have hn : nanB .f64 b = false := by rw [← nanB_cn, hb3]; simpa [bnot, nanQ] using h1
      rw [cn_of_not hn] at hb3
      subst hb3
      refine .inl ⟨_, w, by (simp only [callFunc, Sem.run_bind, run_program, Result.andThen_ok, Try.func118]; change (do let v ← Extern.MathFloor.toIntegral "math.archFloor" .down #[.float .f64 b]; pure (.value v) : Sem Next).run Try.prog w = _; rw [Sem.run_bind, run_fint hn]; rfl), NoB, ⟨⟨(fun t b' h => by cases t <;> cases h), (fun t t' b1 b2 x x' _ h => by cases t <;> cases h)⟩, (fun t x h => by cases h), Fr.refl _ w⟩, fint_rel hn⟩
  · cases hp
def s_math_Float64frombits : List PT → Option (Bool × AV × List Blk)
  | [.one (.s (.int .u64 x))] => some (okU .f64 x, A1 (.flt .f64 (cnI .f64 x)), [])
  | _ => none
theorem s_math_Float64frombits_ok : SumOne Try.prog 125 s_math_Float64frombits := by
  intro pts v news hp w vals hv
  unfold s_math_Float64frombits at hp
  split at hp
  · rename_i x
    injection hp with hp
    injection hp with h1 hp
    injection hp with h2 h3
    subst h2
    subst h3
    obtain ⟨l, hl⟩ : ∃ l, l = vals.toList := ⟨_, rfl⟩
    rw [← hl] at hv
    cases hv with
    | cons a1 a2 =>
      cases a2
      have hb1 : _ = Value.int .u64 x := a1
      subst hb1
      rename_i hx
      have hvals : vals = #[.int .u64 x] := by rw [← Array.toList_inj, ← hl]
      subst hvals
      have hw := okU_lt h1
      refine .inl ⟨_, w, by (simp only [callFunc, Sem.run_bind, run_program, Result.andThen_ok, Try.func125]; rfl), NoB, ⟨⟨(fun t b' h => by cases t <;> cases h), (fun t t' b1 b2 x x' _ h => by cases t <;> cases h)⟩, (fun t x h => by cases h), Fr.refl _ w⟩, ⟨_, rfl, hw, rfl⟩⟩
  · cases hp
def s_math_Float64bits : List PT → Option (Bool × AV × List Blk)
  | [.one (.s (.flt .f64 x))] => some (bnot (nanQ .f64 x), A1 (.int .u64 x), [])
  | _ => none
theorem s_math_Float64bits_ok : SumOne Try.prog 133 s_math_Float64bits := by
  intro pts v news hp w vals hv
  unfold s_math_Float64bits at hp
  split at hp
  · rename_i x
    injection hp with hp
    injection hp with h1 hp
    injection hp with h2 h3
    subst h2
    subst h3
    obtain ⟨l, hl⟩ : ∃ l, l = vals.toList := ⟨_, rfl⟩
    rw [← hl] at hv
    cases hv with
    | cons a1 a2 =>
      cases a2
      obtain ⟨b, hb1, hb2, hb3⟩ := a1
      subst hb1
      rename_i hx
      have hvals : vals = #[.float .f64 b] := by rw [← Array.toList_inj, ← hl]
      subst hvals
      have hn : nanB .f64 b = false := by rw [← nanB_cn, hb3]; simpa [bnot, nanQ] using h1
      rw [cn_of_not hn] at hb3
      subst hb3
      refine .inl ⟨_, w, by (simp only [callFunc, Sem.run_bind, run_program, Result.andThen_ok, Try.func133]; rfl), NoB, ⟨⟨(fun t b' h => by cases t <;> cases h), (fun t t' b1 b2 x x' _ h => by cases t <;> cases h)⟩, (fun t x h => by cases h), Fr.refl _ w⟩, rfl⟩
  · cases hp
def s_math_archTrunc : List PT → Option (Bool × AV × List Blk)
  | [.one (.s (.flt .f64 x))] => some (bnot (nanQ .f64 x), A1 (.flt .f64 (fint .zero x)), [])
  | _ => none
theorem s_math_archTrunc_ok : SumOne Try.prog 139 s_math_archTrunc := by
  intro pts v news hp w vals hv
  unfold s_math_archTrunc at hp
  split at hp
  · rename_i x
    injection hp with hp
    injection hp with h1 hp
    injection hp with h2 h3
    subst h2
    subst h3
    obtain ⟨l, hl⟩ : ∃ l, l = vals.toList := ⟨_, rfl⟩
    rw [← hl] at hv
    cases hv with
    | cons a1 a2 =>
      cases a2
      obtain ⟨b, hb1, hb2, hb3⟩ := a1
      subst hb1
      rename_i hx
      have hvals : vals = #[.float .f64 b] := by rw [← Array.toList_inj, ← hl]
      subst hvals
      have hn : nanB .f64 b = false := by rw [← nanB_cn, hb3]; simpa [bnot, nanQ] using h1
      rw [cn_of_not hn] at hb3
      subst hb3
      refine .inl ⟨_, w, by (simp only [callFunc, Sem.run_bind, run_program, Result.andThen_ok, Try.func139]; change (do let v ← Extern.MathFloor.toIntegral "math.archTrunc" .zero #[.float .f64 b]; pure (.value v) : Sem Next).run Try.prog w = _; rw [Sem.run_bind, run_fint hn]; rfl), NoB, ⟨⟨(fun t b' h => by cases t <;> cases h), (fun t t' b1 b2 x x' _ h => by cases t <;> cases h)⟩, (fun t x h => by cases h), Fr.refl _ w⟩, fint_rel hn⟩
  · cases hp
noncomputable def tb0 : List (Nat × (List PT → Option (Bool × AV × List Blk))) := [(109, s_math_Float32bits), (118, s_math_archFloor), (125, s_math_Float64frombits), (133, s_math_Float64bits), (139, s_math_archTrunc)]
noncomputable def lt0 : List ((Nat × Nat) × (Nat → St → Option (Bool × LO))) := []
noncomputable def Γ0 : Ctx := ⟨tyTab, fnTab, tblSum tb0, tblLp lt0⟩
theorem tb0_ok : SumL Try.prog tb0 := SumL.cons s_math_Float32bits_ok (SumL.cons s_math_archFloor_ok (SumL.cons s_math_Float64frombits_ok (SumL.cons s_math_Float64bits_ok (SumL.cons s_math_archTrunc_ok (SumL.nil)))))
theorem lt0_ok : LpL Try.prog fnTab lt0 := LpL.nil
noncomputable def s_laws_sameFloat : List PT → Option (Bool × AV × List Blk)
  | [.one (.s (.flt .f64 a)), .one (.s (.flt .f64 b))] => some ((laws_sameFloat_p a b), ((AV.v (TV.one (At.bool (laws_sameFloat_v0 a b)))), []))
  | _ => none
def o_laws_sameFloat (a : Nat) (b : Nat) : Option (Bool) → Option (AV × List Blk)
  | some r => some ((AV.v (TV.one (At.bool r))), [])
  | none => none
theorem e_laws_sameFloat (a : Nat) (b : Nat) : evFn Γ0 8 8 26 (impTs 0 [.one (.s (.flt .f64 a)), .one (.s (.flt .f64 b))]).1 (impTs 0 [.one (.s (.flt .f64 a)), .one (.s (.flt .f64 b))]).2 (expo (impTs 0 [.one (.s (.flt .f64 a)), .one (.s (.flt .f64 b))]).2.length) = T_laws_sameFloat a b (fun c0_ => some ((AV.v (TV.one (At.bool c0_))), [])) := by kernel_rfl
theorem s_laws_sameFloat_ok : SumOne Try.prog 26 s_laws_sameFloat := sum_of (Γ := Γ0) (fuel := 8) (d := 8) tyTab_ok (FnL.ok fnTab_ok _ _) (LpL.ok lt0_ok) (SumL.ok tb0_ok _) mixed (by
  intro pts v news hp hc
  clear hc
  unfold s_laws_sameFloat at hp
  split at hp
  · rename_i a b
    exact Eq.trans (Eq.trans (e_laws_sameFloat a b) (T_laws_sameFloat_nat (o_laws_sameFloat a b) rfl a b (fun c0_ => some c0_))) (fin_out (o := (o_laws_sameFloat a b)) (x := F_laws_sameFloat a b) (d := default) (V := fun r => ((AV.v (TV.one (At.bool r))), [])) (fun r => rfl) hp)
  · cases hp)
noncomputable def s_impl_IsFinite : List PT → Option (Bool × AV × List Blk)
  | [.one (.s (.flt .f32 x))] => some ((impl_IsFinite_p x), ((AV.v (TV.one (At.bool (impl_IsFinite_v0 x)))), []))
  | _ => none
def o_impl_IsFinite (x : Nat) : Option (Bool) → Option (AV × List Blk)
  | some r => some ((AV.v (TV.one (At.bool r))), [])
  | none => none
theorem e_impl_IsFinite (x : Nat) : evFn Γ0 8 8 52 (impTs 0 [.one (.s (.flt .f32 x))]).1 (impTs 0 [.one (.s (.flt .f32 x))]).2 (expo (impTs 0 [.one (.s (.flt .f32 x))]).2.length) = T_impl_IsFinite x (fun c0_ => some ((AV.v (TV.one (At.bool c0_))), [])) := by kernel_rfl
theorem s_impl_IsFinite_ok : SumOne Try.prog 52 s_impl_IsFinite := sum_of (Γ := Γ0) (fuel := 8) (d := 8) tyTab_ok (FnL.ok fnTab_ok _ _) (LpL.ok lt0_ok) (SumL.ok tb0_ok _) mixed (by
  intro pts v news hp hc
  clear hc
  unfold s_impl_IsFinite at hp
  split at hp
  · rename_i x
    exact Eq.trans (Eq.trans (e_impl_IsFinite x) (T_impl_IsFinite_nat (o_impl_IsFinite x) rfl x (fun c0_ => some c0_))) (fin_out (o := (o_impl_IsFinite x)) (x := F_impl_IsFinite x) (d := default) (V := fun r => ((AV.v (TV.one (At.bool r))), [])) (fun r => rfl) hp)
  · cases hp)
noncomputable def s_spec_l00In : List PT → Option (Bool × AV × List Blk)
  | [.one (.s (.int .i64 n_)), .one (.s (.int .i64 low)), .one (.s (.int .i64 high))] => some ((spec_l00In_p n_ low high), ((AV.v (TV.one (At.bool (spec_l00In_v0 n_ low high)))), []))
  | _ => none
def o_spec_l00In (n_ : Int) (low : Int) (high : Int) : Option (Bool) → Option (AV × List Blk)
  | some r => some ((AV.v (TV.one (At.bool r))), [])
  | none => none
theorem e_spec_l00In (n_ : Int) (low : Int) (high : Int) : evFn Γ0 8 8 66 (impTs 0 [.one (.s (.int .i64 n_)), .one (.s (.int .i64 low)), .one (.s (.int .i64 high))]).1 (impTs 0 [.one (.s (.int .i64 n_)), .one (.s (.int .i64 low)), .one (.s (.int .i64 high))]).2 (expo (impTs 0 [.one (.s (.int .i64 n_)), .one (.s (.int .i64 low)), .one (.s (.int .i64 high))]).2.length) = T_spec_l00In n_ low high (fun c0_ => some ((AV.v (TV.one (At.bool c0_))), [])) := by kernel_rfl
theorem s_spec_l00In_ok : SumOne Try.prog 66 s_spec_l00In := sum_of (Γ := Γ0) (fuel := 8) (d := 8) tyTab_ok (FnL.ok fnTab_ok _ _) (LpL.ok lt0_ok) (SumL.ok tb0_ok _) mixed (by
  intro pts v news hp hc
  clear hc
  unfold s_spec_l00In at hp
  split at hp
  · rename_i n_ low high
    exact Eq.trans (Eq.trans (e_spec_l00In n_ low high) (T_spec_l00In_nat (o_spec_l00In n_ low high) rfl n_ low high (fun c0_ => some c0_))) (fin_out (o := (o_spec_l00In n_ low high)) (x := F_spec_l00In n_ low high) (d := default) (V := fun r => ((AV.v (TV.one (At.bool r))), [])) (fun r => rfl) hp)
  · cases hp)
noncomputable def s_impl_within : List PT → Option (Bool × AV × List Blk)
  | [.one (.s (.int .i64 n_)), .one (.s (.int .i64 low)), .one (.s (.int .i64 high))] => some ((impl_within_p n_ low high), ((AV.v (TV.one (At.bool (impl_within_v0 n_ low high)))), []))
  | _ => none
def o_impl_within (n_ : Int) (low : Int) (high : Int) : Option (Bool) → Option (AV × List Blk)
  | some r => some ((AV.v (TV.one (At.bool r))), [])
  | none => none
theorem e_impl_within (n_ : Int) (low : Int) (high : Int) : evFn Γ0 8 8 76 (impTs 0 [.one (.s (.int .i64 n_)), .one (.s (.int .i64 low)), .one (.s (.int .i64 high))]).1 (impTs 0 [.one (.s (.int .i64 n_)), .one (.s (.int .i64 low)), .one (.s (.int .i64 high))]).2 (expo (impTs 0 [.one (.s (.int .i64 n_)), .one (.s (.int .i64 low)), .one (.s (.int .i64 high))]).2.length) = T_impl_within n_ low high (fun c0_ => some ((AV.v (TV.one (At.bool c0_))), [])) := by kernel_rfl
theorem s_impl_within_ok : SumOne Try.prog 76 s_impl_within := sum_of (Γ := Γ0) (fuel := 8) (d := 8) tyTab_ok (FnL.ok fnTab_ok _ _) (LpL.ok lt0_ok) (SumL.ok tb0_ok _) mixed (by
  intro pts v news hp hc
  clear hc
  unfold s_impl_within at hp
  split at hp
  · rename_i n_ low high
    exact Eq.trans (Eq.trans (e_impl_within n_ low high) (T_impl_within_nat (o_impl_within n_ low high) rfl n_ low high (fun c0_ => some c0_))) (fin_out (o := (o_impl_within n_ low high)) (x := F_impl_within n_ low high) (d := default) (V := fun r => ((AV.v (TV.one (At.bool r))), [])) (fun r => rfl) hp)
  · cases hp)
noncomputable def s_spec_l01Finite : List PT → Option (Bool × AV × List Blk)
  | [.one (.s (.flt .f32 x))] => some ((spec_l01Finite_p x), ((AV.v (TV.one (At.bool (spec_l01Finite_v0 x)))), []))
  | _ => none
def o_spec_l01Finite (x : Nat) : Option (Bool) → Option (AV × List Blk)
  | some r => some ((AV.v (TV.one (At.bool r))), [])
  | none => none
theorem e_spec_l01Finite (x : Nat) : evFn Γ0 8 8 82 (impTs 0 [.one (.s (.flt .f32 x))]).1 (impTs 0 [.one (.s (.flt .f32 x))]).2 (expo (impTs 0 [.one (.s (.flt .f32 x))]).2.length) = T_spec_l01Finite x (fun c0_ => some ((AV.v (TV.one (At.bool c0_))), [])) := by kernel_rfl
theorem s_spec_l01Finite_ok : SumOne Try.prog 82 s_spec_l01Finite := sum_of (Γ := Γ0) (fuel := 8) (d := 8) tyTab_ok (FnL.ok fnTab_ok _ _) (LpL.ok lt0_ok) (SumL.ok tb0_ok _) mixed (by
  intro pts v news hp hc
  clear hc
  unfold s_spec_l01Finite at hp
  split at hp
  · rename_i x
    exact Eq.trans (Eq.trans (e_spec_l01Finite x) (T_spec_l01Finite_nat (o_spec_l01Finite x) rfl x (fun c0_ => some c0_))) (fin_out (o := (o_spec_l01Finite x)) (x := F_spec_l01Finite x) (d := default) (V := fun r => ((AV.v (TV.one (At.bool r))), [])) (fun r => rfl) hp)
  · cases hp)
noncomputable def tb1 : List (Nat × (List PT → Option (Bool × AV × List Blk))) := [(109, s_math_Float32bits), (118, s_math_archFloor), (125, s_math_Float64frombits), (133, s_math_Float64bits), (139, s_math_archTrunc), (26, s_laws_sameFloat), (52, s_impl_IsFinite), (66, s_spec_l00In), (76, s_impl_within), (82, s_spec_l01Finite)]
noncomputable def lt1 : List ((Nat × Nat) × (Nat → St → Option (Bool × LO))) := []
noncomputable def Γ1 : Ctx := ⟨tyTab, fnTab, tblSum tb1, tblLp lt1⟩
theorem tb1_ok : SumL Try.prog tb1 := SumL.cons s_math_Float32bits_ok (SumL.cons s_math_archFloor_ok (SumL.cons s_math_Float64frombits_ok (SumL.cons s_math_Float64bits_ok (SumL.cons s_math_archTrunc_ok (SumL.cons s_laws_sameFloat_ok (SumL.cons s_impl_IsFinite_ok (SumL.cons s_spec_l00In_ok (SumL.cons s_impl_within_ok (SumL.cons s_spec_l01Finite_ok (SumL.nil))))))))))
theorem lt1_ok : LpL Try.prog fnTab lt1 := LpL.nil
noncomputable def s_impl_isLeast : List PT → Option (Bool × AV × List Blk)
  | [.one (.s (.flt .f32 x))] => some ((impl_isLeast_p x), ((AV.v (TV.one (At.bool (impl_isLeast_v0 x)))), []))
  | _ => none
def o_impl_isLeast (x : Nat) : Option (Bool) → Option (AV × List Blk)
  | some r => some ((AV.v (TV.one (At.bool r))), [])
  | none => none
theorem e_impl_isLeast (x : Nat) : evFn Γ1 8 8 89 (impTs 0 [.one (.s (.flt .f32 x))]).1 (impTs 0 [.one (.s (.flt .f32 x))]).2 (expo (impTs 0 [.one (.s (.flt .f32 x))]).2.length) = T_impl_isLeast x (fun c0_ => some ((AV.v (TV.one (At.bool c0_))), [])) := by kernel_rfl
theorem s_impl_isLeast_ok : SumOne Try.prog 89 s_impl_isLeast := sum_of (Γ := Γ1) (fuel := 8) (d := 8) tyTab_ok (FnL.ok fnTab_ok _ _) (LpL.ok lt1_ok) (SumL.ok tb1_ok _) mixed (by
  intro pts v news hp hc
  clear hc
  unfold s_impl_isLeast at hp
  split at hp
  · rename_i x
    exact Eq.trans (Eq.trans (e_impl_isLeast x) (T_impl_isLeast_nat (o_impl_isLeast x) rfl x (fun c0_ => some c0_))) (fin_out (o := (o_impl_isLeast x)) (x := F_impl_isLeast x) (d := default) (V := fun r => ((AV.v (TV.one (At.bool r))), [])) (fun r => rfl) hp)
  · cases hp)
noncomputable def s_spec_l02Least : List PT → Option (Bool × AV × List Blk)
  | [.one (.s (.flt .f32 x))] => some ((spec_l02Least_p x), ((AV.v (TV.one (At.bool (spec_l02Least_v0 x)))), []))
  | _ => none
def o_spec_l02Least (x : Nat) : Option (Bool) → Option (AV × List Blk)
  | some r => some ((AV.v (TV.one (At.bool r))), [])
  | none => none
theorem e_spec_l02Least (x : Nat) : evFn Γ1 8 8 96 (impTs 0 [.one (.s (.flt .f32 x))]).1 (impTs 0 [.one (.s (.flt .f32 x))]).2 (expo (impTs 0 [.one (.s (.flt .f32 x))]).2.length) = T_spec_l02Least x (fun c0_ => some ((AV.v (TV.one (At.bool c0_))), [])) := by kernel_rfl
theorem s_spec_l02Least_ok : SumOne Try.prog 96 s_spec_l02Least := sum_of (Γ := Γ1) (fuel := 8) (d := 8) tyTab_ok (FnL.ok fnTab_ok _ _) (LpL.ok lt1_ok) (SumL.ok tb1_ok _) mixed (by
  intro pts v news hp hc
  clear hc
  unfold s_spec_l02Least at hp
  split at hp
  · rename_i x
    exact Eq.trans (Eq.trans (e_spec_l02Least x) (T_spec_l02Least_nat (o_spec_l02Least x) rfl x (fun c0_ => some c0_))) (fin_out (o := (o_spec_l02Least x)) (x := F_spec_l02Least x) (d := default) (V := fun r => ((AV.v (TV.one (At.bool r))), [])) (fun r => rfl) hp)
  · cases hp)
noncomputable def s_impl_areFinite_1 : List PT → Option (Bool × AV × List Blk)
  | [.one (.s (.flt .f32 x))] => some ((impl_areFinite_1_p x), ((AV.v (TV.one (At.bool (impl_areFinite_1_v0 x)))), []))
  | _ => none
def o_impl_areFinite_1 (x : Nat) : Option (Bool) → Option (AV × List Blk)
  | some r => some ((AV.v (TV.one (At.bool r))), [])
  | none => none
theorem e_impl_areFinite_1 (x : Nat) : evFn Γ1 8 8 113 (impTs 0 [.one (.s (.flt .f32 x))]).1 (impTs 0 [.one (.s (.flt .f32 x))]).2 (expo (impTs 0 [.one (.s (.flt .f32 x))]).2.length) = T_impl_areFinite_1 x (fun c0_ => some ((AV.v (TV.one (At.bool c0_))), [])) := by kernel_rfl
theorem s_impl_areFinite_1_ok : SumOne Try.prog 113 s_impl_areFinite_1 := sum_of (Γ := Γ1) (fuel := 8) (d := 8) tyTab_ok (FnL.ok fnTab_ok _ _) (LpL.ok lt1_ok) (SumL.ok tb1_ok _) mixed (by
  intro pts v news hp hc
  clear hc
  unfold s_impl_areFinite_1 at hp
  split at hp
  · rename_i x
    exact Eq.trans (Eq.trans (e_impl_areFinite_1 x) (T_impl_areFinite_1_nat (o_impl_areFinite_1 x) rfl x (fun c0_ => some c0_))) (fin_out (o := (o_impl_areFinite_1 x)) (x := F_impl_areFinite_1 x) (d := default) (V := fun r => ((AV.v (TV.one (At.bool r))), [])) (fun r => rfl) hp)
  · cases hp)
noncomputable def l_laws_toFloat32S_l3 : Nat → St → Option (Bool × LO)
  | 1, (St.mk [(0, (AV.v (TV.one (At.vw 0 0 an 1)))), (3, (AV.v (TV.one (At.sl 1 0 outn 1)))), (4, (AV.v (TV.one (At.int IntKind.i64 i))))] [(Blk.mk Bool.false (Body.fl FloatKind.f32 b0)), (Blk.mk Bool.true (Body.fl FloatKind.f32 b1))]) => some ((laws_toFloat32S_l3_p an outn b0 i b1), (LO.one (Ex.exit 0) (St.mk [(0, (AV.v (TV.one (At.vw 0 0 an 1)))), (3, (AV.v (TV.one (At.sl 1 0 outn 1)))), (4, (AV.v (TV.one (At.int IntKind.i64 (laws_toFloat32S_l3_a0_0 an outn b0 i b1))))), (11, (AV.v (TV.one (At.bool (laws_toFloat32S_l3_a0_1 an outn b0 i b1)))))] [(Blk.mk Bool.false (Body.fl FloatKind.f32 b0)), (Blk.mk Bool.true (Body.fl FloatKind.f32 (laws_toFloat32S_l3_a0_2 an outn b0 i b1)))])))
  | _, _ => none
def o_laws_toFloat32S_l3 (an : Nat) (outn : Nat) (b0 : List Nat) : Option ((Int × Bool × (List Nat))) → Option (Ex × St)
  | none => none
  | some r => some ((Ex.exit 0), (St.mk [(0, (AV.v (TV.one (At.vw 0 0 an 1)))), (3, (AV.v (TV.one (At.sl 1 0 outn 1)))), (4, (AV.v (TV.one (At.int IntKind.i64 r.1)))), (11, (AV.v (TV.one (At.bool r.2.1))))] [(Blk.mk Bool.false (Body.fl FloatKind.f32 b0)), (Blk.mk Bool.true (Body.fl FloatKind.f32 r.2.2))]))
def lo_laws_toFloat32S_l3 (an : Nat) (outn : Nat) (b0 : List Nat) (x : Option ((Int × Bool × (List Nat)))) : LO := (LO.one (Ex.exit 0) (St.mk [(0, (AV.v (TV.one (At.vw 0 0 an 1)))), (3, (AV.v (TV.one (At.sl 1 0 outn 1)))), (4, (AV.v (TV.one (At.int IntKind.i64 (x.getD default).1)))), (11, (AV.v (TV.one (At.bool (x.getD default).2.1))))] [(Blk.mk Bool.false (Body.fl FloatKind.f32 b0)), (Blk.mk Bool.true (Body.fl FloatKind.f32 (x.getD default).2.2))]))
theorem f_laws_toFloat32S_l3 (an : Nat) (outn : Nat) (b0 : List Nat) : ∀ x : Option ((Int × Bool × (List Nat))), x.isSome = true → (o_laws_toFloat32S_l3 an outn b0) x = some (pick (lo_laws_toFloat32S_l3 an outn b0 x))
  | none, h => by cases h
  | some r, _ => rfl
theorem r_laws_toFloat32S_l3 (an : Nat) (outn : Nat) (i : Int) (b0 : List Nat) (b1 : List Nat) (K : Ex → St → Option (Ex × St)) : evC (R := Ex × St) Γ1 (evFn Γ1 8 8) 24 1 fi24.nt fi24.live fi24.nl 8 (findL 3 (loopsIn fi24.code)) (St.mk [(0, (AV.v (TV.one (At.vw 0 0 an 1)))), (3, (AV.v (TV.one (At.sl 1 0 outn 1)))), (4, (AV.v (TV.one (At.int IntKind.i64 i))))] [(Blk.mk Bool.false (Body.fl FloatKind.f32 b0)), (Blk.mk Bool.true (Body.fl FloatKind.f32 b1))]) K = T_laws_toFloat32S_l3 an outn b0 i b1 (fun i' b1' => K .normal (St.mk [(0, (AV.v (TV.one (At.vw 0 0 an 1)))), (3, (AV.v (TV.one (At.sl 1 0 outn 1)))), (4, (AV.v (TV.one (At.int IntKind.i64 i'))))] [(Blk.mk Bool.false (Body.fl FloatKind.f32 b0)), (Blk.mk Bool.true (Body.fl FloatKind.f32 b1'))])) (fun c0_ c1_ c2_ => K (Ex.exit 0) (St.mk [(0, (AV.v (TV.one (At.vw 0 0 an 1)))), (3, (AV.v (TV.one (At.sl 1 0 outn 1)))), (4, (AV.v (TV.one (At.int IntKind.i64 c0_)))), (11, (AV.v (TV.one (At.bool c1_))))] [(Blk.mk Bool.false (Body.fl FloatKind.f32 b0)), (Blk.mk Bool.true (Body.fl FloatKind.f32 c2_))])) := by kernel_rfl
theorem i_laws_toFloat32S_l3 (an : Nat) (outn : Nat) (b0 : List Nat) : ∀ (n : Nat) (i : Int) (b1 : List Nat), iter 24 3 1 (evC (R := Ex × St) Γ1 (evFn Γ1 8 8) 24 1 fi24.nt fi24.live fi24.nl 8 (findL 3 (loopsIn fi24.code))) n (St.mk [(0, (AV.v (TV.one (At.vw 0 0 an 1)))), (3, (AV.v (TV.one (At.sl 1 0 outn 1)))), (4, (AV.v (TV.one (At.int IntKind.i64 i))))] [(Blk.mk Bool.false (Body.fl FloatKind.f32 b0)), (Blk.mk Bool.true (Body.fl FloatKind.f32 b1))]) (fun e st => some (e, st)) = (o_laws_toFloat32S_l3 an outn b0) (L_laws_toFloat32S_l3 an outn b0 n i b1) := by
  intro n
  induction n with
  | zero => intros; rfl
  | succ n ih =>
    intro i b1
    refine Eq.trans (iter_succ ..) (Eq.trans (r_laws_toFloat32S_l3 an outn i b0 b1 (nextK 24 3 1 (evC (R := Ex × St) Γ1 (evFn Γ1 8 8) 24 1 fi24.nt fi24.live fi24.nl 8 (findL 3 (loopsIn fi24.code))) n (fun e st => some (e, st)))) (Eq.trans ?_ (T_laws_toFloat32S_l3_nat (o_laws_toFloat32S_l3 an outn b0) rfl an outn b0 i b1 (fun i' b1' => L_laws_toFloat32S_l3 an outn b0 n i' b1') (fun c0_ c1_ c2_ => some (c0_, c1_, c2_)))))
    exact congrArg (fun kn_ => T_laws_toFloat32S_l3 an outn b0 i b1 kn_ (fun c0_ c1_ c2_ => (o_laws_toFloat32S_l3 an outn b0) (some (c0_, c1_, c2_)))) (funext fun i' => funext fun b1' => ih i' b1')
theorem l_laws_toFloat32S_l3_ok : LoopOne Try.prog fnTab 24 3 l_laws_toFloat32S_l3 := lp_of (Γ := Γ1) tyTab_ok (FnL.ok fnTab_ok _ _) (LpL.ok lt1_ok) (SumL.ok tb1_ok _) mixed (fi := fi24) (by kernel_rfl) (by kernel_rfl) (by
  intro lo st out hp
  unfold l_laws_toFloat32S_l3 at hp
  split at hp
  · rename_i an outn i b0 b1
    injection hp with hp
    injection hp with h1 h2
    subst h2
    exact ⟨8, 8, big, Eq.trans (i_laws_toFloat32S_l3 an outn b0 big i b1) (f_laws_toFloat32S_l3 an outn b0 (L_laws_toFloat32S_l3 an outn b0 big i b1) h1)⟩
  · cases hp)
noncomputable def l_laws_heldFloat32S_l2 : Nat → St → Option (Bool × LO)
  | 1, (St.mk [(0, (AV.v (TV.one (At.vw 0 0 an 1)))), (1, (AV.v (TV.one (At.int IntKind.i64 k)))), (5, (AV.v (TV.one (At.int IntKind.i64 i))))] [(Blk.mk Bool.false (Body.fl FloatKind.f32 b0))]) => some ((laws_heldFloat32S_l2_p an b0 k i), (LO.two (laws_heldFloat32S_l2_w0 an b0 k i) (LO.one Ex.ret (St.mk [(4, (AV.v (TV.one (At.int IntKind.i64 (Int.negSucc 0)))))] [(Blk.mk Bool.false (Body.fl FloatKind.f32 b0))])) (LO.one (Ex.exit 0) (St.mk [(0, (AV.v (TV.one (At.vw 0 0 an 1)))), (1, (AV.v (TV.one (At.int IntKind.i64 (laws_heldFloat32S_l2_a1_0 an b0 k i))))), (5, (AV.v (TV.one (At.int IntKind.i64 (laws_heldFloat32S_l2_a1_1 an b0 k i))))), (9, (AV.v (TV.one (At.bool (laws_heldFloat32S_l2_a1_2 an b0 k i)))))] [(Blk.mk Bool.false (Body.fl FloatKind.f32 b0))]))))
  | _, _ => none
def o_laws_heldFloat32S_l2 (an : Nat) (b0 : List Nat) : Option ((Unit) ⊕ (Int × Int × Bool)) → Option (Ex × St)
  | none => none
  | some (Sum.inl r) => some (Ex.ret, (St.mk [(4, (AV.v (TV.one (At.int IntKind.i64 (Int.negSucc 0)))))] [(Blk.mk Bool.false (Body.fl FloatKind.f32 b0))]))
  | some (Sum.inr r) => some ((Ex.exit 0), (St.mk [(0, (AV.v (TV.one (At.vw 0 0 an 1)))), (1, (AV.v (TV.one (At.int IntKind.i64 r.1)))), (5, (AV.v (TV.one (At.int IntKind.i64 r.2.1)))), (9, (AV.v (TV.one (At.bool r.2.2))))] [(Blk.mk Bool.false (Body.fl FloatKind.f32 b0))]))
def lo_laws_heldFloat32S_l2 (an : Nat) (b0 : List Nat) (x : Option ((Unit) ⊕ (Int × Int × Bool))) : LO := (LO.two (oL x) (LO.one Ex.ret (St.mk [(4, (AV.v (TV.one (At.int IntKind.i64 (Int.negSucc 0)))))] [(Blk.mk Bool.false (Body.fl FloatKind.f32 b0))])) (LO.one (Ex.exit 0) (St.mk [(0, (AV.v (TV.one (At.vw 0 0 an 1)))), (1, (AV.v (TV.one (At.int IntKind.i64 ((tR x).getD default).1)))), (5, (AV.v (TV.one (At.int IntKind.i64 ((tR x).getD default).2.1)))), (9, (AV.v (TV.one (At.bool ((tR x).getD default).2.2))))] [(Blk.mk Bool.false (Body.fl FloatKind.f32 b0))])))
theorem f_laws_heldFloat32S_l2 (an : Nat) (b0 : List Nat) : ∀ x : Option ((Unit) ⊕ (Int × Int × Bool)), x.isSome = true → (o_laws_heldFloat32S_l2 an b0) x = some (pick (lo_laws_heldFloat32S_l2 an b0 x))
  | none, h => by cases h
  | some (Sum.inl r), _ => rfl
  | some (Sum.inr r), _ => rfl
theorem r_laws_heldFloat32S_l2 (an : Nat) (k : Int) (i : Int) (b0 : List Nat) (K : Ex → St → Option (Ex × St)) : evC (R := Ex × St) Γ1 (evFn Γ1 8 8) 40 1 fi40.nt fi40.live fi40.nl 8 (findL 2 (loopsIn fi40.code)) (St.mk [(0, (AV.v (TV.one (At.vw 0 0 an 1)))), (1, (AV.v (TV.one (At.int IntKind.i64 k)))), (5, (AV.v (TV.one (At.int IntKind.i64 i))))] [(Blk.mk Bool.false (Body.fl FloatKind.f32 b0))]) K = T_laws_heldFloat32S_l2 an b0 k i (fun k' i' => K .normal (St.mk [(0, (AV.v (TV.one (At.vw 0 0 an 1)))), (1, (AV.v (TV.one (At.int IntKind.i64 k')))), (5, (AV.v (TV.one (At.int IntKind.i64 i'))))] [(Blk.mk Bool.false (Body.fl FloatKind.f32 b0))])) (fun _ => K Ex.ret (St.mk [(4, (AV.v (TV.one (At.int IntKind.i64 (Int.negSucc 0)))))] [(Blk.mk Bool.false (Body.fl FloatKind.f32 b0))])) (fun c0_ c1_ c2_ => K (Ex.exit 0) (St.mk [(0, (AV.v (TV.one (At.vw 0 0 an 1)))), (1, (AV.v (TV.one (At.int IntKind.i64 c0_)))), (5, (AV.v (TV.one (At.int IntKind.i64 c1_)))), (9, (AV.v (TV.one (At.bool c2_))))] [(Blk.mk Bool.false (Body.fl FloatKind.f32 b0))])) := by kernel_rfl
theorem i_laws_heldFloat32S_l2 (an : Nat) (b0 : List Nat) : ∀ (n : Nat) (k : Int) (i : Int), iter 40 2 1 (evC (R := Ex × St) Γ1 (evFn Γ1 8 8) 40 1 fi40.nt fi40.live fi40.nl 8 (findL 2 (loopsIn fi40.code))) n (St.mk [(0, (AV.v (TV.one (At.vw 0 0 an 1)))), (1, (AV.v (TV.one (At.int IntKind.i64 k)))), (5, (AV.v (TV.one (At.int IntKind.i64 i))))] [(Blk.mk Bool.false (Body.fl FloatKind.f32 b0))]) (fun e st => some (e, st)) = (o_laws_heldFloat32S_l2 an b0) (L_laws_heldFloat32S_l2 an b0 n k i) := by
  intro n
  induction n with
  | zero => intros; rfl
  | succ n ih =>
    intro k i
    refine Eq.trans (iter_succ ..) (Eq.trans (r_laws_heldFloat32S_l2 an k i b0 (nextK 40 2 1 (evC (R := Ex × St) Γ1 (evFn Γ1 8 8) 40 1 fi40.nt fi40.live fi40.nl 8 (findL 2 (loopsIn fi40.code))) n (fun e st => some (e, st)))) (Eq.trans ?_ (T_laws_heldFloat32S_l2_nat (o_laws_heldFloat32S_l2 an b0) rfl an b0 k i (fun k' i' => L_laws_heldFloat32S_l2 an b0 n k' i') (fun _ => some (Sum.inl ())) (fun c0_ c1_ c2_ => some (Sum.inr (c0_, c1_, c2_))))))
    exact congrArg (fun kn_ => T_laws_heldFloat32S_l2 an b0 k i kn_ (fun _ => (o_laws_heldFloat32S_l2 an b0) (some (Sum.inl ()))) (fun c0_ c1_ c2_ => (o_laws_heldFloat32S_l2 an b0) (some (Sum.inr (c0_, c1_, c2_))))) (funext fun k' => funext fun i' => ih k' i')
theorem l_laws_heldFloat32S_l2_ok : LoopOne Try.prog fnTab 40 2 l_laws_heldFloat32S_l2 := lp_of (Γ := Γ1) tyTab_ok (FnL.ok fnTab_ok _ _) (LpL.ok lt1_ok) (SumL.ok tb1_ok _) mixed (fi := fi40) (by kernel_rfl) (by kernel_rfl) (by
  intro lo st out hp
  unfold l_laws_heldFloat32S_l2 at hp
  split at hp
  · rename_i an k i b0
    injection hp with hp
    injection hp with h1 h2
    subst h2
    exact ⟨8, 8, big, Eq.trans (i_laws_heldFloat32S_l2 an b0 big k i) (f_laws_heldFloat32S_l2 an b0 (L_laws_heldFloat32S_l2 an b0 big k i) h1)⟩
  · cases hp)
noncomputable def l_spec_l04Mean_l3 : Nat → St → Option (Bool × LO)
  | 1, (St.mk [(0, (AV.v (TV.one (At.vw 0 0 listn 1)))), (3, (AV.v (TV.one (At.flt FloatKind.f32 sum)))), (4, (AV.v (TV.one (At.int IntKind.i64 i))))] [(Blk.mk Bool.false (Body.fl FloatKind.f32 b0))]) => some ((spec_l04Mean_l3_p listn b0 sum i), (LO.one (Ex.exit 0) (St.mk [(0, (AV.v (TV.one (At.vw 0 0 listn 1)))), (3, (AV.v (TV.one (At.flt FloatKind.f32 (spec_l04Mean_l3_a0_0 listn b0 sum i))))), (4, (AV.v (TV.one (At.int IntKind.i64 (spec_l04Mean_l3_a0_1 listn b0 sum i))))), (8, (AV.v (TV.one (At.bool (spec_l04Mean_l3_a0_2 listn b0 sum i)))))] [(Blk.mk Bool.false (Body.fl FloatKind.f32 b0))])))
  | _, _ => none
def o_spec_l04Mean_l3 (listn : Nat) (b0 : List Nat) : Option ((Nat × Int × Bool)) → Option (Ex × St)
  | none => none
  | some r => some ((Ex.exit 0), (St.mk [(0, (AV.v (TV.one (At.vw 0 0 listn 1)))), (3, (AV.v (TV.one (At.flt FloatKind.f32 r.1)))), (4, (AV.v (TV.one (At.int IntKind.i64 r.2.1)))), (8, (AV.v (TV.one (At.bool r.2.2))))] [(Blk.mk Bool.false (Body.fl FloatKind.f32 b0))]))
def lo_spec_l04Mean_l3 (listn : Nat) (b0 : List Nat) (x : Option ((Nat × Int × Bool))) : LO := (LO.one (Ex.exit 0) (St.mk [(0, (AV.v (TV.one (At.vw 0 0 listn 1)))), (3, (AV.v (TV.one (At.flt FloatKind.f32 (x.getD default).1)))), (4, (AV.v (TV.one (At.int IntKind.i64 (x.getD default).2.1)))), (8, (AV.v (TV.one (At.bool (x.getD default).2.2))))] [(Blk.mk Bool.false (Body.fl FloatKind.f32 b0))]))
theorem f_spec_l04Mean_l3 (listn : Nat) (b0 : List Nat) : ∀ x : Option ((Nat × Int × Bool)), x.isSome = true → (o_spec_l04Mean_l3 listn b0) x = some (pick (lo_spec_l04Mean_l3 listn b0 x))
  | none, h => by cases h
  | some r, _ => rfl
theorem r_spec_l04Mean_l3 (listn : Nat) (sum : Nat) (i : Int) (b0 : List Nat) (K : Ex → St → Option (Ex × St)) : evC (R := Ex × St) Γ1 (evFn Γ1 8 8) 62 1 fi62.nt fi62.live fi62.nl 8 (findL 3 (loopsIn fi62.code)) (St.mk [(0, (AV.v (TV.one (At.vw 0 0 listn 1)))), (3, (AV.v (TV.one (At.flt FloatKind.f32 sum)))), (4, (AV.v (TV.one (At.int IntKind.i64 i))))] [(Blk.mk Bool.false (Body.fl FloatKind.f32 b0))]) K = T_spec_l04Mean_l3 listn b0 sum i (fun sum' i' => K .normal (St.mk [(0, (AV.v (TV.one (At.vw 0 0 listn 1)))), (3, (AV.v (TV.one (At.flt FloatKind.f32 sum')))), (4, (AV.v (TV.one (At.int IntKind.i64 i'))))] [(Blk.mk Bool.false (Body.fl FloatKind.f32 b0))])) (fun c0_ c1_ c2_ => K (Ex.exit 0) (St.mk [(0, (AV.v (TV.one (At.vw 0 0 listn 1)))), (3, (AV.v (TV.one (At.flt FloatKind.f32 c0_)))), (4, (AV.v (TV.one (At.int IntKind.i64 c1_)))), (8, (AV.v (TV.one (At.bool c2_))))] [(Blk.mk Bool.false (Body.fl FloatKind.f32 b0))])) := by kernel_rfl
theorem i_spec_l04Mean_l3 (listn : Nat) (b0 : List Nat) : ∀ (n : Nat) (sum : Nat) (i : Int), iter 62 3 1 (evC (R := Ex × St) Γ1 (evFn Γ1 8 8) 62 1 fi62.nt fi62.live fi62.nl 8 (findL 3 (loopsIn fi62.code))) n (St.mk [(0, (AV.v (TV.one (At.vw 0 0 listn 1)))), (3, (AV.v (TV.one (At.flt FloatKind.f32 sum)))), (4, (AV.v (TV.one (At.int IntKind.i64 i))))] [(Blk.mk Bool.false (Body.fl FloatKind.f32 b0))]) (fun e st => some (e, st)) = (o_spec_l04Mean_l3 listn b0) (L_spec_l04Mean_l3 listn b0 n sum i) := by
  intro n
  induction n with
  | zero => intros; rfl
  | succ n ih =>
    intro sum i
    refine Eq.trans (iter_succ ..) (Eq.trans (r_spec_l04Mean_l3 listn sum i b0 (nextK 62 3 1 (evC (R := Ex × St) Γ1 (evFn Γ1 8 8) 62 1 fi62.nt fi62.live fi62.nl 8 (findL 3 (loopsIn fi62.code))) n (fun e st => some (e, st)))) (Eq.trans ?_ (T_spec_l04Mean_l3_nat (o_spec_l04Mean_l3 listn b0) rfl listn b0 sum i (fun sum' i' => L_spec_l04Mean_l3 listn b0 n sum' i') (fun c0_ c1_ c2_ => some (c0_, c1_, c2_)))))
    exact congrArg (fun kn_ => T_spec_l04Mean_l3 listn b0 sum i kn_ (fun c0_ c1_ c2_ => (o_spec_l04Mean_l3 listn b0) (some (c0_, c1_, c2_)))) (funext fun sum' => funext fun i' => ih sum' i')
theorem l_spec_l04Mean_l3_ok : LoopOne Try.prog fnTab 62 3 l_spec_l04Mean_l3 := lp_of (Γ := Γ1) tyTab_ok (FnL.ok fnTab_ok _ _) (LpL.ok lt1_ok) (SumL.ok tb1_ok _) mixed (fi := fi62) (by kernel_rfl) (by kernel_rfl) (by
  intro lo st out hp
  unfold l_spec_l04Mean_l3 at hp
  split at hp
  · rename_i listn sum i b0
    injection hp with hp
    injection hp with h1 h2
    subst h2
    exact ⟨8, 8, big, Eq.trans (i_spec_l04Mean_l3 listn b0 big sum i) (f_spec_l04Mean_l3 listn b0 (L_spec_l04Mean_l3 listn b0 big sum i) h1)⟩
  · cases hp)
noncomputable def l_impl_sum_l3 : Nat → St → Option (Bool × LO)
  | 1, (St.mk [(3, (AV.v (TV.one (At.flt FloatKind.f32 all)))), (6, (AV.v (TV.one (At.vw 0 0 t6n 1)))), (7, (AV.v (TV.one (At.int IntKind.i64 t7)))), (8, (AV.v (TV.one (At.int IntKind.i64 t8))))] [(Blk.mk Bool.false (Body.fl FloatKind.f32 b0))]) => some ((impl_sum_l3_p t6n t7 b0 all t8), (LO.one (Ex.exit 0) (St.mk [(3, (AV.v (TV.one (At.flt FloatKind.f32 (impl_sum_l3_a0_0 t6n t7 b0 all t8))))), (6, (AV.v (TV.one (At.vw 0 0 t6n 1)))), (7, (AV.v (TV.one (At.int IntKind.i64 t7)))), (8, (AV.v (TV.one (At.int IntKind.i64 (impl_sum_l3_a0_1 t6n t7 b0 all t8))))), (9, (AV.v (TV.one (At.bool (impl_sum_l3_a0_2 t6n t7 b0 all t8)))))] [(Blk.mk Bool.false (Body.fl FloatKind.f32 b0))])))
  | _, _ => none
def o_impl_sum_l3 (t6n : Nat) (t7 : Int) (b0 : List Nat) : Option ((Nat × Int × Bool)) → Option (Ex × St)
  | none => none
  | some r => some ((Ex.exit 0), (St.mk [(3, (AV.v (TV.one (At.flt FloatKind.f32 r.1)))), (6, (AV.v (TV.one (At.vw 0 0 t6n 1)))), (7, (AV.v (TV.one (At.int IntKind.i64 t7)))), (8, (AV.v (TV.one (At.int IntKind.i64 r.2.1)))), (9, (AV.v (TV.one (At.bool r.2.2))))] [(Blk.mk Bool.false (Body.fl FloatKind.f32 b0))]))
def lo_impl_sum_l3 (t6n : Nat) (t7 : Int) (b0 : List Nat) (x : Option ((Nat × Int × Bool))) : LO := (LO.one (Ex.exit 0) (St.mk [(3, (AV.v (TV.one (At.flt FloatKind.f32 (x.getD default).1)))), (6, (AV.v (TV.one (At.vw 0 0 t6n 1)))), (7, (AV.v (TV.one (At.int IntKind.i64 t7)))), (8, (AV.v (TV.one (At.int IntKind.i64 (x.getD default).2.1)))), (9, (AV.v (TV.one (At.bool (x.getD default).2.2))))] [(Blk.mk Bool.false (Body.fl FloatKind.f32 b0))]))
theorem f_impl_sum_l3 (t6n : Nat) (t7 : Int) (b0 : List Nat) : ∀ x : Option ((Nat × Int × Bool)), x.isSome = true → (o_impl_sum_l3 t6n t7 b0) x = some (pick (lo_impl_sum_l3 t6n t7 b0 x))
  | none, h => by cases h
  | some r, _ => rfl
theorem r_impl_sum_l3 (all : Nat) (t6n : Nat) (t7 : Int) (t8 : Int) (b0 : List Nat) (K : Ex → St → Option (Ex × St)) : evC (R := Ex × St) Γ1 (evFn Γ1 8 8) 98 1 fi98.nt fi98.live fi98.nl 8 (findL 3 (loopsIn fi98.code)) (St.mk [(3, (AV.v (TV.one (At.flt FloatKind.f32 all)))), (6, (AV.v (TV.one (At.vw 0 0 t6n 1)))), (7, (AV.v (TV.one (At.int IntKind.i64 t7)))), (8, (AV.v (TV.one (At.int IntKind.i64 t8))))] [(Blk.mk Bool.false (Body.fl FloatKind.f32 b0))]) K = T_impl_sum_l3 t6n t7 b0 all t8 (fun all' t8' => K .normal (St.mk [(3, (AV.v (TV.one (At.flt FloatKind.f32 all')))), (6, (AV.v (TV.one (At.vw 0 0 t6n 1)))), (7, (AV.v (TV.one (At.int IntKind.i64 t7)))), (8, (AV.v (TV.one (At.int IntKind.i64 t8'))))] [(Blk.mk Bool.false (Body.fl FloatKind.f32 b0))])) (fun c0_ c1_ c2_ => K (Ex.exit 0) (St.mk [(3, (AV.v (TV.one (At.flt FloatKind.f32 c0_)))), (6, (AV.v (TV.one (At.vw 0 0 t6n 1)))), (7, (AV.v (TV.one (At.int IntKind.i64 t7)))), (8, (AV.v (TV.one (At.int IntKind.i64 c1_)))), (9, (AV.v (TV.one (At.bool c2_))))] [(Blk.mk Bool.false (Body.fl FloatKind.f32 b0))])) := by kernel_rfl
theorem i_impl_sum_l3 (t6n : Nat) (t7 : Int) (b0 : List Nat) : ∀ (n : Nat) (all : Nat) (t8 : Int), iter 98 3 1 (evC (R := Ex × St) Γ1 (evFn Γ1 8 8) 98 1 fi98.nt fi98.live fi98.nl 8 (findL 3 (loopsIn fi98.code))) n (St.mk [(3, (AV.v (TV.one (At.flt FloatKind.f32 all)))), (6, (AV.v (TV.one (At.vw 0 0 t6n 1)))), (7, (AV.v (TV.one (At.int IntKind.i64 t7)))), (8, (AV.v (TV.one (At.int IntKind.i64 t8))))] [(Blk.mk Bool.false (Body.fl FloatKind.f32 b0))]) (fun e st => some (e, st)) = (o_impl_sum_l3 t6n t7 b0) (L_impl_sum_l3 t6n t7 b0 n all t8) := by
  intro n
  induction n with
  | zero => intros; rfl
  | succ n ih =>
    intro all t8
    refine Eq.trans (iter_succ ..) (Eq.trans (r_impl_sum_l3 all t6n t7 t8 b0 (nextK 98 3 1 (evC (R := Ex × St) Γ1 (evFn Γ1 8 8) 98 1 fi98.nt fi98.live fi98.nl 8 (findL 3 (loopsIn fi98.code))) n (fun e st => some (e, st)))) (Eq.trans ?_ (T_impl_sum_l3_nat (o_impl_sum_l3 t6n t7 b0) rfl t6n t7 b0 all t8 (fun all' t8' => L_impl_sum_l3 t6n t7 b0 n all' t8') (fun c0_ c1_ c2_ => some (c0_, c1_, c2_)))))
    exact congrArg (fun kn_ => T_impl_sum_l3 t6n t7 b0 all t8 kn_ (fun c0_ c1_ c2_ => (o_impl_sum_l3 t6n t7 b0) (some (c0_, c1_, c2_)))) (funext fun all' => funext fun t8' => ih all' t8')
theorem l_impl_sum_l3_ok : LoopOne Try.prog fnTab 98 3 l_impl_sum_l3 := lp_of (Γ := Γ1) tyTab_ok (FnL.ok fnTab_ok _ _) (LpL.ok lt1_ok) (SumL.ok tb1_ok _) mixed (fi := fi98) (by kernel_rfl) (by kernel_rfl) (by
  intro lo st out hp
  unfold l_impl_sum_l3 at hp
  split at hp
  · rename_i all t6n t7 t8 b0
    injection hp with hp
    injection hp with h1 h2
    subst h2
    exact ⟨8, 8, big, Eq.trans (i_impl_sum_l3 t6n t7 b0 big all t8) (f_impl_sum_l3 t6n t7 b0 (L_impl_sum_l3 t6n t7 b0 big all t8) h1)⟩
  · cases hp)
noncomputable def tb2 : List (Nat × (List PT → Option (Bool × AV × List Blk))) := [(109, s_math_Float32bits), (118, s_math_archFloor), (125, s_math_Float64frombits), (133, s_math_Float64bits), (139, s_math_archTrunc), (26, s_laws_sameFloat), (52, s_impl_IsFinite), (66, s_spec_l00In), (76, s_impl_within), (82, s_spec_l01Finite), (89, s_impl_isLeast), (96, s_spec_l02Least), (113, s_impl_areFinite_1)]
noncomputable def lt2 : List ((Nat × Nat) × (Nat → St → Option (Bool × LO))) := [((24, 3), l_laws_toFloat32S_l3), ((40, 2), l_laws_heldFloat32S_l2), ((62, 3), l_spec_l04Mean_l3), ((98, 3), l_impl_sum_l3)]
noncomputable def Γ2 : Ctx := ⟨tyTab, fnTab, tblSum tb2, tblLp lt2⟩
theorem tb2_ok : SumL Try.prog tb2 := SumL.cons s_math_Float32bits_ok (SumL.cons s_math_archFloor_ok (SumL.cons s_math_Float64frombits_ok (SumL.cons s_math_Float64bits_ok (SumL.cons s_math_archTrunc_ok (SumL.cons s_laws_sameFloat_ok (SumL.cons s_impl_IsFinite_ok (SumL.cons s_spec_l00In_ok (SumL.cons s_impl_within_ok (SumL.cons s_spec_l01Finite_ok (SumL.cons s_impl_isLeast_ok (SumL.cons s_spec_l02Least_ok (SumL.cons s_impl_areFinite_1_ok (SumL.nil)))))))))))))
theorem lt2_ok : LpL Try.prog fnTab lt2 := LpL.cons l_laws_toFloat32S_l3_ok (LpL.cons l_laws_heldFloat32S_l2_ok (LpL.cons l_spec_l04Mean_l3_ok (LpL.cons l_impl_sum_l3_ok (LpL.nil))))
noncomputable def s_laws_toFloat32S : List PT → Option (Bool × AV × List Blk)
  | [.one (.row 1 a_n (.fl .f32 a))] => some ((laws_toFloat32S_p a_n a), ((AV.v (TV.one (At.sl 0 0 (laws_toFloat32S_v0 a_n a) 1))), [(Blk.mk Bool.true (Body.fl FloatKind.f32 (laws_toFloat32S_v1 a_n a)))]))
  | _ => none
def o_laws_toFloat32S (a_n : Nat) (a : List Nat) : Option (Nat × (List Nat)) → Option (AV × List Blk)
  | some r => some ((AV.v (TV.one (At.sl 0 0 r.1 1))), [(Blk.mk Bool.true (Body.fl FloatKind.f32 r.2))])
  | none => none
theorem e_laws_toFloat32S (a_n : Nat) (a : List Nat) : evFn Γ2 8 8 24 (impTs 0 [.one (.row 1 a_n (.fl .f32 a))]).1 (impTs 0 [.one (.row 1 a_n (.fl .f32 a))]).2 (expo (impTs 0 [.one (.row 1 a_n (.fl .f32 a))]).2.length) = T_laws_toFloat32S a_n a (fun c0_ c1_ => some ((AV.v (TV.one (At.sl 0 0 c0_ 1))), [(Blk.mk Bool.true (Body.fl FloatKind.f32 c1_))])) := by kernel_rfl
theorem s_laws_toFloat32S_ok : SumOne Try.prog 24 s_laws_toFloat32S := sum_of (Γ := Γ2) (fuel := 8) (d := 8) tyTab_ok (FnL.ok fnTab_ok _ _) (LpL.ok lt2_ok) (SumL.ok tb2_ok _) mixed (by
  intro pts v news hp hc
  clear hc
  unfold s_laws_toFloat32S at hp
  split at hp
  · rename_i a_n a
    exact Eq.trans (Eq.trans (e_laws_toFloat32S a_n a) (T_laws_toFloat32S_nat (o_laws_toFloat32S a_n a) rfl a_n a (fun c0_ c1_ => some (c0_, c1_)))) (fin_out (o := (o_laws_toFloat32S a_n a)) (x := F_laws_toFloat32S a_n a) (d := default) (V := fun r => ((AV.v (TV.one (At.sl 0 0 r.1 1))), [(Blk.mk Bool.true (Body.fl FloatKind.f32 r.2))])) (fun r => rfl) hp)
  · cases hp)
noncomputable def s_laws_heldFloat32S : List PT → Option (Bool × AV × List Blk)
  | [.one (.row 1 a_n (.fl .f32 a)), .one (.s (.int .i64 k))] => some ((laws_heldFloat32S_p a_n a k), ((AV.v (TV.one (At.int IntKind.i64 (laws_heldFloat32S_v0 a_n a k)))), []))
  | _ => none
def o_laws_heldFloat32S (a_n : Nat) (a : List Nat) (k : Int) : Option (Int) → Option (AV × List Blk)
  | some r => some ((AV.v (TV.one (At.int IntKind.i64 r))), [])
  | none => none
theorem e_laws_heldFloat32S (a_n : Nat) (a : List Nat) (k : Int) : evFn Γ2 8 8 40 (impTs 0 [.one (.row 1 a_n (.fl .f32 a)), .one (.s (.int .i64 k))]).1 (impTs 0 [.one (.row 1 a_n (.fl .f32 a)), .one (.s (.int .i64 k))]).2 (expo (impTs 0 [.one (.row 1 a_n (.fl .f32 a)), .one (.s (.int .i64 k))]).2.length) = T_laws_heldFloat32S a_n a k (fun c0_ => some ((AV.v (TV.one (At.int IntKind.i64 c0_))), [])) := by kernel_rfl
theorem s_laws_heldFloat32S_ok : SumOne Try.prog 40 s_laws_heldFloat32S := sum_of (Γ := Γ2) (fuel := 8) (d := 8) tyTab_ok (FnL.ok fnTab_ok _ _) (LpL.ok lt2_ok) (SumL.ok tb2_ok _) mixed (by
  intro pts v news hp hc
  clear hc
  unfold s_laws_heldFloat32S at hp
  split at hp
  · rename_i a_n a k
    exact Eq.trans (Eq.trans (e_laws_heldFloat32S a_n a k) (T_laws_heldFloat32S_nat (o_laws_heldFloat32S a_n a k) rfl a_n a k (fun c0_ => some c0_))) (fin_out (o := (o_laws_heldFloat32S a_n a k)) (x := F_laws_heldFloat32S a_n a k) (d := default) (V := fun r => ((AV.v (TV.one (At.int IntKind.i64 r))), [])) (fun r => rfl) hp)
  · cases hp)
noncomputable def s_spec_l04Mean : List PT → Option (Bool × AV × List Blk)
  | [.one (.row 1 list_n (.fl .f32 list))] => some ((spec_l04Mean_p list_n list), ((AV.v (TV.one (At.flt FloatKind.f32 (spec_l04Mean_v0 list_n list)))), []))
  | _ => none
def o_spec_l04Mean (list_n : Nat) (list : List Nat) : Option (Nat) → Option (AV × List Blk)
  | some r => some ((AV.v (TV.one (At.flt FloatKind.f32 r))), [])
  | none => none
theorem e_spec_l04Mean (list_n : Nat) (list : List Nat) : evFn Γ2 8 8 62 (impTs 0 [.one (.row 1 list_n (.fl .f32 list))]).1 (impTs 0 [.one (.row 1 list_n (.fl .f32 list))]).2 (expo (impTs 0 [.one (.row 1 list_n (.fl .f32 list))]).2.length) = T_spec_l04Mean list_n list (fun c0_ => some ((AV.v (TV.one (At.flt FloatKind.f32 c0_))), [])) := by kernel_rfl
theorem s_spec_l04Mean_ok : SumOne Try.prog 62 s_spec_l04Mean := sum_of (Γ := Γ2) (fuel := 8) (d := 8) tyTab_ok (FnL.ok fnTab_ok _ _) (LpL.ok lt2_ok) (SumL.ok tb2_ok _) mixed (by
  intro pts v news hp hc
  clear hc
  unfold s_spec_l04Mean at hp
  split at hp
  · rename_i list_n list
    exact Eq.trans (Eq.trans (e_spec_l04Mean list_n list) (T_spec_l04Mean_nat (o_spec_l04Mean list_n list) rfl list_n list (fun c0_ => some c0_))) (fin_out (o := (o_spec_l04Mean list_n list)) (x := F_spec_l04Mean list_n list) (d := default) (V := fun r => ((AV.v (TV.one (At.flt FloatKind.f32 r))), [])) (fun r => rfl) hp)
  · cases hp)
noncomputable def s_impl_sum : List PT → Option (Bool × AV × List Blk)
  | [.one (.row 1 list_n (.fl .f32 list))] => some ((impl_sum_p list_n list), ((AV.v (TV.one (At.flt FloatKind.f32 (impl_sum_v0 list_n list)))), []))
  | _ => none
def o_impl_sum (list_n : Nat) (list : List Nat) : Option (Nat) → Option (AV × List Blk)
  | some r => some ((AV.v (TV.one (At.flt FloatKind.f32 r))), [])
  | none => none
theorem e_impl_sum (list_n : Nat) (list : List Nat) : evFn Γ2 8 8 98 (impTs 0 [.one (.row 1 list_n (.fl .f32 list))]).1 (impTs 0 [.one (.row 1 list_n (.fl .f32 list))]).2 (expo (impTs 0 [.one (.row 1 list_n (.fl .f32 list))]).2.length) = T_impl_sum list_n list (fun c0_ => some ((AV.v (TV.one (At.flt FloatKind.f32 c0_))), [])) := by kernel_rfl
theorem s_impl_sum_ok : SumOne Try.prog 98 s_impl_sum := sum_of (Γ := Γ2) (fuel := 8) (d := 8) tyTab_ok (FnL.ok fnTab_ok _ _) (LpL.ok lt2_ok) (SumL.ok tb2_ok _) mixed (by
  intro pts v news hp hc
  clear hc
  unfold s_impl_sum at hp
  split at hp
  · rename_i list_n list
    exact Eq.trans (Eq.trans (e_impl_sum list_n list) (T_impl_sum_nat (o_impl_sum list_n list) rfl list_n list (fun c0_ => some c0_))) (fin_out (o := (o_impl_sum list_n list)) (x := F_impl_sum list_n list) (d := default) (V := fun r => ((AV.v (TV.one (At.flt FloatKind.f32 r))), [])) (fun r => rfl) hp)
  · cases hp)
noncomputable def s_impl_areLeast_1 : List PT → Option (Bool × AV × List Blk)
  | [.one (.s (.flt .f32 x))] => some ((impl_areLeast_1_p x), ((AV.v (TV.one (At.bool (impl_areLeast_1_v0 x)))), []))
  | _ => none
def o_impl_areLeast_1 (x : Nat) : Option (Bool) → Option (AV × List Blk)
  | some r => some ((AV.v (TV.one (At.bool r))), [])
  | none => none
theorem e_impl_areLeast_1 (x : Nat) : evFn Γ2 8 8 117 (impTs 0 [.one (.s (.flt .f32 x))]).1 (impTs 0 [.one (.s (.flt .f32 x))]).2 (expo (impTs 0 [.one (.s (.flt .f32 x))]).2.length) = T_impl_areLeast_1 x (fun c0_ => some ((AV.v (TV.one (At.bool c0_))), [])) := by kernel_rfl
theorem s_impl_areLeast_1_ok : SumOne Try.prog 117 s_impl_areLeast_1 := sum_of (Γ := Γ2) (fuel := 8) (d := 8) tyTab_ok (FnL.ok fnTab_ok _ _) (LpL.ok lt2_ok) (SumL.ok tb2_ok _) mixed (by
  intro pts v news hp hc
  clear hc
  unfold s_impl_areLeast_1 at hp
  split at hp
  · rename_i x
    exact Eq.trans (Eq.trans (e_impl_areLeast_1 x) (T_impl_areLeast_1_nat (o_impl_areLeast_1 x) rfl x (fun c0_ => some c0_))) (fin_out (o := (o_impl_areLeast_1 x)) (x := F_impl_areLeast_1 x) (d := default) (V := fun r => ((AV.v (TV.one (At.bool r))), [])) (fun r => rfl) hp)
  · cases hp)
noncomputable def l_laws_eqFloat32S_l4 : Nat → St → Option (Bool × LO)
  | 2, (St.mk [(0, (AV.v (TV.one (At.vw 0 0 an 1)))), (1, (AV.v (TV.one (At.vw 1 0 bn 1)))), (5, (AV.v (TV.one (At.int IntKind.i64 i))))] [(Blk.mk Bool.false (Body.fl FloatKind.f32 b0)), (Blk.mk Bool.false (Body.fl FloatKind.f32 b1))]) => some ((laws_eqFloat32S_l4_p an bn b0 b1 i), (LO.two (laws_eqFloat32S_l4_w0 an bn b0 b1 i) (LO.one Ex.ret (St.mk [(4, (AV.v (TV.one (At.bool Bool.false))))] [(Blk.mk Bool.false (Body.fl FloatKind.f32 b0)), (Blk.mk Bool.false (Body.fl FloatKind.f32 b1))])) (LO.one (Ex.exit 0) (St.mk [(0, (AV.v (TV.one (At.vw 0 0 an 1)))), (1, (AV.v (TV.one (At.vw 1 0 bn 1)))), (5, (AV.v (TV.one (At.int IntKind.i64 (laws_eqFloat32S_l4_a1_0 an bn b0 b1 i))))), (14, (AV.v (TV.one (At.bool (laws_eqFloat32S_l4_a1_1 an bn b0 b1 i)))))] [(Blk.mk Bool.false (Body.fl FloatKind.f32 b0)), (Blk.mk Bool.false (Body.fl FloatKind.f32 b1))]))))
  | _, _ => none
def o_laws_eqFloat32S_l4 (an : Nat) (bn : Nat) (b0 : List Nat) (b1 : List Nat) : Option ((Unit) ⊕ (Int × Bool)) → Option (Ex × St)
  | none => none
  | some (Sum.inl r) => some (Ex.ret, (St.mk [(4, (AV.v (TV.one (At.bool Bool.false))))] [(Blk.mk Bool.false (Body.fl FloatKind.f32 b0)), (Blk.mk Bool.false (Body.fl FloatKind.f32 b1))]))
  | some (Sum.inr r) => some ((Ex.exit 0), (St.mk [(0, (AV.v (TV.one (At.vw 0 0 an 1)))), (1, (AV.v (TV.one (At.vw 1 0 bn 1)))), (5, (AV.v (TV.one (At.int IntKind.i64 r.1)))), (14, (AV.v (TV.one (At.bool r.2))))] [(Blk.mk Bool.false (Body.fl FloatKind.f32 b0)), (Blk.mk Bool.false (Body.fl FloatKind.f32 b1))]))
def lo_laws_eqFloat32S_l4 (an : Nat) (bn : Nat) (b0 : List Nat) (b1 : List Nat) (x : Option ((Unit) ⊕ (Int × Bool))) : LO := (LO.two (oL x) (LO.one Ex.ret (St.mk [(4, (AV.v (TV.one (At.bool Bool.false))))] [(Blk.mk Bool.false (Body.fl FloatKind.f32 b0)), (Blk.mk Bool.false (Body.fl FloatKind.f32 b1))])) (LO.one (Ex.exit 0) (St.mk [(0, (AV.v (TV.one (At.vw 0 0 an 1)))), (1, (AV.v (TV.one (At.vw 1 0 bn 1)))), (5, (AV.v (TV.one (At.int IntKind.i64 ((tR x).getD default).1)))), (14, (AV.v (TV.one (At.bool ((tR x).getD default).2))))] [(Blk.mk Bool.false (Body.fl FloatKind.f32 b0)), (Blk.mk Bool.false (Body.fl FloatKind.f32 b1))])))
theorem f_laws_eqFloat32S_l4 (an : Nat) (bn : Nat) (b0 : List Nat) (b1 : List Nat) : ∀ x : Option ((Unit) ⊕ (Int × Bool)), x.isSome = true → (o_laws_eqFloat32S_l4 an bn b0 b1) x = some (pick (lo_laws_eqFloat32S_l4 an bn b0 b1 x))
  | none, h => by cases h
  | some (Sum.inl r), _ => rfl
  | some (Sum.inr r), _ => rfl
theorem r_laws_eqFloat32S_l4 (an : Nat) (bn : Nat) (i : Int) (b0 : List Nat) (b1 : List Nat) (K : Ex → St → Option (Ex × St)) : evC (R := Ex × St) Γ2 (evFn Γ2 8 8) 27 2 fi27.nt fi27.live fi27.nl 8 (findL 4 (loopsIn fi27.code)) (St.mk [(0, (AV.v (TV.one (At.vw 0 0 an 1)))), (1, (AV.v (TV.one (At.vw 1 0 bn 1)))), (5, (AV.v (TV.one (At.int IntKind.i64 i))))] [(Blk.mk Bool.false (Body.fl FloatKind.f32 b0)), (Blk.mk Bool.false (Body.fl FloatKind.f32 b1))]) K = T_laws_eqFloat32S_l4 an bn b0 b1 i (fun i' => K .normal (St.mk [(0, (AV.v (TV.one (At.vw 0 0 an 1)))), (1, (AV.v (TV.one (At.vw 1 0 bn 1)))), (5, (AV.v (TV.one (At.int IntKind.i64 i'))))] [(Blk.mk Bool.false (Body.fl FloatKind.f32 b0)), (Blk.mk Bool.false (Body.fl FloatKind.f32 b1))])) (fun _ => K Ex.ret (St.mk [(4, (AV.v (TV.one (At.bool Bool.false))))] [(Blk.mk Bool.false (Body.fl FloatKind.f32 b0)), (Blk.mk Bool.false (Body.fl FloatKind.f32 b1))])) (fun c0_ c1_ => K (Ex.exit 0) (St.mk [(0, (AV.v (TV.one (At.vw 0 0 an 1)))), (1, (AV.v (TV.one (At.vw 1 0 bn 1)))), (5, (AV.v (TV.one (At.int IntKind.i64 c0_)))), (14, (AV.v (TV.one (At.bool c1_))))] [(Blk.mk Bool.false (Body.fl FloatKind.f32 b0)), (Blk.mk Bool.false (Body.fl FloatKind.f32 b1))])) := by kernel_rfl
theorem i_laws_eqFloat32S_l4 (an : Nat) (bn : Nat) (b0 : List Nat) (b1 : List Nat) : ∀ (n : Nat) (i : Int), iter 27 4 2 (evC (R := Ex × St) Γ2 (evFn Γ2 8 8) 27 2 fi27.nt fi27.live fi27.nl 8 (findL 4 (loopsIn fi27.code))) n (St.mk [(0, (AV.v (TV.one (At.vw 0 0 an 1)))), (1, (AV.v (TV.one (At.vw 1 0 bn 1)))), (5, (AV.v (TV.one (At.int IntKind.i64 i))))] [(Blk.mk Bool.false (Body.fl FloatKind.f32 b0)), (Blk.mk Bool.false (Body.fl FloatKind.f32 b1))]) (fun e st => some (e, st)) = (o_laws_eqFloat32S_l4 an bn b0 b1) (L_laws_eqFloat32S_l4 an bn b0 b1 n i) := by
  intro n
  induction n with
  | zero => intros; rfl
  | succ n ih =>
    intro i
    refine Eq.trans (iter_succ ..) (Eq.trans (r_laws_eqFloat32S_l4 an bn i b0 b1 (nextK 27 4 2 (evC (R := Ex × St) Γ2 (evFn Γ2 8 8) 27 2 fi27.nt fi27.live fi27.nl 8 (findL 4 (loopsIn fi27.code))) n (fun e st => some (e, st)))) (Eq.trans ?_ (T_laws_eqFloat32S_l4_nat (o_laws_eqFloat32S_l4 an bn b0 b1) rfl an bn b0 b1 i (fun i' => L_laws_eqFloat32S_l4 an bn b0 b1 n i') (fun _ => some (Sum.inl ())) (fun c0_ c1_ => some (Sum.inr (c0_, c1_))))))
    exact congrArg (fun kn_ => T_laws_eqFloat32S_l4 an bn b0 b1 i kn_ (fun _ => (o_laws_eqFloat32S_l4 an bn b0 b1) (some (Sum.inl ()))) (fun c0_ c1_ => (o_laws_eqFloat32S_l4 an bn b0 b1) (some (Sum.inr (c0_, c1_))))) (funext fun i' => ih i')
theorem l_laws_eqFloat32S_l4_ok : LoopOne Try.prog fnTab 27 4 l_laws_eqFloat32S_l4 := lp_of (Γ := Γ2) tyTab_ok (FnL.ok fnTab_ok _ _) (LpL.ok lt2_ok) (SumL.ok tb2_ok _) mixed (fi := fi27) (by kernel_rfl) (by kernel_rfl) (by
  intro lo st out hp
  unfold l_laws_eqFloat32S_l4 at hp
  split at hp
  · rename_i an bn i b0 b1
    injection hp with hp
    injection hp with h1 h2
    subst h2
    exact ⟨8, 8, big, Eq.trans (i_laws_eqFloat32S_l4 an bn b0 b1 big i) (f_laws_eqFloat32S_l4 an bn b0 b1 (L_laws_eqFloat32S_l4 an bn b0 b1 big i) h1)⟩
  · cases hp)
noncomputable def tb3 : List (Nat × (List PT → Option (Bool × AV × List Blk))) := [(109, s_math_Float32bits), (118, s_math_archFloor), (125, s_math_Float64frombits), (133, s_math_Float64bits), (139, s_math_archTrunc), (26, s_laws_sameFloat), (52, s_impl_IsFinite), (66, s_spec_l00In), (76, s_impl_within), (82, s_spec_l01Finite), (89, s_impl_isLeast), (96, s_spec_l02Least), (113, s_impl_areFinite_1), (24, s_laws_toFloat32S), (40, s_laws_heldFloat32S), (62, s_spec_l04Mean), (98, s_impl_sum), (117, s_impl_areLeast_1)]
noncomputable def lt3 : List ((Nat × Nat) × (Nat → St → Option (Bool × LO))) := [((24, 3), l_laws_toFloat32S_l3), ((40, 2), l_laws_heldFloat32S_l2), ((62, 3), l_spec_l04Mean_l3), ((98, 3), l_impl_sum_l3), ((27, 4), l_laws_eqFloat32S_l4)]
noncomputable def Γ3 : Ctx := ⟨tyTab, fnTab, tblSum tb3, tblLp lt3⟩
theorem tb3_ok : SumL Try.prog tb3 := SumL.cons s_math_Float32bits_ok (SumL.cons s_math_archFloor_ok (SumL.cons s_math_Float64frombits_ok (SumL.cons s_math_Float64bits_ok (SumL.cons s_math_archTrunc_ok (SumL.cons s_laws_sameFloat_ok (SumL.cons s_impl_IsFinite_ok (SumL.cons s_spec_l00In_ok (SumL.cons s_impl_within_ok (SumL.cons s_spec_l01Finite_ok (SumL.cons s_impl_isLeast_ok (SumL.cons s_spec_l02Least_ok (SumL.cons s_impl_areFinite_1_ok (SumL.cons s_laws_toFloat32S_ok (SumL.cons s_laws_heldFloat32S_ok (SumL.cons s_spec_l04Mean_ok (SumL.cons s_impl_sum_ok (SumL.cons s_impl_areLeast_1_ok (SumL.nil))))))))))))))))))
theorem lt3_ok : LpL Try.prog fnTab lt3 := LpL.cons l_laws_toFloat32S_l3_ok (LpL.cons l_laws_heldFloat32S_l2_ok (LpL.cons l_spec_l04Mean_l3_ok (LpL.cons l_impl_sum_l3_ok (LpL.cons l_laws_eqFloat32S_l4_ok (LpL.nil)))))
noncomputable def s_laws_eqFloat32S : List PT → Option (Bool × AV × List Blk)
  | [.one (.row 1 a_n (.fl .f32 a)), .one (.row 1 b_n (.fl .f32 b))] => some ((laws_eqFloat32S_p a_n a b_n b), ((AV.v (TV.one (At.bool (laws_eqFloat32S_v0 a_n a b_n b)))), []))
  | _ => none
def o_laws_eqFloat32S (a_n : Nat) (a : List Nat) (b_n : Nat) (b : List Nat) : Option (Bool) → Option (AV × List Blk)
  | some r => some ((AV.v (TV.one (At.bool r))), [])
  | none => none
theorem e_laws_eqFloat32S (a_n : Nat) (a : List Nat) (b_n : Nat) (b : List Nat) : evFn Γ3 8 8 27 (impTs 0 [.one (.row 1 a_n (.fl .f32 a)), .one (.row 1 b_n (.fl .f32 b))]).1 (impTs 0 [.one (.row 1 a_n (.fl .f32 a)), .one (.row 1 b_n (.fl .f32 b))]).2 (expo (impTs 0 [.one (.row 1 a_n (.fl .f32 a)), .one (.row 1 b_n (.fl .f32 b))]).2.length) = T_laws_eqFloat32S a_n a b_n b (fun c0_ => some ((AV.v (TV.one (At.bool c0_))), [])) := by kernel_rfl
theorem s_laws_eqFloat32S_ok : SumOne Try.prog 27 s_laws_eqFloat32S := sum_of (Γ := Γ3) (fuel := 8) (d := 8) tyTab_ok (FnL.ok fnTab_ok _ _) (LpL.ok lt3_ok) (SumL.ok tb3_ok _) mixed (by
  intro pts v news hp hc
  clear hc
  unfold s_laws_eqFloat32S at hp
  split at hp
  · rename_i a_n a b_n b
    exact Eq.trans (Eq.trans (e_laws_eqFloat32S a_n a b_n b) (T_laws_eqFloat32S_nat (o_laws_eqFloat32S a_n a b_n b) rfl a_n a b_n b (fun c0_ => some c0_))) (fin_out (o := (o_laws_eqFloat32S a_n a b_n b)) (x := F_laws_eqFloat32S a_n a b_n b) (d := default) (V := fun r => ((AV.v (TV.one (At.bool r))), [])) (fun r => rfl) hp)
  · cases hp)
noncomputable def s_impl_meanOf : List PT → Option (Bool × AV × List Blk)
  | [.one (.row 1 list_n (.fl .f32 list))] => some ((impl_meanOf_p list_n list), ((AV.v (TV.one (At.flt FloatKind.f32 (impl_meanOf_v0 list_n list)))), []))
  | _ => none
def o_impl_meanOf (list_n : Nat) (list : List Nat) : Option (Nat) → Option (AV × List Blk)
  | some r => some ((AV.v (TV.one (At.flt FloatKind.f32 r))), [])
  | none => none
theorem e_impl_meanOf (list_n : Nat) (list : List Nat) : evFn Γ3 8 8 64 (impTs 0 [.one (.row 1 list_n (.fl .f32 list))]).1 (impTs 0 [.one (.row 1 list_n (.fl .f32 list))]).2 (expo (impTs 0 [.one (.row 1 list_n (.fl .f32 list))]).2.length) = T_impl_meanOf list_n list (fun c0_ => some ((AV.v (TV.one (At.flt FloatKind.f32 c0_))), [])) := by kernel_rfl
theorem s_impl_meanOf_ok : SumOne Try.prog 64 s_impl_meanOf := sum_of (Γ := Γ3) (fuel := 8) (d := 8) tyTab_ok (FnL.ok fnTab_ok _ _) (LpL.ok lt3_ok) (SumL.ok tb3_ok _) mixed (by
  intro pts v news hp hc
  clear hc
  unfold s_impl_meanOf at hp
  split at hp
  · rename_i list_n list
    exact Eq.trans (Eq.trans (e_impl_meanOf list_n list) (T_impl_meanOf_nat (o_impl_meanOf list_n list) rfl list_n list (fun c0_ => some c0_))) (fin_out (o := (o_impl_meanOf list_n list)) (x := F_impl_meanOf list_n list) (d := default) (V := fun r => ((AV.v (TV.one (At.flt FloatKind.f32 r))), [])) (fun r => rfl) hp)
  · cases hp)
noncomputable def l_spec_l04Winds_l2 : Nat → St → Option (Bool × LO)
  | 1, (St.mk [(0, (AV.v (TV.one (At.vw 0 0 listn 1)))), (3, (AV.v (TV.one (At.int IntKind.i64 i))))] [(Blk.mk Bool.false (Body.fl FloatKind.f32 b0))]) => some ((spec_l04Winds_l2_p listn b0 i), (LO.two (spec_l04Winds_l2_w0 listn b0 i) (LO.one Ex.ret (St.mk [(2, (AV.v (TV.one (At.bool Bool.false))))] [(Blk.mk Bool.false (Body.fl FloatKind.f32 b0))])) (LO.one (Ex.exit 0) (St.mk [(0, (AV.v (TV.one (At.vw 0 0 listn 1)))), (3, (AV.v (TV.one (At.int IntKind.i64 (spec_l04Winds_l2_a1_0 listn b0 i))))), (12, (AV.v (TV.one (At.bool (spec_l04Winds_l2_a1_1 listn b0 i)))))] [(Blk.mk Bool.false (Body.fl FloatKind.f32 b0))]))))
  | _, _ => none
def o_spec_l04Winds_l2 (listn : Nat) (b0 : List Nat) : Option ((Unit) ⊕ (Int × Bool)) → Option (Ex × St)
  | none => none
  | some (Sum.inl r) => some (Ex.ret, (St.mk [(2, (AV.v (TV.one (At.bool Bool.false))))] [(Blk.mk Bool.false (Body.fl FloatKind.f32 b0))]))
  | some (Sum.inr r) => some ((Ex.exit 0), (St.mk [(0, (AV.v (TV.one (At.vw 0 0 listn 1)))), (3, (AV.v (TV.one (At.int IntKind.i64 r.1)))), (12, (AV.v (TV.one (At.bool r.2))))] [(Blk.mk Bool.false (Body.fl FloatKind.f32 b0))]))
def lo_spec_l04Winds_l2 (listn : Nat) (b0 : List Nat) (x : Option ((Unit) ⊕ (Int × Bool))) : LO := (LO.two (oL x) (LO.one Ex.ret (St.mk [(2, (AV.v (TV.one (At.bool Bool.false))))] [(Blk.mk Bool.false (Body.fl FloatKind.f32 b0))])) (LO.one (Ex.exit 0) (St.mk [(0, (AV.v (TV.one (At.vw 0 0 listn 1)))), (3, (AV.v (TV.one (At.int IntKind.i64 ((tR x).getD default).1)))), (12, (AV.v (TV.one (At.bool ((tR x).getD default).2))))] [(Blk.mk Bool.false (Body.fl FloatKind.f32 b0))])))
theorem f_spec_l04Winds_l2 (listn : Nat) (b0 : List Nat) : ∀ x : Option ((Unit) ⊕ (Int × Bool)), x.isSome = true → (o_spec_l04Winds_l2 listn b0) x = some (pick (lo_spec_l04Winds_l2 listn b0 x))
  | none, h => by cases h
  | some (Sum.inl r), _ => rfl
  | some (Sum.inr r), _ => rfl
theorem r_spec_l04Winds_l2 (listn : Nat) (i : Int) (b0 : List Nat) (K : Ex → St → Option (Ex × St)) : evC (R := Ex × St) Γ3 (evFn Γ3 8 8) 60 1 fi60.nt fi60.live fi60.nl 8 (findL 2 (loopsIn fi60.code)) (St.mk [(0, (AV.v (TV.one (At.vw 0 0 listn 1)))), (3, (AV.v (TV.one (At.int IntKind.i64 i))))] [(Blk.mk Bool.false (Body.fl FloatKind.f32 b0))]) K = T_spec_l04Winds_l2 listn b0 i (fun i' => K .normal (St.mk [(0, (AV.v (TV.one (At.vw 0 0 listn 1)))), (3, (AV.v (TV.one (At.int IntKind.i64 i'))))] [(Blk.mk Bool.false (Body.fl FloatKind.f32 b0))])) (fun _ => K Ex.ret (St.mk [(2, (AV.v (TV.one (At.bool Bool.false))))] [(Blk.mk Bool.false (Body.fl FloatKind.f32 b0))])) (fun c0_ c1_ => K (Ex.exit 0) (St.mk [(0, (AV.v (TV.one (At.vw 0 0 listn 1)))), (3, (AV.v (TV.one (At.int IntKind.i64 c0_)))), (12, (AV.v (TV.one (At.bool c1_))))] [(Blk.mk Bool.false (Body.fl FloatKind.f32 b0))])) := by kernel_rfl
theorem i_spec_l04Winds_l2 (listn : Nat) (b0 : List Nat) : ∀ (n : Nat) (i : Int), iter 60 2 1 (evC (R := Ex × St) Γ3 (evFn Γ3 8 8) 60 1 fi60.nt fi60.live fi60.nl 8 (findL 2 (loopsIn fi60.code))) n (St.mk [(0, (AV.v (TV.one (At.vw 0 0 listn 1)))), (3, (AV.v (TV.one (At.int IntKind.i64 i))))] [(Blk.mk Bool.false (Body.fl FloatKind.f32 b0))]) (fun e st => some (e, st)) = (o_spec_l04Winds_l2 listn b0) (L_spec_l04Winds_l2 listn b0 n i) := by
  intro n
  induction n with
  | zero => intros; rfl
  | succ n ih =>
    intro i
    refine Eq.trans (iter_succ ..) (Eq.trans (r_spec_l04Winds_l2 listn i b0 (nextK 60 2 1 (evC (R := Ex × St) Γ3 (evFn Γ3 8 8) 60 1 fi60.nt fi60.live fi60.nl 8 (findL 2 (loopsIn fi60.code))) n (fun e st => some (e, st)))) (Eq.trans ?_ (T_spec_l04Winds_l2_nat (o_spec_l04Winds_l2 listn b0) rfl listn b0 i (fun i' => L_spec_l04Winds_l2 listn b0 n i') (fun _ => some (Sum.inl ())) (fun c0_ c1_ => some (Sum.inr (c0_, c1_))))))
    exact congrArg (fun kn_ => T_spec_l04Winds_l2 listn b0 i kn_ (fun _ => (o_spec_l04Winds_l2 listn b0) (some (Sum.inl ()))) (fun c0_ c1_ => (o_spec_l04Winds_l2 listn b0) (some (Sum.inr (c0_, c1_))))) (funext fun i' => ih i')
theorem l_spec_l04Winds_l2_ok : LoopOne Try.prog fnTab 60 2 l_spec_l04Winds_l2 := lp_of (Γ := Γ3) tyTab_ok (FnL.ok fnTab_ok _ _) (LpL.ok lt3_ok) (SumL.ok tb3_ok _) mixed (fi := fi60) (by kernel_rfl) (by kernel_rfl) (by
  intro lo st out hp
  unfold l_spec_l04Winds_l2 at hp
  split at hp
  · rename_i listn i b0
    injection hp with hp
    injection hp with h1 h2
    subst h2
    exact ⟨8, 8, big, Eq.trans (i_spec_l04Winds_l2 listn b0 big i) (f_spec_l04Winds_l2 listn b0 (L_spec_l04Winds_l2 listn b0 big i) h1)⟩
  · cases hp)
noncomputable def l_slices_IndexFunc_sf32_f32_areFinite_1_l2 : Nat → St → Option (Bool × LO)
  | 1, (St.mk [(0, (AV.v (TV.one (At.vw 0 0 sn 1)))), (1, (AV.v (TV.one (At.fn 113 [])))), (7, (AV.v (TV.one (At.int IntKind.i64 t7)))), (8, (AV.v (TV.one (At.int IntKind.i64 t8))))] [(Blk.mk Bool.false (Body.fl FloatKind.f32 b0))]) => some ((slices_IndexFunc_sf32_f32_areFinite_1_l2_p sn t7 b0 t8), (LO.two (slices_IndexFunc_sf32_f32_areFinite_1_l2_w0 sn t7 b0 t8) (LO.one Ex.ret (St.mk [(4, (AV.v (TV.one (At.int IntKind.i64 (slices_IndexFunc_sf32_f32_areFinite_1_l2_a0_0 sn t7 b0 t8)))))] [(Blk.mk Bool.false (Body.fl FloatKind.f32 b0))])) (LO.one (Ex.exit 0) (St.mk [(0, (AV.v (TV.one (At.vw 0 0 sn 1)))), (1, (AV.v (TV.one (At.fn 113 [])))), (7, (AV.v (TV.one (At.int IntKind.i64 t7)))), (8, (AV.v (TV.one (At.int IntKind.i64 (slices_IndexFunc_sf32_f32_areFinite_1_l2_a1_0 sn t7 b0 t8))))), (9, (AV.v (TV.one (At.bool (slices_IndexFunc_sf32_f32_areFinite_1_l2_a1_1 sn t7 b0 t8)))))] [(Blk.mk Bool.false (Body.fl FloatKind.f32 b0))]))))
  | _, _ => none
def o_slices_IndexFunc_sf32_f32_areFinite_1_l2 (sn : Nat) (t7 : Int) (b0 : List Nat) : Option ((Int) ⊕ (Int × Bool)) → Option (Ex × St)
  | none => none
  | some (Sum.inl r) => some (Ex.ret, (St.mk [(4, (AV.v (TV.one (At.int IntKind.i64 r))))] [(Blk.mk Bool.false (Body.fl FloatKind.f32 b0))]))
  | some (Sum.inr r) => some ((Ex.exit 0), (St.mk [(0, (AV.v (TV.one (At.vw 0 0 sn 1)))), (1, (AV.v (TV.one (At.fn 113 [])))), (7, (AV.v (TV.one (At.int IntKind.i64 t7)))), (8, (AV.v (TV.one (At.int IntKind.i64 r.1)))), (9, (AV.v (TV.one (At.bool r.2))))] [(Blk.mk Bool.false (Body.fl FloatKind.f32 b0))]))
def lo_slices_IndexFunc_sf32_f32_areFinite_1_l2 (sn : Nat) (t7 : Int) (b0 : List Nat) (x : Option ((Int) ⊕ (Int × Bool))) : LO := (LO.two (oL x) (LO.one Ex.ret (St.mk [(4, (AV.v (TV.one (At.int IntKind.i64 ((tL x).getD default)))))] [(Blk.mk Bool.false (Body.fl FloatKind.f32 b0))])) (LO.one (Ex.exit 0) (St.mk [(0, (AV.v (TV.one (At.vw 0 0 sn 1)))), (1, (AV.v (TV.one (At.fn 113 [])))), (7, (AV.v (TV.one (At.int IntKind.i64 t7)))), (8, (AV.v (TV.one (At.int IntKind.i64 ((tR x).getD default).1)))), (9, (AV.v (TV.one (At.bool ((tR x).getD default).2))))] [(Blk.mk Bool.false (Body.fl FloatKind.f32 b0))])))
theorem f_slices_IndexFunc_sf32_f32_areFinite_1_l2 (sn : Nat) (t7 : Int) (b0 : List Nat) : ∀ x : Option ((Int) ⊕ (Int × Bool)), x.isSome = true → (o_slices_IndexFunc_sf32_f32_areFinite_1_l2 sn t7 b0) x = some (pick (lo_slices_IndexFunc_sf32_f32_areFinite_1_l2 sn t7 b0 x))
  | none, h => by cases h
  | some (Sum.inl r), _ => rfl
  | some (Sum.inr r), _ => rfl
theorem r_slices_IndexFunc_sf32_f32_areFinite_1_l2 (sn : Nat) (t7 : Int) (t8 : Int) (b0 : List Nat) (K : Ex → St → Option (Ex × St)) : evC (R := Ex × St) Γ3 (evFn Γ3 8 8) 116 1 fi116.nt fi116.live fi116.nl 8 (findL 2 (loopsIn fi116.code)) (St.mk [(0, (AV.v (TV.one (At.vw 0 0 sn 1)))), (1, (AV.v (TV.one (At.fn 113 [])))), (7, (AV.v (TV.one (At.int IntKind.i64 t7)))), (8, (AV.v (TV.one (At.int IntKind.i64 t8))))] [(Blk.mk Bool.false (Body.fl FloatKind.f32 b0))]) K = T_slices_IndexFunc_sf32_f32_areFinite_1_l2 sn t7 b0 t8 (fun t8' => K .normal (St.mk [(0, (AV.v (TV.one (At.vw 0 0 sn 1)))), (1, (AV.v (TV.one (At.fn 113 [])))), (7, (AV.v (TV.one (At.int IntKind.i64 t7)))), (8, (AV.v (TV.one (At.int IntKind.i64 t8'))))] [(Blk.mk Bool.false (Body.fl FloatKind.f32 b0))])) (fun c0_ => K Ex.ret (St.mk [(4, (AV.v (TV.one (At.int IntKind.i64 c0_))))] [(Blk.mk Bool.false (Body.fl FloatKind.f32 b0))])) (fun c0_ c1_ => K (Ex.exit 0) (St.mk [(0, (AV.v (TV.one (At.vw 0 0 sn 1)))), (1, (AV.v (TV.one (At.fn 113 [])))), (7, (AV.v (TV.one (At.int IntKind.i64 t7)))), (8, (AV.v (TV.one (At.int IntKind.i64 c0_)))), (9, (AV.v (TV.one (At.bool c1_))))] [(Blk.mk Bool.false (Body.fl FloatKind.f32 b0))])) := by kernel_rfl
theorem i_slices_IndexFunc_sf32_f32_areFinite_1_l2 (sn : Nat) (t7 : Int) (b0 : List Nat) : ∀ (n : Nat) (t8 : Int), iter 116 2 1 (evC (R := Ex × St) Γ3 (evFn Γ3 8 8) 116 1 fi116.nt fi116.live fi116.nl 8 (findL 2 (loopsIn fi116.code))) n (St.mk [(0, (AV.v (TV.one (At.vw 0 0 sn 1)))), (1, (AV.v (TV.one (At.fn 113 [])))), (7, (AV.v (TV.one (At.int IntKind.i64 t7)))), (8, (AV.v (TV.one (At.int IntKind.i64 t8))))] [(Blk.mk Bool.false (Body.fl FloatKind.f32 b0))]) (fun e st => some (e, st)) = (o_slices_IndexFunc_sf32_f32_areFinite_1_l2 sn t7 b0) (L_slices_IndexFunc_sf32_f32_areFinite_1_l2 sn t7 b0 n t8) := by
  intro n
  induction n with
  | zero => intros; rfl
  | succ n ih =>
    intro t8
    refine Eq.trans (iter_succ ..) (Eq.trans (r_slices_IndexFunc_sf32_f32_areFinite_1_l2 sn t7 t8 b0 (nextK 116 2 1 (evC (R := Ex × St) Γ3 (evFn Γ3 8 8) 116 1 fi116.nt fi116.live fi116.nl 8 (findL 2 (loopsIn fi116.code))) n (fun e st => some (e, st)))) (Eq.trans ?_ (T_slices_IndexFunc_sf32_f32_areFinite_1_l2_nat (o_slices_IndexFunc_sf32_f32_areFinite_1_l2 sn t7 b0) rfl sn t7 b0 t8 (fun t8' => L_slices_IndexFunc_sf32_f32_areFinite_1_l2 sn t7 b0 n t8') (fun c0_ => some (Sum.inl c0_)) (fun c0_ c1_ => some (Sum.inr (c0_, c1_))))))
    exact congrArg (fun kn_ => T_slices_IndexFunc_sf32_f32_areFinite_1_l2 sn t7 b0 t8 kn_ (fun c0_ => (o_slices_IndexFunc_sf32_f32_areFinite_1_l2 sn t7 b0) (some (Sum.inl c0_))) (fun c0_ c1_ => (o_slices_IndexFunc_sf32_f32_areFinite_1_l2 sn t7 b0) (some (Sum.inr (c0_, c1_))))) (funext fun t8' => ih t8')
theorem l_slices_IndexFunc_sf32_f32_areFinite_1_l2_ok : LoopOne Try.prog fnTab 116 2 l_slices_IndexFunc_sf32_f32_areFinite_1_l2 := lp_of (Γ := Γ3) tyTab_ok (FnL.ok fnTab_ok _ _) (LpL.ok lt3_ok) (SumL.ok tb3_ok _) mixed (fi := fi116) (by kernel_rfl) (by kernel_rfl) (by
  intro lo st out hp
  unfold l_slices_IndexFunc_sf32_f32_areFinite_1_l2 at hp
  split at hp
  · rename_i sn t7 t8 b0
    injection hp with hp
    injection hp with h1 h2
    subst h2
    exact ⟨8, 8, big, Eq.trans (i_slices_IndexFunc_sf32_f32_areFinite_1_l2 sn t7 b0 big t8) (f_slices_IndexFunc_sf32_f32_areFinite_1_l2 sn t7 b0 (L_slices_IndexFunc_sf32_f32_areFinite_1_l2 sn t7 b0 big t8) h1)⟩
  · cases hp)
noncomputable def tb4 : List (Nat × (List PT → Option (Bool × AV × List Blk))) := [(109, s_math_Float32bits), (118, s_math_archFloor), (125, s_math_Float64frombits), (133, s_math_Float64bits), (139, s_math_archTrunc), (26, s_laws_sameFloat), (52, s_impl_IsFinite), (66, s_spec_l00In), (76, s_impl_within), (82, s_spec_l01Finite), (89, s_impl_isLeast), (96, s_spec_l02Least), (113, s_impl_areFinite_1), (24, s_laws_toFloat32S), (40, s_laws_heldFloat32S), (62, s_spec_l04Mean), (98, s_impl_sum), (117, s_impl_areLeast_1), (27, s_laws_eqFloat32S), (64, s_impl_meanOf)]
noncomputable def lt4 : List ((Nat × Nat) × (Nat → St → Option (Bool × LO))) := [((24, 3), l_laws_toFloat32S_l3), ((40, 2), l_laws_heldFloat32S_l2), ((62, 3), l_spec_l04Mean_l3), ((98, 3), l_impl_sum_l3), ((27, 4), l_laws_eqFloat32S_l4), ((60, 2), l_spec_l04Winds_l2), ((116, 2), l_slices_IndexFunc_sf32_f32_areFinite_1_l2)]
noncomputable def Γ4 : Ctx := ⟨tyTab, fnTab, tblSum tb4, tblLp lt4⟩
theorem tb4_ok : SumL Try.prog tb4 := SumL.cons s_math_Float32bits_ok (SumL.cons s_math_archFloor_ok (SumL.cons s_math_Float64frombits_ok (SumL.cons s_math_Float64bits_ok (SumL.cons s_math_archTrunc_ok (SumL.cons s_laws_sameFloat_ok (SumL.cons s_impl_IsFinite_ok (SumL.cons s_spec_l00In_ok (SumL.cons s_impl_within_ok (SumL.cons s_spec_l01Finite_ok (SumL.cons s_impl_isLeast_ok (SumL.cons s_spec_l02Least_ok (SumL.cons s_impl_areFinite_1_ok (SumL.cons s_laws_toFloat32S_ok (SumL.cons s_laws_heldFloat32S_ok (SumL.cons s_spec_l04Mean_ok (SumL.cons s_impl_sum_ok (SumL.cons s_impl_areLeast_1_ok (SumL.cons s_laws_eqFloat32S_ok (SumL.cons s_impl_meanOf_ok (SumL.nil))))))))))))))))))))
theorem lt4_ok : LpL Try.prog fnTab lt4 := LpL.cons l_laws_toFloat32S_l3_ok (LpL.cons l_laws_heldFloat32S_l2_ok (LpL.cons l_spec_l04Mean_l3_ok (LpL.cons l_impl_sum_l3_ok (LpL.cons l_laws_eqFloat32S_l4_ok (LpL.cons l_spec_l04Winds_l2_ok (LpL.cons l_slices_IndexFunc_sf32_f32_areFinite_1_l2_ok (LpL.nil)))))))
noncomputable def s_spec_l04Winds : List PT → Option (Bool × AV × List Blk)
  | [.one (.row 1 list_n (.fl .f32 list))] => some ((spec_l04Winds_p list_n list), ((AV.v (TV.one (At.bool (spec_l04Winds_v0 list_n list)))), []))
  | _ => none
def o_spec_l04Winds (list_n : Nat) (list : List Nat) : Option (Bool) → Option (AV × List Blk)
  | some r => some ((AV.v (TV.one (At.bool r))), [])
  | none => none
theorem e_spec_l04Winds (list_n : Nat) (list : List Nat) : evFn Γ4 8 8 60 (impTs 0 [.one (.row 1 list_n (.fl .f32 list))]).1 (impTs 0 [.one (.row 1 list_n (.fl .f32 list))]).2 (expo (impTs 0 [.one (.row 1 list_n (.fl .f32 list))]).2.length) = T_spec_l04Winds list_n list (fun c0_ => some ((AV.v (TV.one (At.bool c0_))), [])) := by kernel_rfl
theorem s_spec_l04Winds_ok : SumOne Try.prog 60 s_spec_l04Winds := sum_of (Γ := Γ4) (fuel := 8) (d := 8) tyTab_ok (FnL.ok fnTab_ok _ _) (LpL.ok lt4_ok) (SumL.ok tb4_ok _) mixed (by
  intro pts v news hp hc
  clear hc
  unfold s_spec_l04Winds at hp
  split at hp
  · rename_i list_n list
    exact Eq.trans (Eq.trans (e_spec_l04Winds list_n list) (T_spec_l04Winds_nat (o_spec_l04Winds list_n list) rfl list_n list (fun c0_ => some c0_))) (fin_out (o := (o_spec_l04Winds list_n list)) (x := F_spec_l04Winds list_n list) (d := default) (V := fun r => ((AV.v (TV.one (At.bool r))), [])) (fun r => rfl) hp)
  · cases hp)
noncomputable def s_slices_IndexFunc_sf32_f32_areFinite_1 : List PT → Option (Bool × AV × List Blk)
  | [.one (.row 1 s_n (.fl .f32 s)), .fn 113 []] => some ((slices_IndexFunc_sf32_f32_areFinite_1_p s_n s), ((AV.v (TV.one (At.int IntKind.i64 (slices_IndexFunc_sf32_f32_areFinite_1_v0 s_n s)))), []))
  | _ => none
def o_slices_IndexFunc_sf32_f32_areFinite_1 (s_n : Nat) (s : List Nat) : Option (Int) → Option (AV × List Blk)
  | some r => some ((AV.v (TV.one (At.int IntKind.i64 r))), [])
  | none => none
theorem e_slices_IndexFunc_sf32_f32_areFinite_1 (s_n : Nat) (s : List Nat) : evFn Γ4 8 8 116 (impTs 0 [.one (.row 1 s_n (.fl .f32 s)), .fn 113 []]).1 (impTs 0 [.one (.row 1 s_n (.fl .f32 s)), .fn 113 []]).2 (expo (impTs 0 [.one (.row 1 s_n (.fl .f32 s)), .fn 113 []]).2.length) = T_slices_IndexFunc_sf32_f32_areFinite_1 s_n s (fun c0_ => some ((AV.v (TV.one (At.int IntKind.i64 c0_))), [])) := by kernel_rfl
theorem s_slices_IndexFunc_sf32_f32_areFinite_1_ok : SumOne Try.prog 116 s_slices_IndexFunc_sf32_f32_areFinite_1 := sum_of (Γ := Γ4) (fuel := 8) (d := 8) tyTab_ok (FnL.ok fnTab_ok _ _) (LpL.ok lt4_ok) (SumL.ok tb4_ok _) mixed (by
  intro pts v news hp hc
  clear hc
  unfold s_slices_IndexFunc_sf32_f32_areFinite_1 at hp
  split at hp
  · rename_i s_n s
    exact Eq.trans (Eq.trans (e_slices_IndexFunc_sf32_f32_areFinite_1 s_n s) (T_slices_IndexFunc_sf32_f32_areFinite_1_nat (o_slices_IndexFunc_sf32_f32_areFinite_1 s_n s) rfl s_n s (fun c0_ => some c0_))) (fin_out (o := (o_slices_IndexFunc_sf32_f32_areFinite_1 s_n s)) (x := F_slices_IndexFunc_sf32_f32_areFinite_1 s_n s) (d := default) (V := fun r => ((AV.v (TV.one (At.int IntKind.i64 r))), [])) (fun r => rfl) hp)
  · cases hp)
noncomputable def l_spec_l04Smooth_l3 : Nat → St → Option (Bool × LO)
  | 1, (St.mk [(0, (AV.v (TV.one (At.vw 0 0 listn 1)))), (1, (AV.v (TV.one (At.int IntKind.i64 window)))), (6, (AV.v (TV.one (At.sl 1 0 outn 1)))), (7, (AV.v (TV.one (At.int IntKind.i64 i))))] [(Blk.mk Bool.false (Body.fl FloatKind.f32 b0)), (Blk.mk Bool.true (Body.fl FloatKind.f32 b1))]) => some ((spec_l04Smooth_l3_p listn window b0 outn i b1), (LO.two (spec_l04Smooth_l3_w0 listn window b0 outn i b1) (LO.one Ex.ret (St.mk [(4, (AV.v (TV.one At.nilsl))), (5, (AV.v (TV.one (At.bool Bool.false))))] [(Blk.mk Bool.false (Body.fl FloatKind.f32 b0))])) (LO.one (Ex.exit 0) (St.mk [(0, (AV.v (TV.one (At.vw 0 0 listn 1)))), (1, (AV.v (TV.one (At.int IntKind.i64 window)))), (6, (AV.v (TV.one (At.sl 1 0 (spec_l04Smooth_l3_a1_0 listn window b0 outn i b1) 1)))), (7, (AV.v (TV.one (At.int IntKind.i64 (spec_l04Smooth_l3_a1_1 listn window b0 outn i b1))))), (15, (AV.v (TV.one (At.bool (spec_l04Smooth_l3_a1_2 listn window b0 outn i b1)))))] [(Blk.mk Bool.false (Body.fl FloatKind.f32 b0)), (Blk.mk Bool.true (Body.fl FloatKind.f32 (spec_l04Smooth_l3_a1_3 listn window b0 outn i b1)))]))))
  | _, _ => none
def o_spec_l04Smooth_l3 (listn : Nat) (window : Int) (b0 : List Nat) : Option ((Unit) ⊕ (Nat × Int × Bool × (List Nat))) → Option (Ex × St)
  | none => none
  | some (Sum.inl r) => some (Ex.ret, (St.mk [(4, (AV.v (TV.one At.nilsl))), (5, (AV.v (TV.one (At.bool Bool.false))))] [(Blk.mk Bool.false (Body.fl FloatKind.f32 b0))]))
  | some (Sum.inr r) => some ((Ex.exit 0), (St.mk [(0, (AV.v (TV.one (At.vw 0 0 listn 1)))), (1, (AV.v (TV.one (At.int IntKind.i64 window)))), (6, (AV.v (TV.one (At.sl 1 0 r.1 1)))), (7, (AV.v (TV.one (At.int IntKind.i64 r.2.1)))), (15, (AV.v (TV.one (At.bool r.2.2.1))))] [(Blk.mk Bool.false (Body.fl FloatKind.f32 b0)), (Blk.mk Bool.true (Body.fl FloatKind.f32 r.2.2.2))]))
def lo_spec_l04Smooth_l3 (listn : Nat) (window : Int) (b0 : List Nat) (x : Option ((Unit) ⊕ (Nat × Int × Bool × (List Nat)))) : LO := (LO.two (oL x) (LO.one Ex.ret (St.mk [(4, (AV.v (TV.one At.nilsl))), (5, (AV.v (TV.one (At.bool Bool.false))))] [(Blk.mk Bool.false (Body.fl FloatKind.f32 b0))])) (LO.one (Ex.exit 0) (St.mk [(0, (AV.v (TV.one (At.vw 0 0 listn 1)))), (1, (AV.v (TV.one (At.int IntKind.i64 window)))), (6, (AV.v (TV.one (At.sl 1 0 ((tR x).getD default).1 1)))), (7, (AV.v (TV.one (At.int IntKind.i64 ((tR x).getD default).2.1)))), (15, (AV.v (TV.one (At.bool ((tR x).getD default).2.2.1))))] [(Blk.mk Bool.false (Body.fl FloatKind.f32 b0)), (Blk.mk Bool.true (Body.fl FloatKind.f32 ((tR x).getD default).2.2.2))])))
theorem f_spec_l04Smooth_l3 (listn : Nat) (window : Int) (b0 : List Nat) : ∀ x : Option ((Unit) ⊕ (Nat × Int × Bool × (List Nat))), x.isSome = true → (o_spec_l04Smooth_l3 listn window b0) x = some (pick (lo_spec_l04Smooth_l3 listn window b0 x))
  | none, h => by cases h
  | some (Sum.inl r), _ => rfl
  | some (Sum.inr r), _ => rfl
theorem r_spec_l04Smooth_l3 (listn : Nat) (window : Int) (outn : Nat) (i : Int) (b0 : List Nat) (b1 : List Nat) (K : Ex → St → Option (Ex × St)) : evC (R := Ex × St) Γ4 (evFn Γ4 8 8) 75 1 fi75.nt fi75.live fi75.nl 8 (findL 3 (loopsIn fi75.code)) (St.mk [(0, (AV.v (TV.one (At.vw 0 0 listn 1)))), (1, (AV.v (TV.one (At.int IntKind.i64 window)))), (6, (AV.v (TV.one (At.sl 1 0 outn 1)))), (7, (AV.v (TV.one (At.int IntKind.i64 i))))] [(Blk.mk Bool.false (Body.fl FloatKind.f32 b0)), (Blk.mk Bool.true (Body.fl FloatKind.f32 b1))]) K = T_spec_l04Smooth_l3 listn window b0 outn i b1 (fun outn' i' b1' => K .normal (St.mk [(0, (AV.v (TV.one (At.vw 0 0 listn 1)))), (1, (AV.v (TV.one (At.int IntKind.i64 window)))), (6, (AV.v (TV.one (At.sl 1 0 outn' 1)))), (7, (AV.v (TV.one (At.int IntKind.i64 i'))))] [(Blk.mk Bool.false (Body.fl FloatKind.f32 b0)), (Blk.mk Bool.true (Body.fl FloatKind.f32 b1'))])) (fun _ => K Ex.ret (St.mk [(4, (AV.v (TV.one At.nilsl))), (5, (AV.v (TV.one (At.bool Bool.false))))] [(Blk.mk Bool.false (Body.fl FloatKind.f32 b0))])) (fun c0_ c1_ c2_ c3_ => K (Ex.exit 0) (St.mk [(0, (AV.v (TV.one (At.vw 0 0 listn 1)))), (1, (AV.v (TV.one (At.int IntKind.i64 window)))), (6, (AV.v (TV.one (At.sl 1 0 c0_ 1)))), (7, (AV.v (TV.one (At.int IntKind.i64 c1_)))), (15, (AV.v (TV.one (At.bool c2_))))] [(Blk.mk Bool.false (Body.fl FloatKind.f32 b0)), (Blk.mk Bool.true (Body.fl FloatKind.f32 c3_))])) := by kernel_rfl
theorem i_spec_l04Smooth_l3 (listn : Nat) (window : Int) (b0 : List Nat) : ∀ (n : Nat) (outn : Nat) (i : Int) (b1 : List Nat), iter 75 3 1 (evC (R := Ex × St) Γ4 (evFn Γ4 8 8) 75 1 fi75.nt fi75.live fi75.nl 8 (findL 3 (loopsIn fi75.code))) n (St.mk [(0, (AV.v (TV.one (At.vw 0 0 listn 1)))), (1, (AV.v (TV.one (At.int IntKind.i64 window)))), (6, (AV.v (TV.one (At.sl 1 0 outn 1)))), (7, (AV.v (TV.one (At.int IntKind.i64 i))))] [(Blk.mk Bool.false (Body.fl FloatKind.f32 b0)), (Blk.mk Bool.true (Body.fl FloatKind.f32 b1))]) (fun e st => some (e, st)) = (o_spec_l04Smooth_l3 listn window b0) (L_spec_l04Smooth_l3 listn window b0 n outn i b1) := by
  intro n
  induction n with
  | zero => intros; rfl
  | succ n ih =>
    intro outn i b1
    refine Eq.trans (iter_succ ..) (Eq.trans (r_spec_l04Smooth_l3 listn window outn i b0 b1 (nextK 75 3 1 (evC (R := Ex × St) Γ4 (evFn Γ4 8 8) 75 1 fi75.nt fi75.live fi75.nl 8 (findL 3 (loopsIn fi75.code))) n (fun e st => some (e, st)))) (Eq.trans ?_ (T_spec_l04Smooth_l3_nat (o_spec_l04Smooth_l3 listn window b0) rfl listn window b0 outn i b1 (fun outn' i' b1' => L_spec_l04Smooth_l3 listn window b0 n outn' i' b1') (fun _ => some (Sum.inl ())) (fun c0_ c1_ c2_ c3_ => some (Sum.inr (c0_, c1_, c2_, c3_))))))
    exact congrArg (fun kn_ => T_spec_l04Smooth_l3 listn window b0 outn i b1 kn_ (fun _ => (o_spec_l04Smooth_l3 listn window b0) (some (Sum.inl ()))) (fun c0_ c1_ c2_ c3_ => (o_spec_l04Smooth_l3 listn window b0) (some (Sum.inr (c0_, c1_, c2_, c3_))))) (funext fun outn' => funext fun i' => funext fun b1' => ih outn' i' b1')
theorem l_spec_l04Smooth_l3_ok : LoopOne Try.prog fnTab 75 3 l_spec_l04Smooth_l3 := lp_of (Γ := Γ4) tyTab_ok (FnL.ok fnTab_ok _ _) (LpL.ok lt4_ok) (SumL.ok tb4_ok _) mixed (fi := fi75) (by kernel_rfl) (by kernel_rfl) (by
  intro lo st out hp
  unfold l_spec_l04Smooth_l3 at hp
  split at hp
  · rename_i listn window outn i b0 b1
    injection hp with hp
    injection hp with h1 h2
    subst h2
    exact ⟨8, 8, big, Eq.trans (i_spec_l04Smooth_l3 listn window b0 big outn i b1) (f_spec_l04Smooth_l3 listn window b0 (L_spec_l04Smooth_l3 listn window b0 big outn i b1) h1)⟩
  · cases hp)
noncomputable def l_slices_IndexFunc_sf32_f32_areLeast_1_l2 : Nat → St → Option (Bool × LO)
  | 1, (St.mk [(0, (AV.v (TV.one (At.vw 0 0 sn 1)))), (1, (AV.v (TV.one (At.fn 117 [])))), (7, (AV.v (TV.one (At.int IntKind.i64 t7)))), (8, (AV.v (TV.one (At.int IntKind.i64 t8))))] [(Blk.mk Bool.false (Body.fl FloatKind.f32 b0))]) => some ((slices_IndexFunc_sf32_f32_areLeast_1_l2_p sn t7 b0 t8), (LO.two (slices_IndexFunc_sf32_f32_areLeast_1_l2_w0 sn t7 b0 t8) (LO.one Ex.ret (St.mk [(4, (AV.v (TV.one (At.int IntKind.i64 (slices_IndexFunc_sf32_f32_areLeast_1_l2_a0_0 sn t7 b0 t8)))))] [(Blk.mk Bool.false (Body.fl FloatKind.f32 b0))])) (LO.one (Ex.exit 0) (St.mk [(0, (AV.v (TV.one (At.vw 0 0 sn 1)))), (1, (AV.v (TV.one (At.fn 117 [])))), (7, (AV.v (TV.one (At.int IntKind.i64 t7)))), (8, (AV.v (TV.one (At.int IntKind.i64 (slices_IndexFunc_sf32_f32_areLeast_1_l2_a1_0 sn t7 b0 t8))))), (9, (AV.v (TV.one (At.bool (slices_IndexFunc_sf32_f32_areLeast_1_l2_a1_1 sn t7 b0 t8)))))] [(Blk.mk Bool.false (Body.fl FloatKind.f32 b0))]))))
  | _, _ => none
def o_slices_IndexFunc_sf32_f32_areLeast_1_l2 (sn : Nat) (t7 : Int) (b0 : List Nat) : Option ((Int) ⊕ (Int × Bool)) → Option (Ex × St)
  | none => none
  | some (Sum.inl r) => some (Ex.ret, (St.mk [(4, (AV.v (TV.one (At.int IntKind.i64 r))))] [(Blk.mk Bool.false (Body.fl FloatKind.f32 b0))]))
  | some (Sum.inr r) => some ((Ex.exit 0), (St.mk [(0, (AV.v (TV.one (At.vw 0 0 sn 1)))), (1, (AV.v (TV.one (At.fn 117 [])))), (7, (AV.v (TV.one (At.int IntKind.i64 t7)))), (8, (AV.v (TV.one (At.int IntKind.i64 r.1)))), (9, (AV.v (TV.one (At.bool r.2))))] [(Blk.mk Bool.false (Body.fl FloatKind.f32 b0))]))
def lo_slices_IndexFunc_sf32_f32_areLeast_1_l2 (sn : Nat) (t7 : Int) (b0 : List Nat) (x : Option ((Int) ⊕ (Int × Bool))) : LO := (LO.two (oL x) (LO.one Ex.ret (St.mk [(4, (AV.v (TV.one (At.int IntKind.i64 ((tL x).getD default)))))] [(Blk.mk Bool.false (Body.fl FloatKind.f32 b0))])) (LO.one (Ex.exit 0) (St.mk [(0, (AV.v (TV.one (At.vw 0 0 sn 1)))), (1, (AV.v (TV.one (At.fn 117 [])))), (7, (AV.v (TV.one (At.int IntKind.i64 t7)))), (8, (AV.v (TV.one (At.int IntKind.i64 ((tR x).getD default).1)))), (9, (AV.v (TV.one (At.bool ((tR x).getD default).2))))] [(Blk.mk Bool.false (Body.fl FloatKind.f32 b0))])))
theorem f_slices_IndexFunc_sf32_f32_areLeast_1_l2 (sn : Nat) (t7 : Int) (b0 : List Nat) : ∀ x : Option ((Int) ⊕ (Int × Bool)), x.isSome = true → (o_slices_IndexFunc_sf32_f32_areLeast_1_l2 sn t7 b0) x = some (pick (lo_slices_IndexFunc_sf32_f32_areLeast_1_l2 sn t7 b0 x))
  | none, h => by cases h
  | some (Sum.inl r), _ => rfl
  | some (Sum.inr r), _ => rfl
theorem r_slices_IndexFunc_sf32_f32_areLeast_1_l2 (sn : Nat) (t7 : Int) (t8 : Int) (b0 : List Nat) (K : Ex → St → Option (Ex × St)) : evC (R := Ex × St) Γ4 (evFn Γ4 8 8) 116 1 fi116.nt fi116.live fi116.nl 8 (findL 2 (loopsIn fi116.code)) (St.mk [(0, (AV.v (TV.one (At.vw 0 0 sn 1)))), (1, (AV.v (TV.one (At.fn 117 [])))), (7, (AV.v (TV.one (At.int IntKind.i64 t7)))), (8, (AV.v (TV.one (At.int IntKind.i64 t8))))] [(Blk.mk Bool.false (Body.fl FloatKind.f32 b0))]) K = T_slices_IndexFunc_sf32_f32_areLeast_1_l2 sn t7 b0 t8 (fun t8' => K .normal (St.mk [(0, (AV.v (TV.one (At.vw 0 0 sn 1)))), (1, (AV.v (TV.one (At.fn 117 [])))), (7, (AV.v (TV.one (At.int IntKind.i64 t7)))), (8, (AV.v (TV.one (At.int IntKind.i64 t8'))))] [(Blk.mk Bool.false (Body.fl FloatKind.f32 b0))])) (fun c0_ => K Ex.ret (St.mk [(4, (AV.v (TV.one (At.int IntKind.i64 c0_))))] [(Blk.mk Bool.false (Body.fl FloatKind.f32 b0))])) (fun c0_ c1_ => K (Ex.exit 0) (St.mk [(0, (AV.v (TV.one (At.vw 0 0 sn 1)))), (1, (AV.v (TV.one (At.fn 117 [])))), (7, (AV.v (TV.one (At.int IntKind.i64 t7)))), (8, (AV.v (TV.one (At.int IntKind.i64 c0_)))), (9, (AV.v (TV.one (At.bool c1_))))] [(Blk.mk Bool.false (Body.fl FloatKind.f32 b0))])) := by kernel_rfl
theorem i_slices_IndexFunc_sf32_f32_areLeast_1_l2 (sn : Nat) (t7 : Int) (b0 : List Nat) : ∀ (n : Nat) (t8 : Int), iter 116 2 1 (evC (R := Ex × St) Γ4 (evFn Γ4 8 8) 116 1 fi116.nt fi116.live fi116.nl 8 (findL 2 (loopsIn fi116.code))) n (St.mk [(0, (AV.v (TV.one (At.vw 0 0 sn 1)))), (1, (AV.v (TV.one (At.fn 117 [])))), (7, (AV.v (TV.one (At.int IntKind.i64 t7)))), (8, (AV.v (TV.one (At.int IntKind.i64 t8))))] [(Blk.mk Bool.false (Body.fl FloatKind.f32 b0))]) (fun e st => some (e, st)) = (o_slices_IndexFunc_sf32_f32_areLeast_1_l2 sn t7 b0) (L_slices_IndexFunc_sf32_f32_areLeast_1_l2 sn t7 b0 n t8) := by
  intro n
  induction n with
  | zero => intros; rfl
  | succ n ih =>
    intro t8
    refine Eq.trans (iter_succ ..) (Eq.trans (r_slices_IndexFunc_sf32_f32_areLeast_1_l2 sn t7 t8 b0 (nextK 116 2 1 (evC (R := Ex × St) Γ4 (evFn Γ4 8 8) 116 1 fi116.nt fi116.live fi116.nl 8 (findL 2 (loopsIn fi116.code))) n (fun e st => some (e, st)))) (Eq.trans ?_ (T_slices_IndexFunc_sf32_f32_areLeast_1_l2_nat (o_slices_IndexFunc_sf32_f32_areLeast_1_l2 sn t7 b0) rfl sn t7 b0 t8 (fun t8' => L_slices_IndexFunc_sf32_f32_areLeast_1_l2 sn t7 b0 n t8') (fun c0_ => some (Sum.inl c0_)) (fun c0_ c1_ => some (Sum.inr (c0_, c1_))))))
    exact congrArg (fun kn_ => T_slices_IndexFunc_sf32_f32_areLeast_1_l2 sn t7 b0 t8 kn_ (fun c0_ => (o_slices_IndexFunc_sf32_f32_areLeast_1_l2 sn t7 b0) (some (Sum.inl c0_))) (fun c0_ c1_ => (o_slices_IndexFunc_sf32_f32_areLeast_1_l2 sn t7 b0) (some (Sum.inr (c0_, c1_))))) (funext fun t8' => ih t8')
theorem l_slices_IndexFunc_sf32_f32_areLeast_1_l2_ok : LoopOne Try.prog fnTab 116 2 l_slices_IndexFunc_sf32_f32_areLeast_1_l2 := lp_of (Γ := Γ4) tyTab_ok (FnL.ok fnTab_ok _ _) (LpL.ok lt4_ok) (SumL.ok tb4_ok _) mixed (fi := fi116) (by kernel_rfl) (by kernel_rfl) (by
  intro lo st out hp
  unfold l_slices_IndexFunc_sf32_f32_areLeast_1_l2 at hp
  split at hp
  · rename_i sn t7 t8 b0
    injection hp with hp
    injection hp with h1 h2
    subst h2
    exact ⟨8, 8, big, Eq.trans (i_slices_IndexFunc_sf32_f32_areLeast_1_l2 sn t7 b0 big t8) (f_slices_IndexFunc_sf32_f32_areLeast_1_l2 sn t7 b0 (L_slices_IndexFunc_sf32_f32_areLeast_1_l2 sn t7 b0 big t8) h1)⟩
  · cases hp)
noncomputable def tb5 : List (Nat × (List PT → Option (Bool × AV × List Blk))) := [(109, s_math_Float32bits), (118, s_math_archFloor), (125, s_math_Float64frombits), (133, s_math_Float64bits), (139, s_math_archTrunc), (26, s_laws_sameFloat), (52, s_impl_IsFinite), (66, s_spec_l00In), (76, s_impl_within), (82, s_spec_l01Finite), (89, s_impl_isLeast), (96, s_spec_l02Least), (113, s_impl_areFinite_1), (24, s_laws_toFloat32S), (40, s_laws_heldFloat32S), (62, s_spec_l04Mean), (98, s_impl_sum), (117, s_impl_areLeast_1), (27, s_laws_eqFloat32S), (64, s_impl_meanOf), (60, s_spec_l04Winds), (116, s_slices_IndexFunc_sf32_f32_areFinite_1)]
noncomputable def lt5 : List ((Nat × Nat) × (Nat → St → Option (Bool × LO))) := [((24, 3), l_laws_toFloat32S_l3), ((40, 2), l_laws_heldFloat32S_l2), ((62, 3), l_spec_l04Mean_l3), ((98, 3), l_impl_sum_l3), ((27, 4), l_laws_eqFloat32S_l4), ((60, 2), l_spec_l04Winds_l2), ((116, 2), l_slices_IndexFunc_sf32_f32_areFinite_1_l2), ((75, 3), l_spec_l04Smooth_l3), ((116, 2), l_slices_IndexFunc_sf32_f32_areLeast_1_l2)]
noncomputable def Γ5 : Ctx := ⟨tyTab, fnTab, tblSum tb5, tblLp lt5⟩
theorem tb5_ok : SumL Try.prog tb5 := SumL.cons s_math_Float32bits_ok (SumL.cons s_math_archFloor_ok (SumL.cons s_math_Float64frombits_ok (SumL.cons s_math_Float64bits_ok (SumL.cons s_math_archTrunc_ok (SumL.cons s_laws_sameFloat_ok (SumL.cons s_impl_IsFinite_ok (SumL.cons s_spec_l00In_ok (SumL.cons s_impl_within_ok (SumL.cons s_spec_l01Finite_ok (SumL.cons s_impl_isLeast_ok (SumL.cons s_spec_l02Least_ok (SumL.cons s_impl_areFinite_1_ok (SumL.cons s_laws_toFloat32S_ok (SumL.cons s_laws_heldFloat32S_ok (SumL.cons s_spec_l04Mean_ok (SumL.cons s_impl_sum_ok (SumL.cons s_impl_areLeast_1_ok (SumL.cons s_laws_eqFloat32S_ok (SumL.cons s_impl_meanOf_ok (SumL.cons s_spec_l04Winds_ok (SumL.cons s_slices_IndexFunc_sf32_f32_areFinite_1_ok (SumL.nil))))))))))))))))))))))
theorem lt5_ok : LpL Try.prog fnTab lt5 := LpL.cons l_laws_toFloat32S_l3_ok (LpL.cons l_laws_heldFloat32S_l2_ok (LpL.cons l_spec_l04Mean_l3_ok (LpL.cons l_impl_sum_l3_ok (LpL.cons l_laws_eqFloat32S_l4_ok (LpL.cons l_spec_l04Winds_l2_ok (LpL.cons l_slices_IndexFunc_sf32_f32_areFinite_1_l2_ok (LpL.cons l_spec_l04Smooth_l3_ok (LpL.cons l_slices_IndexFunc_sf32_f32_areLeast_1_l2_ok (LpL.nil)))))))))
noncomputable def s_spec_l04Smooth : List PT → Option (Bool × AV × List Blk)
  | [.one (.row 1 list_n (.fl .f32 list)), .one (.s (.int .i64 window))] => some ((spec_l04Smooth_p list_n list window), ((AV.tup [(TV.one (At.sl 0 0 (spec_l04Smooth_v0 list_n list window) 1)), (TV.one (At.bool (spec_l04Smooth_v1 list_n list window)))]), [(Blk.mk Bool.true (Body.fl FloatKind.f32 (spec_l04Smooth_v2 list_n list window)))]))
  | _ => none
def o_spec_l04Smooth (list_n : Nat) (list : List Nat) (window : Int) : Option (Nat × Bool × (List Nat)) → Option (AV × List Blk)
  | some r => some ((AV.tup [(TV.one (At.sl 0 0 r.1 1)), (TV.one (At.bool r.2.1))]), [(Blk.mk Bool.true (Body.fl FloatKind.f32 r.2.2))])
  | none => none
theorem e_spec_l04Smooth (list_n : Nat) (list : List Nat) (window : Int) : evFn Γ5 8 8 75 (impTs 0 [.one (.row 1 list_n (.fl .f32 list)), .one (.s (.int .i64 window))]).1 (impTs 0 [.one (.row 1 list_n (.fl .f32 list)), .one (.s (.int .i64 window))]).2 (expo (impTs 0 [.one (.row 1 list_n (.fl .f32 list)), .one (.s (.int .i64 window))]).2.length) = T_spec_l04Smooth list_n list window (fun c0_ c1_ c2_ => some ((AV.tup [(TV.one (At.sl 0 0 c0_ 1)), (TV.one (At.bool c1_))]), [(Blk.mk Bool.true (Body.fl FloatKind.f32 c2_))])) := by kernel_rfl
theorem s_spec_l04Smooth_ok : SumOne Try.prog 75 s_spec_l04Smooth := sum_of (Γ := Γ5) (fuel := 8) (d := 8) tyTab_ok (FnL.ok fnTab_ok _ _) (LpL.ok lt5_ok) (SumL.ok tb5_ok _) mixed (by
  intro pts v news hp hc
  clear hc
  unfold s_spec_l04Smooth at hp
  split at hp
  · rename_i list_n list window
    exact Eq.trans (Eq.trans (e_spec_l04Smooth list_n list window) (T_spec_l04Smooth_nat (o_spec_l04Smooth list_n list window) rfl list_n list window (fun c0_ c1_ c2_ => some (c0_, c1_, c2_)))) (fin_out (o := (o_spec_l04Smooth list_n list window)) (x := F_spec_l04Smooth list_n list window) (d := default) (V := fun r => ((AV.tup [(TV.one (At.sl 0 0 r.1 1)), (TV.one (At.bool r.2.1))]), [(Blk.mk Bool.true (Body.fl FloatKind.f32 r.2.2))])) (fun r => rfl) hp)
  · cases hp)
noncomputable def s_slices_IndexFunc_sf32_f32_areLeast_1 : List PT → Option (Bool × AV × List Blk)
  | [.one (.row 1 s_n (.fl .f32 s)), .fn 117 []] => some ((slices_IndexFunc_sf32_f32_areLeast_1_p s_n s), ((AV.v (TV.one (At.int IntKind.i64 (slices_IndexFunc_sf32_f32_areLeast_1_v0 s_n s)))), []))
  | _ => none
def o_slices_IndexFunc_sf32_f32_areLeast_1 (s_n : Nat) (s : List Nat) : Option (Int) → Option (AV × List Blk)
  | some r => some ((AV.v (TV.one (At.int IntKind.i64 r))), [])
  | none => none
theorem e_slices_IndexFunc_sf32_f32_areLeast_1 (s_n : Nat) (s : List Nat) : evFn Γ5 8 8 116 (impTs 0 [.one (.row 1 s_n (.fl .f32 s)), .fn 117 []]).1 (impTs 0 [.one (.row 1 s_n (.fl .f32 s)), .fn 117 []]).2 (expo (impTs 0 [.one (.row 1 s_n (.fl .f32 s)), .fn 117 []]).2.length) = T_slices_IndexFunc_sf32_f32_areLeast_1 s_n s (fun c0_ => some ((AV.v (TV.one (At.int IntKind.i64 c0_))), [])) := by kernel_rfl
theorem s_slices_IndexFunc_sf32_f32_areLeast_1_ok : SumOne Try.prog 116 s_slices_IndexFunc_sf32_f32_areLeast_1 := sum_of (Γ := Γ5) (fuel := 8) (d := 8) tyTab_ok (FnL.ok fnTab_ok _ _) (LpL.ok lt5_ok) (SumL.ok tb5_ok _) mixed (by
  intro pts v news hp hc
  clear hc
  unfold s_slices_IndexFunc_sf32_f32_areLeast_1 at hp
  split at hp
  · rename_i s_n s
    exact Eq.trans (Eq.trans (e_slices_IndexFunc_sf32_f32_areLeast_1 s_n s) (T_slices_IndexFunc_sf32_f32_areLeast_1_nat (o_slices_IndexFunc_sf32_f32_areLeast_1 s_n s) rfl s_n s (fun c0_ => some c0_))) (fin_out (o := (o_slices_IndexFunc_sf32_f32_areLeast_1 s_n s)) (x := F_slices_IndexFunc_sf32_f32_areLeast_1 s_n s) (d := default) (V := fun r => ((AV.v (TV.one (At.int IntKind.i64 r))), [])) (fun r => rfl) hp)
  · cases hp)
noncomputable def tb6 : List (Nat × (List PT → Option (Bool × AV × List Blk))) := [(109, s_math_Float32bits), (118, s_math_archFloor), (125, s_math_Float64frombits), (133, s_math_Float64bits), (139, s_math_archTrunc), (26, s_laws_sameFloat), (52, s_impl_IsFinite), (66, s_spec_l00In), (76, s_impl_within), (82, s_spec_l01Finite), (89, s_impl_isLeast), (96, s_spec_l02Least), (113, s_impl_areFinite_1), (24, s_laws_toFloat32S), (40, s_laws_heldFloat32S), (62, s_spec_l04Mean), (98, s_impl_sum), (117, s_impl_areLeast_1), (27, s_laws_eqFloat32S), (64, s_impl_meanOf), (60, s_spec_l04Winds), (116, s_slices_IndexFunc_sf32_f32_areFinite_1), (75, s_spec_l04Smooth), (116, s_slices_IndexFunc_sf32_f32_areLeast_1)]
noncomputable def lt6 : List ((Nat × Nat) × (Nat → St → Option (Bool × LO))) := [((24, 3), l_laws_toFloat32S_l3), ((40, 2), l_laws_heldFloat32S_l2), ((62, 3), l_spec_l04Mean_l3), ((98, 3), l_impl_sum_l3), ((27, 4), l_laws_eqFloat32S_l4), ((60, 2), l_spec_l04Winds_l2), ((116, 2), l_slices_IndexFunc_sf32_f32_areFinite_1_l2), ((75, 3), l_spec_l04Smooth_l3), ((116, 2), l_slices_IndexFunc_sf32_f32_areLeast_1_l2)]
noncomputable def Γ6 : Ctx := ⟨tyTab, fnTab, tblSum tb6, tblLp lt6⟩
theorem tb6_ok : SumL Try.prog tb6 := SumL.cons s_math_Float32bits_ok (SumL.cons s_math_archFloor_ok (SumL.cons s_math_Float64frombits_ok (SumL.cons s_math_Float64bits_ok (SumL.cons s_math_archTrunc_ok (SumL.cons s_laws_sameFloat_ok (SumL.cons s_impl_IsFinite_ok (SumL.cons s_spec_l00In_ok (SumL.cons s_impl_within_ok (SumL.cons s_spec_l01Finite_ok (SumL.cons s_impl_isLeast_ok (SumL.cons s_spec_l02Least_ok (SumL.cons s_impl_areFinite_1_ok (SumL.cons s_laws_toFloat32S_ok (SumL.cons s_laws_heldFloat32S_ok (SumL.cons s_spec_l04Mean_ok (SumL.cons s_impl_sum_ok (SumL.cons s_impl_areLeast_1_ok (SumL.cons s_laws_eqFloat32S_ok (SumL.cons s_impl_meanOf_ok (SumL.cons s_spec_l04Winds_ok (SumL.cons s_slices_IndexFunc_sf32_f32_areFinite_1_ok (SumL.cons s_spec_l04Smooth_ok (SumL.cons s_slices_IndexFunc_sf32_f32_areLeast_1_ok (SumL.nil))))))))))))))))))))))))
theorem lt6_ok : LpL Try.prog fnTab lt6 := LpL.cons l_laws_toFloat32S_l3_ok (LpL.cons l_laws_heldFloat32S_l2_ok (LpL.cons l_spec_l04Mean_l3_ok (LpL.cons l_impl_sum_l3_ok (LpL.cons l_laws_eqFloat32S_l4_ok (LpL.cons l_spec_l04Winds_l2_ok (LpL.cons l_slices_IndexFunc_sf32_f32_areFinite_1_l2_ok (LpL.cons l_spec_l04Smooth_l3_ok (LpL.cons l_slices_IndexFunc_sf32_f32_areLeast_1_l2_ok (LpL.nil)))))))))
noncomputable def s_spec_SmoothWinds : List PT → Option (Bool × AV × List Blk)
  | [.one (.row 1 list_n (.fl .f32 list)), .one (.s (.int .i64 window))] => some ((spec_SmoothWinds_p list_n list window), ((AV.tup [(TV.one (At.sl 0 0 (spec_SmoothWinds_v0 list_n list window) 1)), (TV.one (At.bool (spec_SmoothWinds_v1 list_n list window)))]), [(Blk.mk Bool.true (Body.fl FloatKind.f32 (spec_SmoothWinds_v2 list_n list window)))]))
  | _ => none
def o_spec_SmoothWinds (list_n : Nat) (list : List Nat) (window : Int) : Option (Nat × Bool × (List Nat)) → Option (AV × List Blk)
  | some r => some ((AV.tup [(TV.one (At.sl 0 0 r.1 1)), (TV.one (At.bool r.2.1))]), [(Blk.mk Bool.true (Body.fl FloatKind.f32 r.2.2))])
  | none => none
theorem e_spec_SmoothWinds (list_n : Nat) (list : List Nat) (window : Int) : evFn Γ6 8 8 37 (impTs 0 [.one (.row 1 list_n (.fl .f32 list)), .one (.s (.int .i64 window))]).1 (impTs 0 [.one (.row 1 list_n (.fl .f32 list)), .one (.s (.int .i64 window))]).2 (expo (impTs 0 [.one (.row 1 list_n (.fl .f32 list)), .one (.s (.int .i64 window))]).2.length) = T_spec_SmoothWinds list_n list window (fun c0_ c1_ c2_ => some ((AV.tup [(TV.one (At.sl 0 0 c0_ 1)), (TV.one (At.bool c1_))]), [(Blk.mk Bool.true (Body.fl FloatKind.f32 c2_))])) := by kernel_rfl
theorem s_spec_SmoothWinds_ok : SumOne Try.prog 37 s_spec_SmoothWinds := sum_of (Γ := Γ6) (fuel := 8) (d := 8) tyTab_ok (FnL.ok fnTab_ok _ _) (LpL.ok lt6_ok) (SumL.ok tb6_ok _) mixed (by
  intro pts v news hp hc
  clear hc
  unfold s_spec_SmoothWinds at hp
  split at hp
  · rename_i list_n list window
    exact Eq.trans (Eq.trans (e_spec_SmoothWinds list_n list window) (T_spec_SmoothWinds_nat (o_spec_SmoothWinds list_n list window) rfl list_n list window (fun c0_ c1_ c2_ => some (c0_, c1_, c2_)))) (fin_out (o := (o_spec_SmoothWinds list_n list window)) (x := F_spec_SmoothWinds list_n list window) (d := default) (V := fun r => ((AV.tup [(TV.one (At.sl 0 0 r.1 1)), (TV.one (At.bool r.2.1))]), [(Blk.mk Bool.true (Body.fl FloatKind.f32 r.2.2))])) (fun r => rfl) hp)
  · cases hp)
noncomputable def s_slices_ContainsFunc_sf32_f32_areFinite_1 : List PT → Option (Bool × AV × List Blk)
  | [.one (.row 1 s_n (.fl .f32 s)), .fn 113 []] => some ((slices_ContainsFunc_sf32_f32_areFinite_1_p s_n s), ((AV.v (TV.one (At.bool (slices_ContainsFunc_sf32_f32_areFinite_1_v0 s_n s)))), []))
  | _ => none
def o_slices_ContainsFunc_sf32_f32_areFinite_1 (s_n : Nat) (s : List Nat) : Option (Bool) → Option (AV × List Blk)
  | some r => some ((AV.v (TV.one (At.bool r))), [])
  | none => none
theorem e_slices_ContainsFunc_sf32_f32_areFinite_1 (s_n : Nat) (s : List Nat) : evFn Γ6 8 8 94 (impTs 0 [.one (.row 1 s_n (.fl .f32 s)), .fn 113 []]).1 (impTs 0 [.one (.row 1 s_n (.fl .f32 s)), .fn 113 []]).2 (expo (impTs 0 [.one (.row 1 s_n (.fl .f32 s)), .fn 113 []]).2.length) = T_slices_ContainsFunc_sf32_f32_areFinite_1 s_n s (fun c0_ => some ((AV.v (TV.one (At.bool c0_))), [])) := by kernel_rfl
theorem s_slices_ContainsFunc_sf32_f32_areFinite_1_ok : SumOne Try.prog 94 s_slices_ContainsFunc_sf32_f32_areFinite_1 := sum_of (Γ := Γ6) (fuel := 8) (d := 8) tyTab_ok (FnL.ok fnTab_ok _ _) (LpL.ok lt6_ok) (SumL.ok tb6_ok _) mixed (by
  intro pts v news hp hc
  clear hc
  unfold s_slices_ContainsFunc_sf32_f32_areFinite_1 at hp
  split at hp
  · rename_i s_n s
    exact Eq.trans (Eq.trans (e_slices_ContainsFunc_sf32_f32_areFinite_1 s_n s) (T_slices_ContainsFunc_sf32_f32_areFinite_1_nat (o_slices_ContainsFunc_sf32_f32_areFinite_1 s_n s) rfl s_n s (fun c0_ => some c0_))) (fin_out (o := (o_slices_ContainsFunc_sf32_f32_areFinite_1 s_n s)) (x := F_slices_ContainsFunc_sf32_f32_areFinite_1 s_n s) (d := default) (V := fun r => ((AV.v (TV.one (At.bool r))), [])) (fun r => rfl) hp)
  · cases hp)
noncomputable def s_slices_ContainsFunc_sf32_f32_areLeast_1 : List PT → Option (Bool × AV × List Blk)
  | [.one (.row 1 s_n (.fl .f32 s)), .fn 117 []] => some ((slices_ContainsFunc_sf32_f32_areLeast_1_p s_n s), ((AV.v (TV.one (At.bool (slices_ContainsFunc_sf32_f32_areLeast_1_v0 s_n s)))), []))
  | _ => none
def o_slices_ContainsFunc_sf32_f32_areLeast_1 (s_n : Nat) (s : List Nat) : Option (Bool) → Option (AV × List Blk)
  | some r => some ((AV.v (TV.one (At.bool r))), [])
  | none => none
theorem e_slices_ContainsFunc_sf32_f32_areLeast_1 (s_n : Nat) (s : List Nat) : evFn Γ6 8 8 94 (impTs 0 [.one (.row 1 s_n (.fl .f32 s)), .fn 117 []]).1 (impTs 0 [.one (.row 1 s_n (.fl .f32 s)), .fn 117 []]).2 (expo (impTs 0 [.one (.row 1 s_n (.fl .f32 s)), .fn 117 []]).2.length) = T_slices_ContainsFunc_sf32_f32_areLeast_1 s_n s (fun c0_ => some ((AV.v (TV.one (At.bool c0_))), [])) := by kernel_rfl
theorem s_slices_ContainsFunc_sf32_f32_areLeast_1_ok : SumOne Try.prog 94 s_slices_ContainsFunc_sf32_f32_areLeast_1 := sum_of (Γ := Γ6) (fuel := 8) (d := 8) tyTab_ok (FnL.ok fnTab_ok _ _) (LpL.ok lt6_ok) (SumL.ok tb6_ok _) mixed (by
  intro pts v news hp hc
  clear hc
  unfold s_slices_ContainsFunc_sf32_f32_areLeast_1 at hp
  split at hp
  · rename_i s_n s
    exact Eq.trans (Eq.trans (e_slices_ContainsFunc_sf32_f32_areLeast_1 s_n s) (T_slices_ContainsFunc_sf32_f32_areLeast_1_nat (o_slices_ContainsFunc_sf32_f32_areLeast_1 s_n s) rfl s_n s (fun c0_ => some c0_))) (fin_out (o := (o_slices_ContainsFunc_sf32_f32_areLeast_1 s_n s)) (x := F_slices_ContainsFunc_sf32_f32_areLeast_1 s_n s) (d := default) (V := fun r => ((AV.v (TV.one (At.bool r))), [])) (fun r => rfl) hp)
  · cases hp)
noncomputable def tb7 : List (Nat × (List PT → Option (Bool × AV × List Blk))) := [(109, s_math_Float32bits), (118, s_math_archFloor), (125, s_math_Float64frombits), (133, s_math_Float64bits), (139, s_math_archTrunc), (26, s_laws_sameFloat), (52, s_impl_IsFinite), (66, s_spec_l00In), (76, s_impl_within), (82, s_spec_l01Finite), (89, s_impl_isLeast), (96, s_spec_l02Least), (113, s_impl_areFinite_1), (24, s_laws_toFloat32S), (40, s_laws_heldFloat32S), (62, s_spec_l04Mean), (98, s_impl_sum), (117, s_impl_areLeast_1), (27, s_laws_eqFloat32S), (64, s_impl_meanOf), (60, s_spec_l04Winds), (116, s_slices_IndexFunc_sf32_f32_areFinite_1), (75, s_spec_l04Smooth), (116, s_slices_IndexFunc_sf32_f32_areLeast_1), (37, s_spec_SmoothWinds), (94, s_slices_ContainsFunc_sf32_f32_areFinite_1), (94, s_slices_ContainsFunc_sf32_f32_areLeast_1)]
noncomputable def lt7 : List ((Nat × Nat) × (Nat → St → Option (Bool × LO))) := [((24, 3), l_laws_toFloat32S_l3), ((40, 2), l_laws_heldFloat32S_l2), ((62, 3), l_spec_l04Mean_l3), ((98, 3), l_impl_sum_l3), ((27, 4), l_laws_eqFloat32S_l4), ((60, 2), l_spec_l04Winds_l2), ((116, 2), l_slices_IndexFunc_sf32_f32_areFinite_1_l2), ((75, 3), l_spec_l04Smooth_l3), ((116, 2), l_slices_IndexFunc_sf32_f32_areLeast_1_l2)]
noncomputable def Γ7 : Ctx := ⟨tyTab, fnTab, tblSum tb7, tblLp lt7⟩
theorem tb7_ok : SumL Try.prog tb7 := SumL.cons s_math_Float32bits_ok (SumL.cons s_math_archFloor_ok (SumL.cons s_math_Float64frombits_ok (SumL.cons s_math_Float64bits_ok (SumL.cons s_math_archTrunc_ok (SumL.cons s_laws_sameFloat_ok (SumL.cons s_impl_IsFinite_ok (SumL.cons s_spec_l00In_ok (SumL.cons s_impl_within_ok (SumL.cons s_spec_l01Finite_ok (SumL.cons s_impl_isLeast_ok (SumL.cons s_spec_l02Least_ok (SumL.cons s_impl_areFinite_1_ok (SumL.cons s_laws_toFloat32S_ok (SumL.cons s_laws_heldFloat32S_ok (SumL.cons s_spec_l04Mean_ok (SumL.cons s_impl_sum_ok (SumL.cons s_impl_areLeast_1_ok (SumL.cons s_laws_eqFloat32S_ok (SumL.cons s_impl_meanOf_ok (SumL.cons s_spec_l04Winds_ok (SumL.cons s_slices_IndexFunc_sf32_f32_areFinite_1_ok (SumL.cons s_spec_l04Smooth_ok (SumL.cons s_slices_IndexFunc_sf32_f32_areLeast_1_ok (SumL.cons s_spec_SmoothWinds_ok (SumL.cons s_slices_ContainsFunc_sf32_f32_areFinite_1_ok (SumL.cons s_slices_ContainsFunc_sf32_f32_areLeast_1_ok (SumL.nil)))))))))))))))))))))))))))
theorem lt7_ok : LpL Try.prog fnTab lt7 := LpL.cons l_laws_toFloat32S_l3_ok (LpL.cons l_laws_heldFloat32S_l2_ok (LpL.cons l_spec_l04Mean_l3_ok (LpL.cons l_impl_sum_l3_ok (LpL.cons l_laws_eqFloat32S_l4_ok (LpL.cons l_spec_l04Winds_l2_ok (LpL.cons l_slices_IndexFunc_sf32_f32_areFinite_1_l2_ok (LpL.cons l_spec_l04Smooth_l3_ok (LpL.cons l_slices_IndexFunc_sf32_f32_areLeast_1_l2_ok (LpL.nil)))))))))
noncomputable def s_impl_areFinite : List PT → Option (Bool × AV × List Blk)
  | [.one (.row 1 list_n (.fl .f32 list))] => some ((impl_areFinite_p list_n list), ((AV.v (TV.one (At.bool (impl_areFinite_v0 list_n list)))), []))
  | _ => none
def o_impl_areFinite (list_n : Nat) (list : List Nat) : Option (Bool) → Option (AV × List Blk)
  | some r => some ((AV.v (TV.one (At.bool r))), [])
  | none => none
theorem e_impl_areFinite (list_n : Nat) (list : List Nat) : evFn Γ7 8 8 90 (impTs 0 [.one (.row 1 list_n (.fl .f32 list))]).1 (impTs 0 [.one (.row 1 list_n (.fl .f32 list))]).2 (expo (impTs 0 [.one (.row 1 list_n (.fl .f32 list))]).2.length) = T_impl_areFinite list_n list (fun c0_ => some ((AV.v (TV.one (At.bool c0_))), [])) := by kernel_rfl
theorem s_impl_areFinite_ok : SumOne Try.prog 90 s_impl_areFinite := sum_of (Γ := Γ7) (fuel := 8) (d := 8) tyTab_ok (FnL.ok fnTab_ok _ _) (LpL.ok lt7_ok) (SumL.ok tb7_ok _) mixed (by
  intro pts v news hp hc
  clear hc
  unfold s_impl_areFinite at hp
  split at hp
  · rename_i list_n list
    exact Eq.trans (Eq.trans (e_impl_areFinite list_n list) (T_impl_areFinite_nat (o_impl_areFinite list_n list) rfl list_n list (fun c0_ => some c0_))) (fin_out (o := (o_impl_areFinite list_n list)) (x := F_impl_areFinite list_n list) (d := default) (V := fun r => ((AV.v (TV.one (At.bool r))), [])) (fun r => rfl) hp)
  · cases hp)
noncomputable def s_impl_areLeast : List PT → Option (Bool × AV × List Blk)
  | [.one (.row 1 list_n (.fl .f32 list))] => some ((impl_areLeast_p list_n list), ((AV.v (TV.one (At.bool (impl_areLeast_v0 list_n list)))), []))
  | _ => none
def o_impl_areLeast (list_n : Nat) (list : List Nat) : Option (Bool) → Option (AV × List Blk)
  | some r => some ((AV.v (TV.one (At.bool r))), [])
  | none => none
theorem e_impl_areLeast (list_n : Nat) (list : List Nat) : evFn Γ7 8 8 97 (impTs 0 [.one (.row 1 list_n (.fl .f32 list))]).1 (impTs 0 [.one (.row 1 list_n (.fl .f32 list))]).2 (expo (impTs 0 [.one (.row 1 list_n (.fl .f32 list))]).2.length) = T_impl_areLeast list_n list (fun c0_ => some ((AV.v (TV.one (At.bool c0_))), [])) := by kernel_rfl
theorem s_impl_areLeast_ok : SumOne Try.prog 97 s_impl_areLeast := sum_of (Γ := Γ7) (fuel := 8) (d := 8) tyTab_ok (FnL.ok fnTab_ok _ _) (LpL.ok lt7_ok) (SumL.ok tb7_ok _) mixed (by
  intro pts v news hp hc
  clear hc
  unfold s_impl_areLeast at hp
  split at hp
  · rename_i list_n list
    exact Eq.trans (Eq.trans (e_impl_areLeast list_n list) (T_impl_areLeast_nat (o_impl_areLeast list_n list) rfl list_n list (fun c0_ => some c0_))) (fin_out (o := (o_impl_areLeast list_n list)) (x := F_impl_areLeast list_n list) (d := default) (V := fun r => ((AV.v (TV.one (At.bool r))), [])) (fun r => rfl) hp)
  · cases hp)
noncomputable def tb8 : List (Nat × (List PT → Option (Bool × AV × List Blk))) := [(109, s_math_Float32bits), (118, s_math_archFloor), (125, s_math_Float64frombits), (133, s_math_Float64bits), (139, s_math_archTrunc), (26, s_laws_sameFloat), (52, s_impl_IsFinite), (66, s_spec_l00In), (76, s_impl_within), (82, s_spec_l01Finite), (89, s_impl_isLeast), (96, s_spec_l02Least), (113, s_impl_areFinite_1), (24, s_laws_toFloat32S), (40, s_laws_heldFloat32S), (62, s_spec_l04Mean), (98, s_impl_sum), (117, s_impl_areLeast_1), (27, s_laws_eqFloat32S), (64, s_impl_meanOf), (60, s_spec_l04Winds), (116, s_slices_IndexFunc_sf32_f32_areFinite_1), (75, s_spec_l04Smooth), (116, s_slices_IndexFunc_sf32_f32_areLeast_1), (37, s_spec_SmoothWinds), (94, s_slices_ContainsFunc_sf32_f32_areFinite_1), (94, s_slices_ContainsFunc_sf32_f32_areLeast_1), (90, s_impl_areFinite), (97, s_impl_areLeast)]
noncomputable def lt8 : List ((Nat × Nat) × (Nat → St → Option (Bool × LO))) := [((24, 3), l_laws_toFloat32S_l3), ((40, 2), l_laws_heldFloat32S_l2), ((62, 3), l_spec_l04Mean_l3), ((98, 3), l_impl_sum_l3), ((27, 4), l_laws_eqFloat32S_l4), ((60, 2), l_spec_l04Winds_l2), ((116, 2), l_slices_IndexFunc_sf32_f32_areFinite_1_l2), ((75, 3), l_spec_l04Smooth_l3), ((116, 2), l_slices_IndexFunc_sf32_f32_areLeast_1_l2)]
noncomputable def Γ8 : Ctx := ⟨tyTab, fnTab, tblSum tb8, tblLp lt8⟩
theorem tb8_ok : SumL Try.prog tb8 := SumL.cons s_math_Float32bits_ok (SumL.cons s_math_archFloor_ok (SumL.cons s_math_Float64frombits_ok (SumL.cons s_math_Float64bits_ok (SumL.cons s_math_archTrunc_ok (SumL.cons s_laws_sameFloat_ok (SumL.cons s_impl_IsFinite_ok (SumL.cons s_spec_l00In_ok (SumL.cons s_impl_within_ok (SumL.cons s_spec_l01Finite_ok (SumL.cons s_impl_isLeast_ok (SumL.cons s_spec_l02Least_ok (SumL.cons s_impl_areFinite_1_ok (SumL.cons s_laws_toFloat32S_ok (SumL.cons s_laws_heldFloat32S_ok (SumL.cons s_spec_l04Mean_ok (SumL.cons s_impl_sum_ok (SumL.cons s_impl_areLeast_1_ok (SumL.cons s_laws_eqFloat32S_ok (SumL.cons s_impl_meanOf_ok (SumL.cons s_spec_l04Winds_ok (SumL.cons s_slices_IndexFunc_sf32_f32_areFinite_1_ok (SumL.cons s_spec_l04Smooth_ok (SumL.cons s_slices_IndexFunc_sf32_f32_areLeast_1_ok (SumL.cons s_spec_SmoothWinds_ok (SumL.cons s_slices_ContainsFunc_sf32_f32_areFinite_1_ok (SumL.cons s_slices_ContainsFunc_sf32_f32_areLeast_1_ok (SumL.cons s_impl_areFinite_ok (SumL.cons s_impl_areLeast_ok (SumL.nil)))))))))))))))))))))))))))))
theorem lt8_ok : LpL Try.prog fnTab lt8 := LpL.cons l_laws_toFloat32S_l3_ok (LpL.cons l_laws_heldFloat32S_l2_ok (LpL.cons l_spec_l04Mean_l3_ok (LpL.cons l_impl_sum_l3_ok (LpL.cons l_laws_eqFloat32S_l4_ok (LpL.cons l_spec_l04Winds_l2_ok (LpL.cons l_slices_IndexFunc_sf32_f32_areFinite_1_l2_ok (LpL.cons l_spec_l04Smooth_l3_ok (LpL.cons l_slices_IndexFunc_sf32_f32_areLeast_1_l2_ok (LpL.nil)))))))))
noncomputable def s_impl_areWinds : List PT → Option (Bool × AV × List Blk)
  | [.one (.row 1 list_n (.fl .f32 list))] => some ((impl_areWinds_p list_n list), ((AV.v (TV.one (At.bool (impl_areWinds_v0 list_n list)))), []))
  | _ => none
def o_impl_areWinds (list_n : Nat) (list : List Nat) : Option (Bool) → Option (AV × List Blk)
  | some r => some ((AV.v (TV.one (At.bool r))), [])
  | none => none
theorem e_impl_areWinds (list_n : Nat) (list : List Nat) : evFn Γ8 8 8 63 (impTs 0 [.one (.row 1 list_n (.fl .f32 list))]).1 (impTs 0 [.one (.row 1 list_n (.fl .f32 list))]).2 (expo (impTs 0 [.one (.row 1 list_n (.fl .f32 list))]).2.length) = T_impl_areWinds list_n list (fun c0_ => some ((AV.v (TV.one (At.bool c0_))), [])) := by kernel_rfl
theorem s_impl_areWinds_ok : SumOne Try.prog 63 s_impl_areWinds := sum_of (Γ := Γ8) (fuel := 8) (d := 8) tyTab_ok (FnL.ok fnTab_ok _ _) (LpL.ok lt8_ok) (SumL.ok tb8_ok _) mixed (by
  intro pts v news hp hc
  clear hc
  unfold s_impl_areWinds at hp
  split at hp
  · rename_i list_n list
    exact Eq.trans (Eq.trans (e_impl_areWinds list_n list) (T_impl_areWinds_nat (o_impl_areWinds list_n list) rfl list_n list (fun c0_ => some c0_))) (fin_out (o := (o_impl_areWinds list_n list)) (x := F_impl_areWinds list_n list) (d := default) (V := fun r => ((AV.v (TV.one (At.bool r))), [])) (fun r => rfl) hp)
  · cases hp)
noncomputable def tb9 : List (Nat × (List PT → Option (Bool × AV × List Blk))) := [(109, s_math_Float32bits), (118, s_math_archFloor), (125, s_math_Float64frombits), (133, s_math_Float64bits), (139, s_math_archTrunc), (26, s_laws_sameFloat), (52, s_impl_IsFinite), (66, s_spec_l00In), (76, s_impl_within), (82, s_spec_l01Finite), (89, s_impl_isLeast), (96, s_spec_l02Least), (113, s_impl_areFinite_1), (24, s_laws_toFloat32S), (40, s_laws_heldFloat32S), (62, s_spec_l04Mean), (98, s_impl_sum), (117, s_impl_areLeast_1), (27, s_laws_eqFloat32S), (64, s_impl_meanOf), (60, s_spec_l04Winds), (116, s_slices_IndexFunc_sf32_f32_areFinite_1), (75, s_spec_l04Smooth), (116, s_slices_IndexFunc_sf32_f32_areLeast_1), (37, s_spec_SmoothWinds), (94, s_slices_ContainsFunc_sf32_f32_areFinite_1), (94, s_slices_ContainsFunc_sf32_f32_areLeast_1), (90, s_impl_areFinite), (97, s_impl_areLeast), (63, s_impl_areWinds)]
noncomputable def lt9 : List ((Nat × Nat) × (Nat → St → Option (Bool × LO))) := [((24, 3), l_laws_toFloat32S_l3), ((40, 2), l_laws_heldFloat32S_l2), ((62, 3), l_spec_l04Mean_l3), ((98, 3), l_impl_sum_l3), ((27, 4), l_laws_eqFloat32S_l4), ((60, 2), l_spec_l04Winds_l2), ((116, 2), l_slices_IndexFunc_sf32_f32_areFinite_1_l2), ((75, 3), l_spec_l04Smooth_l3), ((116, 2), l_slices_IndexFunc_sf32_f32_areLeast_1_l2)]
noncomputable def Γ9 : Ctx := ⟨tyTab, fnTab, tblSum tb9, tblLp lt9⟩
theorem tb9_ok : SumL Try.prog tb9 := SumL.cons s_math_Float32bits_ok (SumL.cons s_math_archFloor_ok (SumL.cons s_math_Float64frombits_ok (SumL.cons s_math_Float64bits_ok (SumL.cons s_math_archTrunc_ok (SumL.cons s_laws_sameFloat_ok (SumL.cons s_impl_IsFinite_ok (SumL.cons s_spec_l00In_ok (SumL.cons s_impl_within_ok (SumL.cons s_spec_l01Finite_ok (SumL.cons s_impl_isLeast_ok (SumL.cons s_spec_l02Least_ok (SumL.cons s_impl_areFinite_1_ok (SumL.cons s_laws_toFloat32S_ok (SumL.cons s_laws_heldFloat32S_ok (SumL.cons s_spec_l04Mean_ok (SumL.cons s_impl_sum_ok (SumL.cons s_impl_areLeast_1_ok (SumL.cons s_laws_eqFloat32S_ok (SumL.cons s_impl_meanOf_ok (SumL.cons s_spec_l04Winds_ok (SumL.cons s_slices_IndexFunc_sf32_f32_areFinite_1_ok (SumL.cons s_spec_l04Smooth_ok (SumL.cons s_slices_IndexFunc_sf32_f32_areLeast_1_ok (SumL.cons s_spec_SmoothWinds_ok (SumL.cons s_slices_ContainsFunc_sf32_f32_areFinite_1_ok (SumL.cons s_slices_ContainsFunc_sf32_f32_areLeast_1_ok (SumL.cons s_impl_areFinite_ok (SumL.cons s_impl_areLeast_ok (SumL.cons s_impl_areWinds_ok (SumL.nil))))))))))))))))))))))))))))))
theorem lt9_ok : LpL Try.prog fnTab lt9 := LpL.cons l_laws_toFloat32S_l3_ok (LpL.cons l_laws_heldFloat32S_l2_ok (LpL.cons l_spec_l04Mean_l3_ok (LpL.cons l_impl_sum_l3_ok (LpL.cons l_laws_eqFloat32S_l4_ok (LpL.cons l_spec_l04Winds_l2_ok (LpL.cons l_slices_IndexFunc_sf32_f32_areFinite_1_l2_ok (LpL.cons l_spec_l04Smooth_l3_ok (LpL.cons l_slices_IndexFunc_sf32_f32_areLeast_1_l2_ok (LpL.nil)))))))))
noncomputable def tb10 : List (Nat × (List PT → Option (Bool × AV × List Blk))) := [(109, s_math_Float32bits), (118, s_math_archFloor), (125, s_math_Float64frombits), (133, s_math_Float64bits), (139, s_math_archTrunc), (26, s_laws_sameFloat), (52, s_impl_IsFinite), (66, s_spec_l00In), (76, s_impl_within), (82, s_spec_l01Finite), (89, s_impl_isLeast), (96, s_spec_l02Least), (113, s_impl_areFinite_1), (24, s_laws_toFloat32S), (40, s_laws_heldFloat32S), (62, s_spec_l04Mean), (98, s_impl_sum), (117, s_impl_areLeast_1), (27, s_laws_eqFloat32S), (64, s_impl_meanOf), (60, s_spec_l04Winds), (116, s_slices_IndexFunc_sf32_f32_areFinite_1), (75, s_spec_l04Smooth), (116, s_slices_IndexFunc_sf32_f32_areLeast_1), (37, s_spec_SmoothWinds), (94, s_slices_ContainsFunc_sf32_f32_areFinite_1), (94, s_slices_ContainsFunc_sf32_f32_areLeast_1), (90, s_impl_areFinite), (97, s_impl_areLeast), (63, s_impl_areWinds)]
noncomputable def lt10 : List ((Nat × Nat) × (Nat → St → Option (Bool × LO))) := [((24, 3), l_laws_toFloat32S_l3), ((40, 2), l_laws_heldFloat32S_l2), ((62, 3), l_spec_l04Mean_l3), ((98, 3), l_impl_sum_l3), ((27, 4), l_laws_eqFloat32S_l4), ((60, 2), l_spec_l04Winds_l2), ((116, 2), l_slices_IndexFunc_sf32_f32_areFinite_1_l2), ((75, 3), l_spec_l04Smooth_l3), ((116, 2), l_slices_IndexFunc_sf32_f32_areLeast_1_l2)]
noncomputable def Γ10 : Ctx := ⟨tyTab, fnTab, tblSum tb10, tblLp lt10⟩
theorem tb10_ok : SumL Try.prog tb10 := SumL.cons s_math_Float32bits_ok (SumL.cons s_math_archFloor_ok (SumL.cons s_math_Float64frombits_ok (SumL.cons s_math_Float64bits_ok (SumL.cons s_math_archTrunc_ok (SumL.cons s_laws_sameFloat_ok (SumL.cons s_impl_IsFinite_ok (SumL.cons s_spec_l00In_ok (SumL.cons s_impl_within_ok (SumL.cons s_spec_l01Finite_ok (SumL.cons s_impl_isLeast_ok (SumL.cons s_spec_l02Least_ok (SumL.cons s_impl_areFinite_1_ok (SumL.cons s_laws_toFloat32S_ok (SumL.cons s_laws_heldFloat32S_ok (SumL.cons s_spec_l04Mean_ok (SumL.cons s_impl_sum_ok (SumL.cons s_impl_areLeast_1_ok (SumL.cons s_laws_eqFloat32S_ok (SumL.cons s_impl_meanOf_ok (SumL.cons s_spec_l04Winds_ok (SumL.cons s_slices_IndexFunc_sf32_f32_areFinite_1_ok (SumL.cons s_spec_l04Smooth_ok (SumL.cons s_slices_IndexFunc_sf32_f32_areLeast_1_ok (SumL.cons s_spec_SmoothWinds_ok (SumL.cons s_slices_ContainsFunc_sf32_f32_areFinite_1_ok (SumL.cons s_slices_ContainsFunc_sf32_f32_areLeast_1_ok (SumL.cons s_impl_areFinite_ok (SumL.cons s_impl_areLeast_ok (SumL.cons s_impl_areWinds_ok (SumL.nil))))))))))))))))))))))))))))))
theorem lt10_ok : LpL Try.prog fnTab lt10 := LpL.cons l_laws_toFloat32S_l3_ok (LpL.cons l_laws_heldFloat32S_l2_ok (LpL.cons l_spec_l04Mean_l3_ok (LpL.cons l_impl_sum_l3_ok (LpL.cons l_laws_eqFloat32S_l4_ok (LpL.cons l_spec_l04Winds_l2_ok (LpL.cons l_slices_IndexFunc_sf32_f32_areFinite_1_l2_ok (LpL.cons l_spec_l04Smooth_l3_ok (LpL.cons l_slices_IndexFunc_sf32_f32_areLeast_1_l2_ok (LpL.nil)))))))))
noncomputable def l_impl_SmoothWinds_l5 : Nat → St → Option (Bool × LO)
  | 1, (St.mk [(0, (AV.v (TV.one (At.vw 0 0 listn 1)))), (1, (AV.v (TV.one (At.int IntKind.i64 window)))), (6, (AV.v (TV.one (At.sl 1 0 outn 1)))), (23, (AV.v (TV.one (At.int IntKind.i64 t23)))), (24, (AV.v (TV.one (At.int IntKind.i64 t24))))] [(Blk.mk Bool.false (Body.fl FloatKind.f32 b0)), (Blk.mk Bool.true (Body.fl FloatKind.f32 b1))]) => some ((impl_SmoothWinds_l5_p listn window t23 b0 outn t24 b1), (LO.one (Ex.exit 0) (St.mk [(0, (AV.v (TV.one (At.vw 0 0 listn 1)))), (1, (AV.v (TV.one (At.int IntKind.i64 window)))), (6, (AV.v (TV.one (At.sl 1 0 (impl_SmoothWinds_l5_a0_0 listn window t23 b0 outn t24 b1) 1)))), (23, (AV.v (TV.one (At.int IntKind.i64 t23)))), (24, (AV.v (TV.one (At.int IntKind.i64 (impl_SmoothWinds_l5_a0_1 listn window t23 b0 outn t24 b1))))), (25, (AV.v (TV.one (At.bool (impl_SmoothWinds_l5_a0_2 listn window t23 b0 outn t24 b1)))))] [(Blk.mk Bool.false (Body.fl FloatKind.f32 b0)), (Blk.mk Bool.true (Body.fl FloatKind.f32 (impl_SmoothWinds_l5_a0_3 listn window t23 b0 outn t24 b1)))])))
  | _, _ => none
def o_impl_SmoothWinds_l5 (listn : Nat) (window : Int) (t23 : Int) (b0 : List Nat) : Option ((Nat × Int × Bool × (List Nat))) → Option (Ex × St)
  | none => none
  | some r => some ((Ex.exit 0), (St.mk [(0, (AV.v (TV.one (At.vw 0 0 listn 1)))), (1, (AV.v (TV.one (At.int IntKind.i64 window)))), (6, (AV.v (TV.one (At.sl 1 0 r.1 1)))), (23, (AV.v (TV.one (At.int IntKind.i64 t23)))), (24, (AV.v (TV.one (At.int IntKind.i64 r.2.1)))), (25, (AV.v (TV.one (At.bool r.2.2.1))))] [(Blk.mk Bool.false (Body.fl FloatKind.f32 b0)), (Blk.mk Bool.true (Body.fl FloatKind.f32 r.2.2.2))]))
def lo_impl_SmoothWinds_l5 (listn : Nat) (window : Int) (t23 : Int) (b0 : List Nat) (x : Option ((Nat × Int × Bool × (List Nat)))) : LO := (LO.one (Ex.exit 0) (St.mk [(0, (AV.v (TV.one (At.vw 0 0 listn 1)))), (1, (AV.v (TV.one (At.int IntKind.i64 window)))), (6, (AV.v (TV.one (At.sl 1 0 (x.getD default).1 1)))), (23, (AV.v (TV.one (At.int IntKind.i64 t23)))), (24, (AV.v (TV.one (At.int IntKind.i64 (x.getD default).2.1)))), (25, (AV.v (TV.one (At.bool (x.getD default).2.2.1))))] [(Blk.mk Bool.false (Body.fl FloatKind.f32 b0)), (Blk.mk Bool.true (Body.fl FloatKind.f32 (x.getD default).2.2.2))]))
theorem f_impl_SmoothWinds_l5 (listn : Nat) (window : Int) (t23 : Int) (b0 : List Nat) : ∀ x : Option ((Nat × Int × Bool × (List Nat))), x.isSome = true → (o_impl_SmoothWinds_l5 listn window t23 b0) x = some (pick (lo_impl_SmoothWinds_l5 listn window t23 b0 x))
  | none, h => by cases h
  | some r, _ => rfl
theorem r_impl_SmoothWinds_l5 (listn : Nat) (window : Int) (outn : Nat) (t23 : Int) (t24 : Int) (b0 : List Nat) (b1 : List Nat) (K : Ex → St → Option (Ex × St)) : evC (R := Ex × St) Γ10 (evFn Γ10 8 8) 38 1 fi38.nt fi38.live fi38.nl 8 (findL 5 (loopsIn fi38.code)) (St.mk [(0, (AV.v (TV.one (At.vw 0 0 listn 1)))), (1, (AV.v (TV.one (At.int IntKind.i64 window)))), (6, (AV.v (TV.one (At.sl 1 0 outn 1)))), (23, (AV.v (TV.one (At.int IntKind.i64 t23)))), (24, (AV.v (TV.one (At.int IntKind.i64 t24))))] [(Blk.mk Bool.false (Body.fl FloatKind.f32 b0)), (Blk.mk Bool.true (Body.fl FloatKind.f32 b1))]) K = T_impl_SmoothWinds_l5 listn window t23 b0 outn t24 b1 (fun outn' t24' b1' => K .normal (St.mk [(0, (AV.v (TV.one (At.vw 0 0 listn 1)))), (1, (AV.v (TV.one (At.int IntKind.i64 window)))), (6, (AV.v (TV.one (At.sl 1 0 outn' 1)))), (23, (AV.v (TV.one (At.int IntKind.i64 t23)))), (24, (AV.v (TV.one (At.int IntKind.i64 t24'))))] [(Blk.mk Bool.false (Body.fl FloatKind.f32 b0)), (Blk.mk Bool.true (Body.fl FloatKind.f32 b1'))])) (fun c0_ c1_ c2_ c3_ => K (Ex.exit 0) (St.mk [(0, (AV.v (TV.one (At.vw 0 0 listn 1)))), (1, (AV.v (TV.one (At.int IntKind.i64 window)))), (6, (AV.v (TV.one (At.sl 1 0 c0_ 1)))), (23, (AV.v (TV.one (At.int IntKind.i64 t23)))), (24, (AV.v (TV.one (At.int IntKind.i64 c1_)))), (25, (AV.v (TV.one (At.bool c2_))))] [(Blk.mk Bool.false (Body.fl FloatKind.f32 b0)), (Blk.mk Bool.true (Body.fl FloatKind.f32 c3_))])) := by kernel_rfl
theorem i_impl_SmoothWinds_l5 (listn : Nat) (window : Int) (t23 : Int) (b0 : List Nat) : ∀ (n : Nat) (outn : Nat) (t24 : Int) (b1 : List Nat), iter 38 5 1 (evC (R := Ex × St) Γ10 (evFn Γ10 8 8) 38 1 fi38.nt fi38.live fi38.nl 8 (findL 5 (loopsIn fi38.code))) n (St.mk [(0, (AV.v (TV.one (At.vw 0 0 listn 1)))), (1, (AV.v (TV.one (At.int IntKind.i64 window)))), (6, (AV.v (TV.one (At.sl 1 0 outn 1)))), (23, (AV.v (TV.one (At.int IntKind.i64 t23)))), (24, (AV.v (TV.one (At.int IntKind.i64 t24))))] [(Blk.mk Bool.false (Body.fl FloatKind.f32 b0)), (Blk.mk Bool.true (Body.fl FloatKind.f32 b1))]) (fun e st => some (e, st)) = (o_impl_SmoothWinds_l5 listn window t23 b0) (L_impl_SmoothWinds_l5 listn window t23 b0 n outn t24 b1) := by
  intro n
  induction n with
  | zero => intros; rfl
  | succ n ih =>
    intro outn t24 b1
    refine Eq.trans (iter_succ ..) (Eq.trans (r_impl_SmoothWinds_l5 listn window outn t23 t24 b0 b1 (nextK 38 5 1 (evC (R := Ex × St) Γ10 (evFn Γ10 8 8) 38 1 fi38.nt fi38.live fi38.nl 8 (findL 5 (loopsIn fi38.code))) n (fun e st => some (e, st)))) (Eq.trans ?_ (T_impl_SmoothWinds_l5_nat (o_impl_SmoothWinds_l5 listn window t23 b0) rfl listn window t23 b0 outn t24 b1 (fun outn' t24' b1' => L_impl_SmoothWinds_l5 listn window t23 b0 n outn' t24' b1') (fun c0_ c1_ c2_ c3_ => some (c0_, c1_, c2_, c3_)))))
    exact congrArg (fun kn_ => T_impl_SmoothWinds_l5 listn window t23 b0 outn t24 b1 kn_ (fun c0_ c1_ c2_ c3_ => (o_impl_SmoothWinds_l5 listn window t23 b0) (some (c0_, c1_, c2_, c3_)))) (funext fun outn' => funext fun t24' => funext fun b1' => ih outn' t24' b1')
theorem l_impl_SmoothWinds_l5_ok : LoopOne Try.prog fnTab 38 5 l_impl_SmoothWinds_l5 := lp_of (Γ := Γ10) tyTab_ok (FnL.ok fnTab_ok _ _) (LpL.ok lt10_ok) (SumL.ok tb10_ok _) mixed (fi := fi38) (by kernel_rfl) (by kernel_rfl) (by
  intro lo st out hp
  unfold l_impl_SmoothWinds_l5 at hp
  split at hp
  · rename_i listn window outn t23 t24 b0 b1
    injection hp with hp
    injection hp with h1 h2
    subst h2
    exact ⟨8, 8, big, Eq.trans (i_impl_SmoothWinds_l5 listn window t23 b0 big outn t24 b1) (f_impl_SmoothWinds_l5 listn window t23 b0 (L_impl_SmoothWinds_l5 listn window t23 b0 big outn t24 b1) h1)⟩
  · cases hp)
noncomputable def tb11 : List (Nat × (List PT → Option (Bool × AV × List Blk))) := [(109, s_math_Float32bits), (118, s_math_archFloor), (125, s_math_Float64frombits), (133, s_math_Float64bits), (139, s_math_archTrunc), (26, s_laws_sameFloat), (52, s_impl_IsFinite), (66, s_spec_l00In), (76, s_impl_within), (82, s_spec_l01Finite), (89, s_impl_isLeast), (96, s_spec_l02Least), (113, s_impl_areFinite_1), (24, s_laws_toFloat32S), (40, s_laws_heldFloat32S), (62, s_spec_l04Mean), (98, s_impl_sum), (117, s_impl_areLeast_1), (27, s_laws_eqFloat32S), (64, s_impl_meanOf), (60, s_spec_l04Winds), (116, s_slices_IndexFunc_sf32_f32_areFinite_1), (75, s_spec_l04Smooth), (116, s_slices_IndexFunc_sf32_f32_areLeast_1), (37, s_spec_SmoothWinds), (94, s_slices_ContainsFunc_sf32_f32_areFinite_1), (94, s_slices_ContainsFunc_sf32_f32_areLeast_1), (90, s_impl_areFinite), (97, s_impl_areLeast), (63, s_impl_areWinds)]
noncomputable def lt11 : List ((Nat × Nat) × (Nat → St → Option (Bool × LO))) := [((24, 3), l_laws_toFloat32S_l3), ((40, 2), l_laws_heldFloat32S_l2), ((62, 3), l_spec_l04Mean_l3), ((98, 3), l_impl_sum_l3), ((27, 4), l_laws_eqFloat32S_l4), ((60, 2), l_spec_l04Winds_l2), ((116, 2), l_slices_IndexFunc_sf32_f32_areFinite_1_l2), ((75, 3), l_spec_l04Smooth_l3), ((116, 2), l_slices_IndexFunc_sf32_f32_areLeast_1_l2), ((38, 5), l_impl_SmoothWinds_l5)]
noncomputable def Γ11 : Ctx := ⟨tyTab, fnTab, tblSum tb11, tblLp lt11⟩
theorem tb11_ok : SumL Try.prog tb11 := SumL.cons s_math_Float32bits_ok (SumL.cons s_math_archFloor_ok (SumL.cons s_math_Float64frombits_ok (SumL.cons s_math_Float64bits_ok (SumL.cons s_math_archTrunc_ok (SumL.cons s_laws_sameFloat_ok (SumL.cons s_impl_IsFinite_ok (SumL.cons s_spec_l00In_ok (SumL.cons s_impl_within_ok (SumL.cons s_spec_l01Finite_ok (SumL.cons s_impl_isLeast_ok (SumL.cons s_spec_l02Least_ok (SumL.cons s_impl_areFinite_1_ok (SumL.cons s_laws_toFloat32S_ok (SumL.cons s_laws_heldFloat32S_ok (SumL.cons s_spec_l04Mean_ok (SumL.cons s_impl_sum_ok (SumL.cons s_impl_areLeast_1_ok (SumL.cons s_laws_eqFloat32S_ok (SumL.cons s_impl_meanOf_ok (SumL.cons s_spec_l04Winds_ok (SumL.cons s_slices_IndexFunc_sf32_f32_areFinite_1_ok (SumL.cons s_spec_l04Smooth_ok (SumL.cons s_slices_IndexFunc_sf32_f32_areLeast_1_ok (SumL.cons s_spec_SmoothWinds_ok (SumL.cons s_slices_ContainsFunc_sf32_f32_areFinite_1_ok (SumL.cons s_slices_ContainsFunc_sf32_f32_areLeast_1_ok (SumL.cons s_impl_areFinite_ok (SumL.cons s_impl_areLeast_ok (SumL.cons s_impl_areWinds_ok (SumL.nil))))))))))))))))))))))))))))))
theorem lt11_ok : LpL Try.prog fnTab lt11 := LpL.cons l_laws_toFloat32S_l3_ok (LpL.cons l_laws_heldFloat32S_l2_ok (LpL.cons l_spec_l04Mean_l3_ok (LpL.cons l_impl_sum_l3_ok (LpL.cons l_laws_eqFloat32S_l4_ok (LpL.cons l_spec_l04Winds_l2_ok (LpL.cons l_slices_IndexFunc_sf32_f32_areFinite_1_l2_ok (LpL.cons l_spec_l04Smooth_l3_ok (LpL.cons l_slices_IndexFunc_sf32_f32_areLeast_1_l2_ok (LpL.cons l_impl_SmoothWinds_l5_ok (LpL.nil))))))))))
noncomputable def s_impl_SmoothWinds : List PT → Option (Bool × AV × List Blk)
  | [.one (.row 1 list_n (.fl .f32 list)), .one (.s (.int .i64 window))] => some ((impl_SmoothWinds_p list_n list window), ((AV.tup [(TV.one (At.sl 0 0 (impl_SmoothWinds_v0 list_n list window) 1)), (TV.one (At.bool (impl_SmoothWinds_v1 list_n list window)))]), [(Blk.mk Bool.true (Body.fl FloatKind.f32 (impl_SmoothWinds_v2 list_n list window)))]))
  | _ => none
def o_impl_SmoothWinds (list_n : Nat) (list : List Nat) (window : Int) : Option (Nat × Bool × (List Nat)) → Option (AV × List Blk)
  | some r => some ((AV.tup [(TV.one (At.sl 0 0 r.1 1)), (TV.one (At.bool r.2.1))]), [(Blk.mk Bool.true (Body.fl FloatKind.f32 r.2.2))])
  | none => none
theorem e_impl_SmoothWinds (list_n : Nat) (list : List Nat) (window : Int) : evFn Γ11 8 8 38 (impTs 0 [.one (.row 1 list_n (.fl .f32 list)), .one (.s (.int .i64 window))]).1 (impTs 0 [.one (.row 1 list_n (.fl .f32 list)), .one (.s (.int .i64 window))]).2 (expo (impTs 0 [.one (.row 1 list_n (.fl .f32 list)), .one (.s (.int .i64 window))]).2.length) = T_impl_SmoothWinds list_n list window (fun c0_ c1_ c2_ => some ((AV.tup [(TV.one (At.sl 0 0 c0_ 1)), (TV.one (At.bool c1_))]), [(Blk.mk Bool.true (Body.fl FloatKind.f32 c2_))])) := by kernel_rfl
theorem s_impl_SmoothWinds_ok : SumOne Try.prog 38 s_impl_SmoothWinds := sum_of (Γ := Γ11) (fuel := 8) (d := 8) tyTab_ok (FnL.ok fnTab_ok _ _) (LpL.ok lt11_ok) (SumL.ok tb11_ok _) mixed (by
  intro pts v news hp hc
  clear hc
  unfold s_impl_SmoothWinds at hp
  split at hp
  · rename_i list_n list window
    exact Eq.trans (Eq.trans (e_impl_SmoothWinds list_n list window) (T_impl_SmoothWinds_nat (o_impl_SmoothWinds list_n list window) rfl list_n list window (fun c0_ c1_ c2_ => some (c0_, c1_, c2_)))) (fin_out (o := (o_impl_SmoothWinds list_n list window)) (x := F_impl_SmoothWinds list_n list window) (d := default) (V := fun r => ((AV.tup [(TV.one (At.sl 0 0 r.1 1)), (TV.one (At.bool r.2.1))]), [(Blk.mk Bool.true (Body.fl FloatKind.f32 r.2.2))])) (fun r => rfl) hp)
  · cases hp)
noncomputable def tb12 : List (Nat × (List PT → Option (Bool × AV × List Blk))) := [(109, s_math_Float32bits), (118, s_math_archFloor), (125, s_math_Float64frombits), (133, s_math_Float64bits), (139, s_math_archTrunc), (26, s_laws_sameFloat), (52, s_impl_IsFinite), (66, s_spec_l00In), (76, s_impl_within), (82, s_spec_l01Finite), (89, s_impl_isLeast), (96, s_spec_l02Least), (113, s_impl_areFinite_1), (24, s_laws_toFloat32S), (40, s_laws_heldFloat32S), (62, s_spec_l04Mean), (98, s_impl_sum), (117, s_impl_areLeast_1), (27, s_laws_eqFloat32S), (64, s_impl_meanOf), (60, s_spec_l04Winds), (116, s_slices_IndexFunc_sf32_f32_areFinite_1), (75, s_spec_l04Smooth), (116, s_slices_IndexFunc_sf32_f32_areLeast_1), (37, s_spec_SmoothWinds), (94, s_slices_ContainsFunc_sf32_f32_areFinite_1), (94, s_slices_ContainsFunc_sf32_f32_areLeast_1), (90, s_impl_areFinite), (97, s_impl_areLeast), (63, s_impl_areWinds), (38, s_impl_SmoothWinds)]
noncomputable def lt12 : List ((Nat × Nat) × (Nat → St → Option (Bool × LO))) := [((24, 3), l_laws_toFloat32S_l3), ((40, 2), l_laws_heldFloat32S_l2), ((62, 3), l_spec_l04Mean_l3), ((98, 3), l_impl_sum_l3), ((27, 4), l_laws_eqFloat32S_l4), ((60, 2), l_spec_l04Winds_l2), ((116, 2), l_slices_IndexFunc_sf32_f32_areFinite_1_l2), ((75, 3), l_spec_l04Smooth_l3), ((116, 2), l_slices_IndexFunc_sf32_f32_areLeast_1_l2), ((38, 5), l_impl_SmoothWinds_l5)]
noncomputable def Γ12 : Ctx := ⟨tyTab, fnTab, tblSum tb12, tblLp lt12⟩
theorem tb12_ok : SumL Try.prog tb12 := SumL.cons s_math_Float32bits_ok (SumL.cons s_math_archFloor_ok (SumL.cons s_math_Float64frombits_ok (SumL.cons s_math_Float64bits_ok (SumL.cons s_math_archTrunc_ok (SumL.cons s_laws_sameFloat_ok (SumL.cons s_impl_IsFinite_ok (SumL.cons s_spec_l00In_ok (SumL.cons s_impl_within_ok (SumL.cons s_spec_l01Finite_ok (SumL.cons s_impl_isLeast_ok (SumL.cons s_spec_l02Least_ok (SumL.cons s_impl_areFinite_1_ok (SumL.cons s_laws_toFloat32S_ok (SumL.cons s_laws_heldFloat32S_ok (SumL.cons s_spec_l04Mean_ok (SumL.cons s_impl_sum_ok (SumL.cons s_impl_areLeast_1_ok (SumL.cons s_laws_eqFloat32S_ok (SumL.cons s_impl_meanOf_ok (SumL.cons s_spec_l04Winds_ok (SumL.cons s_slices_IndexFunc_sf32_f32_areFinite_1_ok (SumL.cons s_spec_l04Smooth_ok (SumL.cons s_slices_IndexFunc_sf32_f32_areLeast_1_ok (SumL.cons s_spec_SmoothWinds_ok (SumL.cons s_slices_ContainsFunc_sf32_f32_areFinite_1_ok (SumL.cons s_slices_ContainsFunc_sf32_f32_areLeast_1_ok (SumL.cons s_impl_areFinite_ok (SumL.cons s_impl_areLeast_ok (SumL.cons s_impl_areWinds_ok (SumL.cons s_impl_SmoothWinds_ok (SumL.nil)))))))))))))))))))))))))))))))
theorem lt12_ok : LpL Try.prog fnTab lt12 := LpL.cons l_laws_toFloat32S_l3_ok (LpL.cons l_laws_heldFloat32S_l2_ok (LpL.cons l_spec_l04Mean_l3_ok (LpL.cons l_impl_sum_l3_ok (LpL.cons l_laws_eqFloat32S_l4_ok (LpL.cons l_spec_l04Winds_l2_ok (LpL.cons l_slices_IndexFunc_sf32_f32_areFinite_1_l2_ok (LpL.cons l_spec_l04Smooth_l3_ok (LpL.cons l_slices_IndexFunc_sf32_f32_areLeast_1_l2_ok (LpL.cons l_impl_SmoothWinds_l5_ok (LpL.nil))))))))))
noncomputable def tb13 : List (Nat × (List PT → Option (Bool × AV × List Blk))) := [(109, s_math_Float32bits), (118, s_math_archFloor), (125, s_math_Float64frombits), (133, s_math_Float64bits), (139, s_math_archTrunc), (26, s_laws_sameFloat), (52, s_impl_IsFinite), (66, s_spec_l00In), (76, s_impl_within), (82, s_spec_l01Finite), (89, s_impl_isLeast), (96, s_spec_l02Least), (113, s_impl_areFinite_1), (24, s_laws_toFloat32S), (40, s_laws_heldFloat32S), (62, s_spec_l04Mean), (98, s_impl_sum), (117, s_impl_areLeast_1), (27, s_laws_eqFloat32S), (64, s_impl_meanOf), (60, s_spec_l04Winds), (116, s_slices_IndexFunc_sf32_f32_areFinite_1), (75, s_spec_l04Smooth), (116, s_slices_IndexFunc_sf32_f32_areLeast_1), (37, s_spec_SmoothWinds), (94, s_slices_ContainsFunc_sf32_f32_areFinite_1), (94, s_slices_ContainsFunc_sf32_f32_areLeast_1), (90, s_impl_areFinite), (97, s_impl_areLeast), (63, s_impl_areWinds), (38, s_impl_SmoothWinds)]
noncomputable def lt13 : List ((Nat × Nat) × (Nat → St → Option (Bool × LO))) := [((24, 3), l_laws_toFloat32S_l3), ((40, 2), l_laws_heldFloat32S_l2), ((62, 3), l_spec_l04Mean_l3), ((98, 3), l_impl_sum_l3), ((27, 4), l_laws_eqFloat32S_l4), ((60, 2), l_spec_l04Winds_l2), ((116, 2), l_slices_IndexFunc_sf32_f32_areFinite_1_l2), ((75, 3), l_spec_l04Smooth_l3), ((116, 2), l_slices_IndexFunc_sf32_f32_areLeast_1_l2), ((38, 5), l_impl_SmoothWinds_l5)]
noncomputable def Γ13 : Ctx := ⟨tyTab, fnTab, tblSum tb13, tblLp lt13⟩
theorem tb13_ok : SumL Try.prog tb13 := SumL.cons s_math_Float32bits_ok (SumL.cons s_math_archFloor_ok (SumL.cons s_math_Float64frombits_ok (SumL.cons s_math_Float64bits_ok (SumL.cons s_math_archTrunc_ok (SumL.cons s_laws_sameFloat_ok (SumL.cons s_impl_IsFinite_ok (SumL.cons s_spec_l00In_ok (SumL.cons s_impl_within_ok (SumL.cons s_spec_l01Finite_ok (SumL.cons s_impl_isLeast_ok (SumL.cons s_spec_l02Least_ok (SumL.cons s_impl_areFinite_1_ok (SumL.cons s_laws_toFloat32S_ok (SumL.cons s_laws_heldFloat32S_ok (SumL.cons s_spec_l04Mean_ok (SumL.cons s_impl_sum_ok (SumL.cons s_impl_areLeast_1_ok (SumL.cons s_laws_eqFloat32S_ok (SumL.cons s_impl_meanOf_ok (SumL.cons s_spec_l04Winds_ok (SumL.cons s_slices_IndexFunc_sf32_f32_areFinite_1_ok (SumL.cons s_spec_l04Smooth_ok (SumL.cons s_slices_IndexFunc_sf32_f32_areLeast_1_ok (SumL.cons s_spec_SmoothWinds_ok (SumL.cons s_slices_ContainsFunc_sf32_f32_areFinite_1_ok (SumL.cons s_slices_ContainsFunc_sf32_f32_areLeast_1_ok (SumL.cons s_impl_areFinite_ok (SumL.cons s_impl_areLeast_ok (SumL.cons s_impl_areWinds_ok (SumL.cons s_impl_SmoothWinds_ok (SumL.nil)))))))))))))))))))))))))))))))
theorem lt13_ok : LpL Try.prog fnTab lt13 := LpL.cons l_laws_toFloat32S_l3_ok (LpL.cons l_laws_heldFloat32S_l2_ok (LpL.cons l_spec_l04Mean_l3_ok (LpL.cons l_impl_sum_l3_ok (LpL.cons l_laws_eqFloat32S_l4_ok (LpL.cons l_spec_l04Winds_l2_ok (LpL.cons l_slices_IndexFunc_sf32_f32_areFinite_1_l2_ok (LpL.cons l_spec_l04Smooth_l3_ok (LpL.cons l_slices_IndexFunc_sf32_f32_areLeast_1_l2_ok (LpL.cons l_impl_SmoothWinds_l5_ok (LpL.nil))))))))))
noncomputable def l_laws_FnExactSmoothWinds__markFloat32S_l2 : Nat → St → Option (Bool × LO)
  | 4, (St.mk [(0, (AV.v (TV.one (At.sl 2 0 an 1)))), (1, (AV.v (TV.one (At.int IntKind.i64 k)))), (5, (AV.v (TV.one (At.int IntKind.i64 i))))] [(Blk.mk Bool.false (Body.fl FloatKind.f32 b0)), (Blk.mk Bool.true (Body.fl FloatKind.f32 b1)), (Blk.mk Bool.true (Body.fl FloatKind.f32 b2)), (Blk.mk Bool.true (Body.fl FloatKind.f32 b3))]) => some ((laws_FnExactSmoothWinds__markFloat32S_l2_p an k i b2), (LO.one (Ex.exit 0) (St.mk [(0, (AV.v (TV.one (At.sl 2 0 an 1)))), (1, (AV.v (TV.one (At.int IntKind.i64 (laws_FnExactSmoothWinds__markFloat32S_l2_a0_0 an k i b2))))), (5, (AV.v (TV.one (At.int IntKind.i64 (laws_FnExactSmoothWinds__markFloat32S_l2_a0_1 an k i b2))))), (9, (AV.v (TV.one (At.bool (laws_FnExactSmoothWinds__markFloat32S_l2_a0_2 an k i b2)))))] [(Blk.mk Bool.false (Body.fl FloatKind.f32 b0)), (Blk.mk Bool.true (Body.fl FloatKind.f32 b1)), (Blk.mk Bool.true (Body.fl FloatKind.f32 (laws_FnExactSmoothWinds__markFloat32S_l2_a0_3 an k i b2))), (Blk.mk Bool.true (Body.fl FloatKind.f32 b3))])))
  | _, _ => none
def o_laws_FnExactSmoothWinds__markFloat32S_l2 (an : Nat) (b0 : List Nat) (b1 : List Nat) (b3 : List Nat) : Option ((Int × Int × Bool × (List Nat))) → Option (Ex × St)
  | none => none
  | some r => some ((Ex.exit 0), (St.mk [(0, (AV.v (TV.one (At.sl 2 0 an 1)))), (1, (AV.v (TV.one (At.int IntKind.i64 r.1)))), (5, (AV.v (TV.one (At.int IntKind.i64 r.2.1)))), (9, (AV.v (TV.one (At.bool r.2.2.1))))] [(Blk.mk Bool.false (Body.fl FloatKind.f32 b0)), (Blk.mk Bool.true (Body.fl FloatKind.f32 b1)), (Blk.mk Bool.true (Body.fl FloatKind.f32 r.2.2.2)), (Blk.mk Bool.true (Body.fl FloatKind.f32 b3))]))
def lo_laws_FnExactSmoothWinds__markFloat32S_l2 (an : Nat) (b0 : List Nat) (b1 : List Nat) (b3 : List Nat) (x : Option ((Int × Int × Bool × (List Nat)))) : LO := (LO.one (Ex.exit 0) (St.mk [(0, (AV.v (TV.one (At.sl 2 0 an 1)))), (1, (AV.v (TV.one (At.int IntKind.i64 (x.getD default).1)))), (5, (AV.v (TV.one (At.int IntKind.i64 (x.getD default).2.1)))), (9, (AV.v (TV.one (At.bool (x.getD default).2.2.1))))] [(Blk.mk Bool.false (Body.fl FloatKind.f32 b0)), (Blk.mk Bool.true (Body.fl FloatKind.f32 b1)), (Blk.mk Bool.true (Body.fl FloatKind.f32 (x.getD default).2.2.2)), (Blk.mk Bool.true (Body.fl FloatKind.f32 b3))]))
theorem f_laws_FnExactSmoothWinds__markFloat32S_l2 (an : Nat) (b0 : List Nat) (b1 : List Nat) (b3 : List Nat) : ∀ x : Option ((Int × Int × Bool × (List Nat))), x.isSome = true → (o_laws_FnExactSmoothWinds__markFloat32S_l2 an b0 b1 b3) x = some (pick (lo_laws_FnExactSmoothWinds__markFloat32S_l2 an b0 b1 b3 x))
  | none, h => by cases h
  | some r, _ => rfl
theorem r_laws_FnExactSmoothWinds__markFloat32S_l2 (an : Nat) (k : Int) (i : Int) (b0 : List Nat) (b1 : List Nat) (b2 : List Nat) (b3 : List Nat) (K : Ex → St → Option (Ex × St)) : evC (R := Ex × St) Γ13 (evFn Γ13 8 8) 39 4 fi39.nt fi39.live fi39.nl 8 (findL 2 (loopsIn fi39.code)) (St.mk [(0, (AV.v (TV.one (At.sl 2 0 an 1)))), (1, (AV.v (TV.one (At.int IntKind.i64 k)))), (5, (AV.v (TV.one (At.int IntKind.i64 i))))] [(Blk.mk Bool.false (Body.fl FloatKind.f32 b0)), (Blk.mk Bool.true (Body.fl FloatKind.f32 b1)), (Blk.mk Bool.true (Body.fl FloatKind.f32 b2)), (Blk.mk Bool.true (Body.fl FloatKind.f32 b3))]) K = T_laws_FnExactSmoothWinds__markFloat32S_l2 an k i b2 (fun k' i' b2' => K .normal (St.mk [(0, (AV.v (TV.one (At.sl 2 0 an 1)))), (1, (AV.v (TV.one (At.int IntKind.i64 k')))), (5, (AV.v (TV.one (At.int IntKind.i64 i'))))] [(Blk.mk Bool.false (Body.fl FloatKind.f32 b0)), (Blk.mk Bool.true (Body.fl FloatKind.f32 b1)), (Blk.mk Bool.true (Body.fl FloatKind.f32 b2')), (Blk.mk Bool.true (Body.fl FloatKind.f32 b3))])) (fun c0_ c1_ c2_ c3_ => K (Ex.exit 0) (St.mk [(0, (AV.v (TV.one (At.sl 2 0 an 1)))), (1, (AV.v (TV.one (At.int IntKind.i64 c0_)))), (5, (AV.v (TV.one (At.int IntKind.i64 c1_)))), (9, (AV.v (TV.one (At.bool c2_))))] [(Blk.mk Bool.false (Body.fl FloatKind.f32 b0)), (Blk.mk Bool.true (Body.fl FloatKind.f32 b1)), (Blk.mk Bool.true (Body.fl FloatKind.f32 c3_)), (Blk.mk Bool.true (Body.fl FloatKind.f32 b3))])) := by kernel_rfl
theorem i_laws_FnExactSmoothWinds__markFloat32S_l2 (an : Nat) (b0 : List Nat) (b1 : List Nat) (b3 : List Nat) : ∀ (n : Nat) (k : Int) (i : Int) (b2 : List Nat), iter 39 2 4 (evC (R := Ex × St) Γ13 (evFn Γ13 8 8) 39 4 fi39.nt fi39.live fi39.nl 8 (findL 2 (loopsIn fi39.code))) n (St.mk [(0, (AV.v (TV.one (At.sl 2 0 an 1)))), (1, (AV.v (TV.one (At.int IntKind.i64 k)))), (5, (AV.v (TV.one (At.int IntKind.i64 i))))] [(Blk.mk Bool.false (Body.fl FloatKind.f32 b0)), (Blk.mk Bool.true (Body.fl FloatKind.f32 b1)), (Blk.mk Bool.true (Body.fl FloatKind.f32 b2)), (Blk.mk Bool.true (Body.fl FloatKind.f32 b3))]) (fun e st => some (e, st)) = (o_laws_FnExactSmoothWinds__markFloat32S_l2 an b0 b1 b3) (L_laws_FnExactSmoothWinds__markFloat32S_l2 an n k i b2) := by
  intro n
  induction n with
  | zero => intros; rfl
  | succ n ih =>
    intro k i b2
    refine Eq.trans (iter_succ ..) (Eq.trans (r_laws_FnExactSmoothWinds__markFloat32S_l2 an k i b0 b1 b2 b3 (nextK 39 2 4 (evC (R := Ex × St) Γ13 (evFn Γ13 8 8) 39 4 fi39.nt fi39.live fi39.nl 8 (findL 2 (loopsIn fi39.code))) n (fun e st => some (e, st)))) (Eq.trans ?_ (T_laws_FnExactSmoothWinds__markFloat32S_l2_nat (o_laws_FnExactSmoothWinds__markFloat32S_l2 an b0 b1 b3) rfl an k i b2 (fun k' i' b2' => L_laws_FnExactSmoothWinds__markFloat32S_l2 an n k' i' b2') (fun c0_ c1_ c2_ c3_ => some (c0_, c1_, c2_, c3_)))))
    exact congrArg (fun kn_ => T_laws_FnExactSmoothWinds__markFloat32S_l2 an k i b2 kn_ (fun c0_ c1_ c2_ c3_ => (o_laws_FnExactSmoothWinds__markFloat32S_l2 an b0 b1 b3) (some (c0_, c1_, c2_, c3_)))) (funext fun k' => funext fun i' => funext fun b2' => ih k' i' b2')
theorem l_laws_FnExactSmoothWinds__markFloat32S_l2_ok : LoopOne Try.prog fnTab 39 2 l_laws_FnExactSmoothWinds__markFloat32S_l2 := lp_of (Γ := Γ13) tyTab_ok (FnL.ok fnTab_ok _ _) (LpL.ok lt13_ok) (SumL.ok tb13_ok _) mixed (fi := fi39) (by kernel_rfl) (by kernel_rfl) (by
  intro lo st out hp
  unfold l_laws_FnExactSmoothWinds__markFloat32S_l2 at hp
  split at hp
  · rename_i an k i b0 b1 b2 b3
    injection hp with hp
    injection hp with h1 h2
    subst h2
    exact ⟨8, 8, big, Eq.trans (i_laws_FnExactSmoothWinds__markFloat32S_l2 an b0 b1 b3 big k i b2) (f_laws_FnExactSmoothWinds__markFloat32S_l2 an b0 b1 b3 (L_laws_FnExactSmoothWinds__markFloat32S_l2 an big k i b2) h1)⟩
  · cases hp)
noncomputable def tb14 : List (Nat × (List PT → Option (Bool × AV × List Blk))) := [(109, s_math_Float32bits), (118, s_math_archFloor), (125, s_math_Float64frombits), (133, s_math_Float64bits), (139, s_math_archTrunc), (26, s_laws_sameFloat), (52, s_impl_IsFinite), (66, s_spec_l00In), (76, s_impl_within), (82, s_spec_l01Finite), (89, s_impl_isLeast), (96, s_spec_l02Least), (113, s_impl_areFinite_1), (24, s_laws_toFloat32S), (40, s_laws_heldFloat32S), (62, s_spec_l04Mean), (98, s_impl_sum), (117, s_impl_areLeast_1), (27, s_laws_eqFloat32S), (64, s_impl_meanOf), (60, s_spec_l04Winds), (116, s_slices_IndexFunc_sf32_f32_areFinite_1), (75, s_spec_l04Smooth), (116, s_slices_IndexFunc_sf32_f32_areLeast_1), (37, s_spec_SmoothWinds), (94, s_slices_ContainsFunc_sf32_f32_areFinite_1), (94, s_slices_ContainsFunc_sf32_f32_areLeast_1), (90, s_impl_areFinite), (97, s_impl_areLeast), (63, s_impl_areWinds), (38, s_impl_SmoothWinds)]
noncomputable def lt14 : List ((Nat × Nat) × (Nat → St → Option (Bool × LO))) := [((24, 3), l_laws_toFloat32S_l3), ((40, 2), l_laws_heldFloat32S_l2), ((62, 3), l_spec_l04Mean_l3), ((98, 3), l_impl_sum_l3), ((27, 4), l_laws_eqFloat32S_l4), ((60, 2), l_spec_l04Winds_l2), ((116, 2), l_slices_IndexFunc_sf32_f32_areFinite_1_l2), ((75, 3), l_spec_l04Smooth_l3), ((116, 2), l_slices_IndexFunc_sf32_f32_areLeast_1_l2), ((38, 5), l_impl_SmoothWinds_l5), ((39, 2), l_laws_FnExactSmoothWinds__markFloat32S_l2)]
noncomputable def Γ14 : Ctx := ⟨tyTab, fnTab, tblSum tb14, tblLp lt14⟩
theorem tb14_ok : SumL Try.prog tb14 := SumL.cons s_math_Float32bits_ok (SumL.cons s_math_archFloor_ok (SumL.cons s_math_Float64frombits_ok (SumL.cons s_math_Float64bits_ok (SumL.cons s_math_archTrunc_ok (SumL.cons s_laws_sameFloat_ok (SumL.cons s_impl_IsFinite_ok (SumL.cons s_spec_l00In_ok (SumL.cons s_impl_within_ok (SumL.cons s_spec_l01Finite_ok (SumL.cons s_impl_isLeast_ok (SumL.cons s_spec_l02Least_ok (SumL.cons s_impl_areFinite_1_ok (SumL.cons s_laws_toFloat32S_ok (SumL.cons s_laws_heldFloat32S_ok (SumL.cons s_spec_l04Mean_ok (SumL.cons s_impl_sum_ok (SumL.cons s_impl_areLeast_1_ok (SumL.cons s_laws_eqFloat32S_ok (SumL.cons s_impl_meanOf_ok (SumL.cons s_spec_l04Winds_ok (SumL.cons s_slices_IndexFunc_sf32_f32_areFinite_1_ok (SumL.cons s_spec_l04Smooth_ok (SumL.cons s_slices_IndexFunc_sf32_f32_areLeast_1_ok (SumL.cons s_spec_SmoothWinds_ok (SumL.cons s_slices_ContainsFunc_sf32_f32_areFinite_1_ok (SumL.cons s_slices_ContainsFunc_sf32_f32_areLeast_1_ok (SumL.cons s_impl_areFinite_ok (SumL.cons s_impl_areLeast_ok (SumL.cons s_impl_areWinds_ok (SumL.cons s_impl_SmoothWinds_ok (SumL.nil)))))))))))))))))))))))))))))))
theorem lt14_ok : LpL Try.prog fnTab lt14 := LpL.cons l_laws_toFloat32S_l3_ok (LpL.cons l_laws_heldFloat32S_l2_ok (LpL.cons l_spec_l04Mean_l3_ok (LpL.cons l_impl_sum_l3_ok (LpL.cons l_laws_eqFloat32S_l4_ok (LpL.cons l_spec_l04Winds_l2_ok (LpL.cons l_slices_IndexFunc_sf32_f32_areFinite_1_l2_ok (LpL.cons l_spec_l04Smooth_l3_ok (LpL.cons l_slices_IndexFunc_sf32_f32_areLeast_1_l2_ok (LpL.cons l_impl_SmoothWinds_l5_ok (LpL.cons l_laws_FnExactSmoothWinds__markFloat32S_l2_ok (LpL.nil)))))))))))
noncomputable def tb15 : List (Nat × (List PT → Option (Bool × AV × List Blk))) := [(109, s_math_Float32bits), (118, s_math_archFloor), (125, s_math_Float64frombits), (133, s_math_Float64bits), (139, s_math_archTrunc), (26, s_laws_sameFloat), (52, s_impl_IsFinite), (66, s_spec_l00In), (76, s_impl_within), (82, s_spec_l01Finite), (89, s_impl_isLeast), (96, s_spec_l02Least), (113, s_impl_areFinite_1), (24, s_laws_toFloat32S), (40, s_laws_heldFloat32S), (62, s_spec_l04Mean), (98, s_impl_sum), (117, s_impl_areLeast_1), (27, s_laws_eqFloat32S), (64, s_impl_meanOf), (60, s_spec_l04Winds), (116, s_slices_IndexFunc_sf32_f32_areFinite_1), (75, s_spec_l04Smooth), (116, s_slices_IndexFunc_sf32_f32_areLeast_1), (37, s_spec_SmoothWinds), (94, s_slices_ContainsFunc_sf32_f32_areFinite_1), (94, s_slices_ContainsFunc_sf32_f32_areLeast_1), (90, s_impl_areFinite), (97, s_impl_areLeast), (63, s_impl_areWinds), (38, s_impl_SmoothWinds)]
noncomputable def lt15 : List ((Nat × Nat) × (Nat → St → Option (Bool × LO))) := [((24, 3), l_laws_toFloat32S_l3), ((40, 2), l_laws_heldFloat32S_l2), ((62, 3), l_spec_l04Mean_l3), ((98, 3), l_impl_sum_l3), ((27, 4), l_laws_eqFloat32S_l4), ((60, 2), l_spec_l04Winds_l2), ((116, 2), l_slices_IndexFunc_sf32_f32_areFinite_1_l2), ((75, 3), l_spec_l04Smooth_l3), ((116, 2), l_slices_IndexFunc_sf32_f32_areLeast_1_l2), ((38, 5), l_impl_SmoothWinds_l5), ((39, 2), l_laws_FnExactSmoothWinds__markFloat32S_l2)]
noncomputable def Γ15 : Ctx := ⟨tyTab, fnTab, tblSum tb15, tblLp lt15⟩
theorem tb15_ok : SumL Try.prog tb15 := SumL.cons s_math_Float32bits_ok (SumL.cons s_math_archFloor_ok (SumL.cons s_math_Float64frombits_ok (SumL.cons s_math_Float64bits_ok (SumL.cons s_math_archTrunc_ok (SumL.cons s_laws_sameFloat_ok (SumL.cons s_impl_IsFinite_ok (SumL.cons s_spec_l00In_ok (SumL.cons s_impl_within_ok (SumL.cons s_spec_l01Finite_ok (SumL.cons s_impl_isLeast_ok (SumL.cons s_spec_l02Least_ok (SumL.cons s_impl_areFinite_1_ok (SumL.cons s_laws_toFloat32S_ok (SumL.cons s_laws_heldFloat32S_ok (SumL.cons s_spec_l04Mean_ok (SumL.cons s_impl_sum_ok (SumL.cons s_impl_areLeast_1_ok (SumL.cons s_laws_eqFloat32S_ok (SumL.cons s_impl_meanOf_ok (SumL.cons s_spec_l04Winds_ok (SumL.cons s_slices_IndexFunc_sf32_f32_areFinite_1_ok (SumL.cons s_spec_l04Smooth_ok (SumL.cons s_slices_IndexFunc_sf32_f32_areLeast_1_ok (SumL.cons s_spec_SmoothWinds_ok (SumL.cons s_slices_ContainsFunc_sf32_f32_areFinite_1_ok (SumL.cons s_slices_ContainsFunc_sf32_f32_areLeast_1_ok (SumL.cons s_impl_areFinite_ok (SumL.cons s_impl_areLeast_ok (SumL.cons s_impl_areWinds_ok (SumL.cons s_impl_SmoothWinds_ok (SumL.nil)))))))))))))))))))))))))))))))
theorem lt15_ok : LpL Try.prog fnTab lt15 := LpL.cons l_laws_toFloat32S_l3_ok (LpL.cons l_laws_heldFloat32S_l2_ok (LpL.cons l_spec_l04Mean_l3_ok (LpL.cons l_impl_sum_l3_ok (LpL.cons l_laws_eqFloat32S_l4_ok (LpL.cons l_spec_l04Winds_l2_ok (LpL.cons l_slices_IndexFunc_sf32_f32_areFinite_1_l2_ok (LpL.cons l_spec_l04Smooth_l3_ok (LpL.cons l_slices_IndexFunc_sf32_f32_areLeast_1_l2_ok (LpL.cons l_impl_SmoothWinds_l5_ok (LpL.cons l_laws_FnExactSmoothWinds__markFloat32S_l2_ok (LpL.nil)))))))))))
noncomputable def l_laws_FnExactSmoothWinds__markFloat32S_l2_2 : Nat → St → Option (Bool × LO)
  | 3, (St.mk [(0, (AV.v (TV.one (At.sl 2 0 an 1)))), (1, (AV.v (TV.one (At.int IntKind.i64 k)))), (5, (AV.v (TV.one (At.int IntKind.i64 i))))] [(Blk.mk Bool.false (Body.fl FloatKind.f32 b0)), (Blk.mk Bool.true (Body.fl FloatKind.f32 b1)), (Blk.mk Bool.true (Body.fl FloatKind.f32 b2))]) => some ((laws_FnExactSmoothWinds__markFloat32S_l2_2_p an k i b2), (LO.one (Ex.exit 0) (St.mk [(0, (AV.v (TV.one (At.sl 2 0 an 1)))), (1, (AV.v (TV.one (At.int IntKind.i64 (laws_FnExactSmoothWinds__markFloat32S_l2_2_a0_0 an k i b2))))), (5, (AV.v (TV.one (At.int IntKind.i64 (laws_FnExactSmoothWinds__markFloat32S_l2_2_a0_1 an k i b2))))), (9, (AV.v (TV.one (At.bool (laws_FnExactSmoothWinds__markFloat32S_l2_2_a0_2 an k i b2)))))] [(Blk.mk Bool.false (Body.fl FloatKind.f32 b0)), (Blk.mk Bool.true (Body.fl FloatKind.f32 b1)), (Blk.mk Bool.true (Body.fl FloatKind.f32 (laws_FnExactSmoothWinds__markFloat32S_l2_2_a0_3 an k i b2)))])))
  | _, _ => none
def o_laws_FnExactSmoothWinds__markFloat32S_l2_2 (an : Nat) (b0 : List Nat) (b1 : List Nat) : Option ((Int × Int × Bool × (List Nat))) → Option (Ex × St)
  | none => none
  | some r => some ((Ex.exit 0), (St.mk [(0, (AV.v (TV.one (At.sl 2 0 an 1)))), (1, (AV.v (TV.one (At.int IntKind.i64 r.1)))), (5, (AV.v (TV.one (At.int IntKind.i64 r.2.1)))), (9, (AV.v (TV.one (At.bool r.2.2.1))))] [(Blk.mk Bool.false (Body.fl FloatKind.f32 b0)), (Blk.mk Bool.true (Body.fl FloatKind.f32 b1)), (Blk.mk Bool.true (Body.fl FloatKind.f32 r.2.2.2))]))
def lo_laws_FnExactSmoothWinds__markFloat32S_l2_2 (an : Nat) (b0 : List Nat) (b1 : List Nat) (x : Option ((Int × Int × Bool × (List Nat)))) : LO := (LO.one (Ex.exit 0) (St.mk [(0, (AV.v (TV.one (At.sl 2 0 an 1)))), (1, (AV.v (TV.one (At.int IntKind.i64 (x.getD default).1)))), (5, (AV.v (TV.one (At.int IntKind.i64 (x.getD default).2.1)))), (9, (AV.v (TV.one (At.bool (x.getD default).2.2.1))))] [(Blk.mk Bool.false (Body.fl FloatKind.f32 b0)), (Blk.mk Bool.true (Body.fl FloatKind.f32 b1)), (Blk.mk Bool.true (Body.fl FloatKind.f32 (x.getD default).2.2.2))]))
theorem f_laws_FnExactSmoothWinds__markFloat32S_l2_2 (an : Nat) (b0 : List Nat) (b1 : List Nat) : ∀ x : Option ((Int × Int × Bool × (List Nat))), x.isSome = true → (o_laws_FnExactSmoothWinds__markFloat32S_l2_2 an b0 b1) x = some (pick (lo_laws_FnExactSmoothWinds__markFloat32S_l2_2 an b0 b1 x))
  | none, h => by cases h
  | some r, _ => rfl
theorem r_laws_FnExactSmoothWinds__markFloat32S_l2_2 (an : Nat) (k : Int) (i : Int) (b0 : List Nat) (b1 : List Nat) (b2 : List Nat) (K : Ex → St → Option (Ex × St)) : evC (R := Ex × St) Γ15 (evFn Γ15 8 8) 39 3 fi39.nt fi39.live fi39.nl 8 (findL 2 (loopsIn fi39.code)) (St.mk [(0, (AV.v (TV.one (At.sl 2 0 an 1)))), (1, (AV.v (TV.one (At.int IntKind.i64 k)))), (5, (AV.v (TV.one (At.int IntKind.i64 i))))] [(Blk.mk Bool.false (Body.fl FloatKind.f32 b0)), (Blk.mk Bool.true (Body.fl FloatKind.f32 b1)), (Blk.mk Bool.true (Body.fl FloatKind.f32 b2))]) K = T_laws_FnExactSmoothWinds__markFloat32S_l2_2 an k i b2 (fun k' i' b2' => K .normal (St.mk [(0, (AV.v (TV.one (At.sl 2 0 an 1)))), (1, (AV.v (TV.one (At.int IntKind.i64 k')))), (5, (AV.v (TV.one (At.int IntKind.i64 i'))))] [(Blk.mk Bool.false (Body.fl FloatKind.f32 b0)), (Blk.mk Bool.true (Body.fl FloatKind.f32 b1)), (Blk.mk Bool.true (Body.fl FloatKind.f32 b2'))])) (fun c0_ c1_ c2_ c3_ => K (Ex.exit 0) (St.mk [(0, (AV.v (TV.one (At.sl 2 0 an 1)))), (1, (AV.v (TV.one (At.int IntKind.i64 c0_)))), (5, (AV.v (TV.one (At.int IntKind.i64 c1_)))), (9, (AV.v (TV.one (At.bool c2_))))] [(Blk.mk Bool.false (Body.fl FloatKind.f32 b0)), (Blk.mk Bool.true (Body.fl FloatKind.f32 b1)), (Blk.mk Bool.true (Body.fl FloatKind.f32 c3_))])) := by kernel_rfl
theorem i_laws_FnExactSmoothWinds__markFloat32S_l2_2 (an : Nat) (b0 : List Nat) (b1 : List Nat) : ∀ (n : Nat) (k : Int) (i : Int) (b2 : List Nat), iter 39 2 3 (evC (R := Ex × St) Γ15 (evFn Γ15 8 8) 39 3 fi39.nt fi39.live fi39.nl 8 (findL 2 (loopsIn fi39.code))) n (St.mk [(0, (AV.v (TV.one (At.sl 2 0 an 1)))), (1, (AV.v (TV.one (At.int IntKind.i64 k)))), (5, (AV.v (TV.one (At.int IntKind.i64 i))))] [(Blk.mk Bool.false (Body.fl FloatKind.f32 b0)), (Blk.mk Bool.true (Body.fl FloatKind.f32 b1)), (Blk.mk Bool.true (Body.fl FloatKind.f32 b2))]) (fun e st => some (e, st)) = (o_laws_FnExactSmoothWinds__markFloat32S_l2_2 an b0 b1) (L_laws_FnExactSmoothWinds__markFloat32S_l2_2 an n k i b2) := by
  intro n
  induction n with
  | zero => intros; rfl
  | succ n ih =>
    intro k i b2
    refine Eq.trans (iter_succ ..) (Eq.trans (r_laws_FnExactSmoothWinds__markFloat32S_l2_2 an k i b0 b1 b2 (nextK 39 2 3 (evC (R := Ex × St) Γ15 (evFn Γ15 8 8) 39 3 fi39.nt fi39.live fi39.nl 8 (findL 2 (loopsIn fi39.code))) n (fun e st => some (e, st)))) (Eq.trans ?_ (T_laws_FnExactSmoothWinds__markFloat32S_l2_2_nat (o_laws_FnExactSmoothWinds__markFloat32S_l2_2 an b0 b1) rfl an k i b2 (fun k' i' b2' => L_laws_FnExactSmoothWinds__markFloat32S_l2_2 an n k' i' b2') (fun c0_ c1_ c2_ c3_ => some (c0_, c1_, c2_, c3_)))))
    exact congrArg (fun kn_ => T_laws_FnExactSmoothWinds__markFloat32S_l2_2 an k i b2 kn_ (fun c0_ c1_ c2_ c3_ => (o_laws_FnExactSmoothWinds__markFloat32S_l2_2 an b0 b1) (some (c0_, c1_, c2_, c3_)))) (funext fun k' => funext fun i' => funext fun b2' => ih k' i' b2')
theorem l_laws_FnExactSmoothWinds__markFloat32S_l2_2_ok : LoopOne Try.prog fnTab 39 2 l_laws_FnExactSmoothWinds__markFloat32S_l2_2 := lp_of (Γ := Γ15) tyTab_ok (FnL.ok fnTab_ok _ _) (LpL.ok lt15_ok) (SumL.ok tb15_ok _) mixed (fi := fi39) (by kernel_rfl) (by kernel_rfl) (by
  intro lo st out hp
  unfold l_laws_FnExactSmoothWinds__markFloat32S_l2_2 at hp
  split at hp
  · rename_i an k i b0 b1 b2
    injection hp with hp
    injection hp with h1 h2
    subst h2
    exact ⟨8, 8, big, Eq.trans (i_laws_FnExactSmoothWinds__markFloat32S_l2_2 an b0 b1 big k i b2) (f_laws_FnExactSmoothWinds__markFloat32S_l2_2 an b0 b1 (L_laws_FnExactSmoothWinds__markFloat32S_l2_2 an big k i b2) h1)⟩
  · cases hp)
noncomputable def tb16 : List (Nat × (List PT → Option (Bool × AV × List Blk))) := [(109, s_math_Float32bits), (118, s_math_archFloor), (125, s_math_Float64frombits), (133, s_math_Float64bits), (139, s_math_archTrunc), (26, s_laws_sameFloat), (52, s_impl_IsFinite), (66, s_spec_l00In), (76, s_impl_within), (82, s_spec_l01Finite), (89, s_impl_isLeast), (96, s_spec_l02Least), (113, s_impl_areFinite_1), (24, s_laws_toFloat32S), (40, s_laws_heldFloat32S), (62, s_spec_l04Mean), (98, s_impl_sum), (117, s_impl_areLeast_1), (27, s_laws_eqFloat32S), (64, s_impl_meanOf), (60, s_spec_l04Winds), (116, s_slices_IndexFunc_sf32_f32_areFinite_1), (75, s_spec_l04Smooth), (116, s_slices_IndexFunc_sf32_f32_areLeast_1), (37, s_spec_SmoothWinds), (94, s_slices_ContainsFunc_sf32_f32_areFinite_1), (94, s_slices_ContainsFunc_sf32_f32_areLeast_1), (90, s_impl_areFinite), (97, s_impl_areLeast), (63, s_impl_areWinds), (38, s_impl_SmoothWinds)]
noncomputable def lt16 : List ((Nat × Nat) × (Nat → St → Option (Bool × LO))) := [((24, 3), l_laws_toFloat32S_l3), ((40, 2), l_laws_heldFloat32S_l2), ((62, 3), l_spec_l04Mean_l3), ((98, 3), l_impl_sum_l3), ((27, 4), l_laws_eqFloat32S_l4), ((60, 2), l_spec_l04Winds_l2), ((116, 2), l_slices_IndexFunc_sf32_f32_areFinite_1_l2), ((75, 3), l_spec_l04Smooth_l3), ((116, 2), l_slices_IndexFunc_sf32_f32_areLeast_1_l2), ((38, 5), l_impl_SmoothWinds_l5), ((39, 2), l_laws_FnExactSmoothWinds__markFloat32S_l2), ((39, 2), l_laws_FnExactSmoothWinds__markFloat32S_l2_2)]
noncomputable def Γ16 : Ctx := ⟨tyTab, fnTab, tblSum tb16, tblLp lt16⟩
theorem tb16_ok : SumL Try.prog tb16 := SumL.cons s_math_Float32bits_ok (SumL.cons s_math_archFloor_ok (SumL.cons s_math_Float64frombits_ok (SumL.cons s_math_Float64bits_ok (SumL.cons s_math_archTrunc_ok (SumL.cons s_laws_sameFloat_ok (SumL.cons s_impl_IsFinite_ok (SumL.cons s_spec_l00In_ok (SumL.cons s_impl_within_ok (SumL.cons s_spec_l01Finite_ok (SumL.cons s_impl_isLeast_ok (SumL.cons s_spec_l02Least_ok (SumL.cons s_impl_areFinite_1_ok (SumL.cons s_laws_toFloat32S_ok (SumL.cons s_laws_heldFloat32S_ok (SumL.cons s_spec_l04Mean_ok (SumL.cons s_impl_sum_ok (SumL.cons s_impl_areLeast_1_ok (SumL.cons s_laws_eqFloat32S_ok (SumL.cons s_impl_meanOf_ok (SumL.cons s_spec_l04Winds_ok (SumL.cons s_slices_IndexFunc_sf32_f32_areFinite_1_ok (SumL.cons s_spec_l04Smooth_ok (SumL.cons s_slices_IndexFunc_sf32_f32_areLeast_1_ok (SumL.cons s_spec_SmoothWinds_ok (SumL.cons s_slices_ContainsFunc_sf32_f32_areFinite_1_ok (SumL.cons s_slices_ContainsFunc_sf32_f32_areLeast_1_ok (SumL.cons s_impl_areFinite_ok (SumL.cons s_impl_areLeast_ok (SumL.cons s_impl_areWinds_ok (SumL.cons s_impl_SmoothWinds_ok (SumL.nil)))))))))))))))))))))))))))))))
theorem lt16_ok : LpL Try.prog fnTab lt16 := LpL.cons l_laws_toFloat32S_l3_ok (LpL.cons l_laws_heldFloat32S_l2_ok (LpL.cons l_spec_l04Mean_l3_ok (LpL.cons l_impl_sum_l3_ok (LpL.cons l_laws_eqFloat32S_l4_ok (LpL.cons l_spec_l04Winds_l2_ok (LpL.cons l_slices_IndexFunc_sf32_f32_areFinite_1_l2_ok (LpL.cons l_spec_l04Smooth_l3_ok (LpL.cons l_slices_IndexFunc_sf32_f32_areLeast_1_l2_ok (LpL.cons l_impl_SmoothWinds_l5_ok (LpL.cons l_laws_FnExactSmoothWinds__markFloat32S_l2_ok (LpL.cons l_laws_FnExactSmoothWinds__markFloat32S_l2_2_ok (LpL.nil))))))))))))
noncomputable def s_laws_FnExactSmoothWinds : List PT → Option (Bool × AV × List Blk)
  | [.one (.row 1 toArray_n (.fl .f32 toArray)), .one (.s (.int .i64 x1))] => some ((laws_FnExactSmoothWinds_p toArray_n toArray x1), ((AV.v (TV.one (At.bool (laws_FnExactSmoothWinds_v0 toArray_n toArray x1)))), []))
  | _ => none
def o_laws_FnExactSmoothWinds (toArray_n : Nat) (toArray : List Nat) (x1 : Int) : Option (Bool) → Option (AV × List Blk)
  | some r => some ((AV.v (TV.one (At.bool r))), [])
  | none => none
theorem e_laws_FnExactSmoothWinds (toArray_n : Nat) (toArray : List Nat) (x1 : Int) : evFn Γ16 8 8 8 (impTs 0 [.one (.row 1 toArray_n (.fl .f32 toArray)), .one (.s (.int .i64 x1))]).1 (impTs 0 [.one (.row 1 toArray_n (.fl .f32 toArray)), .one (.s (.int .i64 x1))]).2 (expo (impTs 0 [.one (.row 1 toArray_n (.fl .f32 toArray)), .one (.s (.int .i64 x1))]).2.length) = T_laws_FnExactSmoothWinds toArray_n toArray x1 (fun c0_ => some ((AV.v (TV.one (At.bool c0_))), [])) := by kernel_rfl
theorem s_laws_FnExactSmoothWinds_ok : SumOne Try.prog 8 s_laws_FnExactSmoothWinds := sum_of (Γ := Γ16) (fuel := 8) (d := 8) tyTab_ok (FnL.ok fnTab_ok _ _) (LpL.ok lt16_ok) (SumL.ok tb16_ok _) mixed (by
  intro pts v news hp hc
  clear hc
  unfold s_laws_FnExactSmoothWinds at hp
  split at hp
  · rename_i toArray_n toArray x1
    exact Eq.trans (Eq.trans (e_laws_FnExactSmoothWinds toArray_n toArray x1) (T_laws_FnExactSmoothWinds_nat (o_laws_FnExactSmoothWinds toArray_n toArray x1) rfl toArray_n toArray x1 (fun c0_ => some c0_))) (fin_out (o := (o_laws_FnExactSmoothWinds toArray_n toArray x1)) (x := F_laws_FnExactSmoothWinds toArray_n toArray x1) (d := default) (V := fun r => ((AV.v (TV.one (At.bool r))), [])) (fun r => rfl) hp)
  · cases hp)
noncomputable def tb17 : List (Nat × (List PT → Option (Bool × AV × List Blk))) := [(109, s_math_Float32bits), (118, s_math_archFloor), (125, s_math_Float64frombits), (133, s_math_Float64bits), (139, s_math_archTrunc), (26, s_laws_sameFloat), (52, s_impl_IsFinite), (66, s_spec_l00In), (76, s_impl_within), (82, s_spec_l01Finite), (89, s_impl_isLeast), (96, s_spec_l02Least), (113, s_impl_areFinite_1), (24, s_laws_toFloat32S), (40, s_laws_heldFloat32S), (62, s_spec_l04Mean), (98, s_impl_sum), (117, s_impl_areLeast_1), (27, s_laws_eqFloat32S), (64, s_impl_meanOf), (60, s_spec_l04Winds), (116, s_slices_IndexFunc_sf32_f32_areFinite_1), (75, s_spec_l04Smooth), (116, s_slices_IndexFunc_sf32_f32_areLeast_1), (37, s_spec_SmoothWinds), (94, s_slices_ContainsFunc_sf32_f32_areFinite_1), (94, s_slices_ContainsFunc_sf32_f32_areLeast_1), (90, s_impl_areFinite), (97, s_impl_areLeast), (63, s_impl_areWinds), (38, s_impl_SmoothWinds), (8, s_laws_FnExactSmoothWinds)]
noncomputable def lt17 : List ((Nat × Nat) × (Nat → St → Option (Bool × LO))) := [((24, 3), l_laws_toFloat32S_l3), ((40, 2), l_laws_heldFloat32S_l2), ((62, 3), l_spec_l04Mean_l3), ((98, 3), l_impl_sum_l3), ((27, 4), l_laws_eqFloat32S_l4), ((60, 2), l_spec_l04Winds_l2), ((116, 2), l_slices_IndexFunc_sf32_f32_areFinite_1_l2), ((75, 3), l_spec_l04Smooth_l3), ((116, 2), l_slices_IndexFunc_sf32_f32_areLeast_1_l2), ((38, 5), l_impl_SmoothWinds_l5), ((39, 2), l_laws_FnExactSmoothWinds__markFloat32S_l2), ((39, 2), l_laws_FnExactSmoothWinds__markFloat32S_l2_2)]
noncomputable def Γ17 : Ctx := ⟨tyTab, fnTab, tblSum tb17, tblLp lt17⟩
theorem tb17_ok : SumL Try.prog tb17 := SumL.cons s_math_Float32bits_ok (SumL.cons s_math_archFloor_ok (SumL.cons s_math_Float64frombits_ok (SumL.cons s_math_Float64bits_ok (SumL.cons s_math_archTrunc_ok (SumL.cons s_laws_sameFloat_ok (SumL.cons s_impl_IsFinite_ok (SumL.cons s_spec_l00In_ok (SumL.cons s_impl_within_ok (SumL.cons s_spec_l01Finite_ok (SumL.cons s_impl_isLeast_ok (SumL.cons s_spec_l02Least_ok (SumL.cons s_impl_areFinite_1_ok (SumL.cons s_laws_toFloat32S_ok (SumL.cons s_laws_heldFloat32S_ok (SumL.cons s_spec_l04Mean_ok (SumL.cons s_impl_sum_ok (SumL.cons s_impl_areLeast_1_ok (SumL.cons s_laws_eqFloat32S_ok (SumL.cons s_impl_meanOf_ok (SumL.cons s_spec_l04Winds_ok (SumL.cons s_slices_IndexFunc_sf32_f32_areFinite_1_ok (SumL.cons s_spec_l04Smooth_ok (SumL.cons s_slices_IndexFunc_sf32_f32_areLeast_1_ok (SumL.cons s_spec_SmoothWinds_ok (SumL.cons s_slices_ContainsFunc_sf32_f32_areFinite_1_ok (SumL.cons s_slices_ContainsFunc_sf32_f32_areLeast_1_ok (SumL.cons s_impl_areFinite_ok (SumL.cons s_impl_areLeast_ok (SumL.cons s_impl_areWinds_ok (SumL.cons s_impl_SmoothWinds_ok (SumL.cons s_laws_FnExactSmoothWinds_ok (SumL.nil))))))))))))))))))))))))))))))))
theorem lt17_ok : LpL Try.prog fnTab lt17 := LpL.cons l_laws_toFloat32S_l3_ok (LpL.cons l_laws_heldFloat32S_l2_ok (LpL.cons l_spec_l04Mean_l3_ok (LpL.cons l_impl_sum_l3_ok (LpL.cons l_laws_eqFloat32S_l4_ok (LpL.cons l_spec_l04Winds_l2_ok (LpL.cons l_slices_IndexFunc_sf32_f32_areFinite_1_l2_ok (LpL.cons l_spec_l04Smooth_l3_ok (LpL.cons l_slices_IndexFunc_sf32_f32_areLeast_1_l2_ok (LpL.cons l_impl_SmoothWinds_l5_ok (LpL.cons l_laws_FnExactSmoothWinds__markFloat32S_l2_ok (LpL.cons l_laws_FnExactSmoothWinds__markFloat32S_l2_2_ok (LpL.nil))))))))))))
end Go.Proofs.Ytohhkgieggfpeab
