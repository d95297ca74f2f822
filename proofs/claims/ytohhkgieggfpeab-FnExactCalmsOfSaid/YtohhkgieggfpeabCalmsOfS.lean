/-
  What functions answer: that the evaluator answers so. Printed by a program.
-/
import Derived.Test.YtohhkgieggfpeabCalmsOfC
set_option linter.unusedVariables false
set_option linter.unusedSimpArgs false
set_option maxRecDepth 100000
set_option maxHeartbeats 4000000
namespace Go.Proofs.Ytohhkgieggfpeab
open Go Go.Rf
def s_math_Float32bits : List PT → Option (Bool × AV × List Blk)
  | [.one (.s (.flt .f32 x))] => some (bnot (nanQ .f32 x), A1 (.int .u32 x), [])
  | _ => none
theorem s_math_Float32bits_ok : SumOne Try.prog 109 s_math_Float32bits := by
  intro pts v news hp w vals hv
  unfold s_math_Float32bits at hp
  split at hp
  · rename_i x
    injection hp with hp
    injection hp with h1 hp
    injection hp with h2 h3
    subst h2
    subst h3
    obtain ⟨l, hl⟩ : ∃ l, l = vals.toList := ⟨_, rfl⟩
    rw [← hl] at hv
    cases hv with
    | cons a1 a2 =>
      cases a2
      obtain ⟨b, hb1, hb2, hb3⟩ := a1
      subst hb1
      rename_i hx
      have hvals : vals = #[.float .f32 b] := by rw [← Array.toList_inj, ← hl]
      subst hvals
      have hn : nanB .f32 b = false := by rw [← nanB_cn, hb3]; simpa [bnot, nanQ] using h1
      rw [cn_of_not hn] at hb3
      subst hb3
      refine .inl ⟨_, w, by (simp only [callFunc, Sem.run_bind, run_program, Result.andThen_ok, Try.func109]; rfl), NoB, ⟨⟨(fun t b' h => by cases t <;> cases h), (fun t t' b1 b2 x x' _ h => by cases t <;> cases h)⟩, (fun t x h => by cases h), Fr.refl _ w⟩, rfl⟩
  · cases hp
def s_math_archFloor : List PT → Option (Bool × AV × List Blk)
  | [.one (.s (.flt .f64 x))] => some (bnot (nanQ .f64 x), A1 (.flt .f64 (fint .down x)), [])
  | _ => none
theorem s_math_archFloor_ok : SumOne Try.prog 118 s_math_archFloor := by
  intro pts v news hp w vals hv
  unfold s_math_archFloor at hp
  split at hp
  · rename_i x
    injection hp with hp
    injection hp with h1 hp
    injection hp with h2 h3
    subst h2
    subst h3
    obtain ⟨l, hl⟩ : ∃ l, l = vals.toList := ⟨_, rfl⟩
    rw [← hl] at hv
    cases hv with
    | cons a1 a2 =>
      cases a2
      obtain ⟨b, hb1, hb2, hb3⟩ := a1
      subst hb1
      rename_i hx
      have hvals : vals = #[.float .f64 b] := by rw [← Array.toList_inj, ← hl]
      subst hvals
      have hn : nanB .f64 b = false := by rw [← nanB_cn, hb3]; simpa [bnot, nanQ] using h1
      rw [cn_of_not hn] at hb3
      subst hb3
      refine .inl ⟨_, w, by (simp only [callFunc, Sem.run_bind, run_program, Result.andThen_ok, Try.func118]; change (do let v ← Extern.MathFloor.toIntegral "math.archFloor" .down #[.float .f64 b]; pure (.value v) : Sem Next).run Try.prog w = _; rw [Sem.run_bind, run_fint hn]; rfl), NoB, ⟨⟨(fun t b' h => by cases t <;> cases h), (fun t t' b1 b2 x x' _ h => by cases t <;> cases h)⟩, (fun t x h => by cases h), Fr.refl _ w⟩, fint_rel hn⟩
  · cases hp
def s_math_Float64frombits : List PT → Option (Bool × AV × List Blk)
  | [.one (.s (.int .u64 x))] => some (okU .f64 x, A1 (.flt .f64 (cnI .f64 x)), [])
  | _ => none
theorem s_math_Float64frombits_ok : SumOne Try.prog 125 s_math_Float64frombits := by
  intro pts v news hp w vals hv
  unfold s_math_Float64frombits at hp
  split at hp
  · rename_i x
    injection hp with hp
    injection hp with h1 hp
    injection hp with h2 h3
    subst h2
    subst h3
    obtain ⟨l, hl⟩ : ∃ l, l = vals.toList := ⟨_, rfl⟩
    rw [← hl] at hv
    cases hv with
    | cons a1 a2 =>
      cases a2
      have hb1 : _ = Value.int .u64 x := a1
      subst hb1
      rename_i hx
      have hvals : vals = #[.int .u64 x] := by rw [← Array.toList_inj, ← hl]
      subst hvals
      have hw := okU_lt h1
      refine .inl ⟨_, w, by (simp only [callFunc, Sem.run_bind, run_program, Result.andThen_ok, Try.func125]; rfl), NoB, ⟨⟨(fun t b' h => by cases t <;> cases h), (fun t t' b1 b2 x x' _ h => by cases t <;> cases h)⟩, (fun t x h => by cases h), Fr.refl _ w⟩, ⟨_, rfl, hw, rfl⟩⟩
  · cases hp
def s_math_Float64bits : List PT → Option (Bool × AV × List Blk)
  | [.one (.s (.flt .f64 x))] => some (bnot (nanQ .f64 x), A1 (.int .u64 x), [])
  | _ => none
theorem s_math_Float64bits_ok : SumOne Try.prog 133 s_math_Float64bits := by
  intro pts v news hp w vals hv
  unfold s_math_Float64bits at hp
  split at hp
  · rename_i x
    injection hp with hp
    injection hp with h1 hp
    injection hp with h2 h3
    subst h2
    subst h3
    obtain ⟨l, hl⟩ : ∃ l, l = vals.toList := ⟨_, rfl⟩
    rw [← hl] at hv
    cases hv with
    | cons a1 a2 =>
      cases a2
      obtain ⟨b, hb1, hb2, hb3⟩ := a1
      subst hb1
      rename_i hx
      have hvals : vals = #[.float .f64 b] := by rw [← Array.toList_inj, ← hl]
      subst hvals
      have hn : nanB .f64 b = false := by rw [← nanB_cn, hb3]; simpa [bnot, nanQ] using h1
      rw [cn_of_not hn] at hb3
      subst hb3
      refine .inl ⟨_, w, by (simp only [callFunc, Sem.run_bind, run_program, Result.andThen_ok, Try.func133]; rfl), NoB, ⟨⟨(fun t b' h => by cases t <;> cases h), (fun t t' b1 b2 x x' _ h => by cases t <;> cases h)⟩, (fun t x h => by cases h), Fr.refl _ w⟩, rfl⟩
  · cases hp
def s_math_archTrunc : List PT → Option (Bool × AV × List Blk)
  | [.one (.s (.flt .f64 x))] => some (bnot (nanQ .f64 x), A1 (.flt .f64 (fint .zero x)), [])
  | _ => none
theorem s_math_archTrunc_ok : SumOne Try.prog 139 s_math_archTrunc := by
  intro pts v news hp w vals hv
  unfold s_math_archTrunc at hp
  split at hp
  · rename_i x
    injection hp with hp
    injection hp with h1 hp
    injection hp with h2 h3
    subst h2
    subst h3
    obtain ⟨l, hl⟩ : ∃ l, l = vals.toList := ⟨_, rfl⟩
    rw [← hl] at hv
    cases hv with
    | cons a1 a2 =>
      cases a2
      obtain ⟨b, hb1, hb2, hb3⟩ := a1
      subst hb1
      rename_i hx
      have hvals : vals = #[.float .f64 b] := by rw [← Array.toList_inj, ← hl]
      subst hvals
      have hn : nanB .f64 b = false := by rw [← nanB_cn, hb3]; simpa [bnot, nanQ] using h1
      rw [cn_of_not hn] at hb3
      subst hb3
      refine .inl ⟨_, w, by (simp only [callFunc, Sem.run_bind, run_program, Result.andThen_ok, Try.func139]; change (do let v ← Extern.MathFloor.toIntegral "math.archTrunc" .zero #[.float .f64 b]; pure (.value v) : Sem Next).run Try.prog w = _; rw [Sem.run_bind, run_fint hn]; rfl), NoB, ⟨⟨(fun t b' h => by cases t <;> cases h), (fun t t' b1 b2 x x' _ h => by cases t <;> cases h)⟩, (fun t x h => by cases h), Fr.refl _ w⟩, fint_rel hn⟩
  · cases hp
noncomputable def tb0 : List (Nat × (List PT → Option (Bool × AV × List Blk))) := [(109, s_math_Float32bits), (118, s_math_archFloor), (125, s_math_Float64frombits), (133, s_math_Float64bits), (139, s_math_archTrunc)]
noncomputable def lt0 : List ((Nat × Nat) × (Nat → St → Option (Bool × LO))) := []
noncomputable def Γ0 : Ctx := ⟨tyTab, fnTab, tblSum tb0, tblLp lt0⟩
theorem tb0_ok : SumL Try.prog tb0 := SumL.cons s_math_Float32bits_ok (SumL.cons s_math_archFloor_ok (SumL.cons s_math_Float64frombits_ok (SumL.cons s_math_Float64bits_ok (SumL.cons s_math_archTrunc_ok (SumL.nil)))))
theorem lt0_ok : LpL Try.prog fnTab lt0 := LpL.nil
noncomputable def s_laws_sameFloat : List PT → Option (Bool × AV × List Blk)
  | [.one (.s (.flt .f64 a)), .one (.s (.flt .f64 b))] => some ((laws_sameFloat_p a b), ((AV.v (TV.one (At.bool (laws_sameFloat_v0 a b)))), []))
  | _ => none
def o_laws_sameFloat (a : Nat) (b : Nat) : Option (Bool) → Option (AV × List Blk)
  | some r => some ((AV.v (TV.one (At.bool r))), [])
  | none => none
theorem e_laws_sameFloat (a : Nat) (b : Nat) : evFn Γ0 8 8 26 (impTs 0 [.one (.s (.flt .f64 a)), .one (.s (.flt .f64 b))]).1 (impTs 0 [.one (.s (.flt .f64 a)), .one (.s (.flt .f64 b))]).2 (expo (impTs 0 [.one (.s (.flt .f64 a)), .one (.s (.flt .f64 b))]).2.length) = T_laws_sameFloat a b (fun c0_ => some ((AV.v (TV.one (At.bool c0_))), [])) := by kernel_rfl
theorem s_laws_sameFloat_ok : SumOne Try.prog 26 s_laws_sameFloat := sum_of (Γ := Γ0) (fuel := 8) (d := 8) tyTab_ok (FnL.ok fnTab_ok _ _) (LpL.ok lt0_ok) (SumL.ok tb0_ok _) mixed (by
  intro pts v news hp hc
  clear hc
  unfold s_laws_sameFloat at hp
  split at hp
  · rename_i a b
    exact Eq.trans (Eq.trans (e_laws_sameFloat a b) (T_laws_sameFloat_nat (o_laws_sameFloat a b) rfl a b (fun c0_ => some c0_))) (fin_out (o := (o_laws_sameFloat a b)) (x := F_laws_sameFloat a b) (d := default) (V := fun r => ((AV.v (TV.one (At.bool r))), [])) (fun r => rfl) hp)
  · cases hp)
noncomputable def s_impl_IsFinite : List PT → Option (Bool × AV × List Blk)
  | [.one (.s (.flt .f32 x))] => some ((impl_IsFinite_p x), ((AV.v (TV.one (At.bool (impl_IsFinite_v0 x)))), []))
  | _ => none
def o_impl_IsFinite (x : Nat) : Option (Bool) → Option (AV × List Blk)
  | some r => some ((AV.v (TV.one (At.bool r))), [])
  | none => none
theorem e_impl_IsFinite (x : Nat) : evFn Γ0 8 8 52 (impTs 0 [.one (.s (.flt .f32 x))]).1 (impTs 0 [.one (.s (.flt .f32 x))]).2 (expo (impTs 0 [.one (.s (.flt .f32 x))]).2.length) = T_impl_IsFinite x (fun c0_ => some ((AV.v (TV.one (At.bool c0_))), [])) := by kernel_rfl
theorem s_impl_IsFinite_ok : SumOne Try.prog 52 s_impl_IsFinite := sum_of (Γ := Γ0) (fuel := 8) (d := 8) tyTab_ok (FnL.ok fnTab_ok _ _) (LpL.ok lt0_ok) (SumL.ok tb0_ok _) mixed (by
  intro pts v news hp hc
  clear hc
  unfold s_impl_IsFinite at hp
  split at hp
  · rename_i x
    exact Eq.trans (Eq.trans (e_impl_IsFinite x) (T_impl_IsFinite_nat (o_impl_IsFinite x) rfl x (fun c0_ => some c0_))) (fin_out (o := (o_impl_IsFinite x)) (x := F_impl_IsFinite x) (d := default) (V := fun r => ((AV.v (TV.one (At.bool r))), [])) (fun r => rfl) hp)
  · cases hp)
noncomputable def s_spec_l00Max : List PT → Option (Bool × AV × List Blk)
  | [.one (.s (.int .i64 a)), .one (.s (.int .i64 b))] => some ((spec_l00Max_p a b), ((AV.v (TV.one (At.int IntKind.i64 (spec_l00Max_v0 a b)))), []))
  | _ => none
def o_spec_l00Max (a : Int) (b : Int) : Option (Int) → Option (AV × List Blk)
  | some r => some ((AV.v (TV.one (At.int IntKind.i64 r))), [])
  | none => none
theorem e_spec_l00Max (a : Int) (b : Int) : evFn Γ0 8 8 71 (impTs 0 [.one (.s (.int .i64 a)), .one (.s (.int .i64 b))]).1 (impTs 0 [.one (.s (.int .i64 a)), .one (.s (.int .i64 b))]).2 (expo (impTs 0 [.one (.s (.int .i64 a)), .one (.s (.int .i64 b))]).2.length) = T_spec_l00Max a b (fun c0_ => some ((AV.v (TV.one (At.int IntKind.i64 c0_))), [])) := by kernel_rfl
theorem s_spec_l00Max_ok : SumOne Try.prog 71 s_spec_l00Max := sum_of (Γ := Γ0) (fuel := 8) (d := 8) tyTab_ok (FnL.ok fnTab_ok _ _) (LpL.ok lt0_ok) (SumL.ok tb0_ok _) mixed (by
  intro pts v news hp hc
  clear hc
  unfold s_spec_l00Max at hp
  split at hp
  · rename_i a b
    exact Eq.trans (Eq.trans (e_spec_l00Max a b) (T_spec_l00Max_nat (o_spec_l00Max a b) rfl a b (fun c0_ => some c0_))) (fin_out (o := (o_spec_l00Max a b)) (x := F_spec_l00Max a b) (d := default) (V := fun r => ((AV.v (TV.one (At.int IntKind.i64 r))), [])) (fun r => rfl) hp)
  · cases hp)
noncomputable def s_spec_l01Finite : List PT → Option (Bool × AV × List Blk)
  | [.one (.s (.flt .f32 x))] => some ((spec_l01Finite_p x), ((AV.v (TV.one (At.bool (spec_l01Finite_v0 x)))), []))
  | _ => none
def o_spec_l01Finite (x : Nat) : Option (Bool) → Option (AV × List Blk)
  | some r => some ((AV.v (TV.one (At.bool r))), [])
  | none => none
theorem e_spec_l01Finite (x : Nat) : evFn Γ0 8 8 82 (impTs 0 [.one (.s (.flt .f32 x))]).1 (impTs 0 [.one (.s (.flt .f32 x))]).2 (expo (impTs 0 [.one (.s (.flt .f32 x))]).2.length) = T_spec_l01Finite x (fun c0_ => some ((AV.v (TV.one (At.bool c0_))), [])) := by kernel_rfl
theorem s_spec_l01Finite_ok : SumOne Try.prog 82 s_spec_l01Finite := sum_of (Γ := Γ0) (fuel := 8) (d := 8) tyTab_ok (FnL.ok fnTab_ok _ _) (LpL.ok lt0_ok) (SumL.ok tb0_ok _) mixed (by
  intro pts v news hp hc
  clear hc
  unfold s_spec_l01Finite at hp
  split at hp
  · rename_i x
    exact Eq.trans (Eq.trans (e_spec_l01Finite x) (T_spec_l01Finite_nat (o_spec_l01Finite x) rfl x (fun c0_ => some c0_))) (fin_out (o := (o_spec_l01Finite x)) (x := F_spec_l01Finite x) (d := default) (V := fun r => ((AV.v (TV.one (At.bool r))), [])) (fun r => rfl) hp)
  · cases hp)
noncomputable def tb1 : List (Nat × (List PT → Option (Bool × AV × List Blk))) := [(109, s_math_Float32bits), (118, s_math_archFloor), (125, s_math_Float64frombits), (133, s_math_Float64bits), (139, s_math_archTrunc), (26, s_laws_sameFloat), (52, s_impl_IsFinite), (71, s_spec_l00Max), (82, s_spec_l01Finite)]
noncomputable def lt1 : List ((Nat × Nat) × (Nat → St → Option (Bool × LO))) := []
noncomputable def Γ1 : Ctx := ⟨tyTab, fnTab, tblSum tb1, tblLp lt1⟩
theorem tb1_ok : SumL Try.prog tb1 := SumL.cons s_math_Float32bits_ok (SumL.cons s_math_archFloor_ok (SumL.cons s_math_Float64frombits_ok (SumL.cons s_math_Float64bits_ok (SumL.cons s_math_archTrunc_ok (SumL.cons s_laws_sameFloat_ok (SumL.cons s_impl_IsFinite_ok (SumL.cons s_spec_l00Max_ok (SumL.cons s_spec_l01Finite_ok (SumL.nil)))))))))
theorem lt1_ok : LpL Try.prog fnTab lt1 := LpL.nil
noncomputable def s_impl_isLeast : List PT → Option (Bool × AV × List Blk)
  | [.one (.s (.flt .f32 x))] => some ((impl_isLeast_p x), ((AV.v (TV.one (At.bool (impl_isLeast_v0 x)))), []))
  | _ => none
def o_impl_isLeast (x : Nat) : Option (Bool) → Option (AV × List Blk)
  | some r => some ((AV.v (TV.one (At.bool r))), [])
  | none => none
theorem e_impl_isLeast (x : Nat) : evFn Γ1 8 8 89 (impTs 0 [.one (.s (.flt .f32 x))]).1 (impTs 0 [.one (.s (.flt .f32 x))]).2 (expo (impTs 0 [.one (.s (.flt .f32 x))]).2.length) = T_impl_isLeast x (fun c0_ => some ((AV.v (TV.one (At.bool c0_))), [])) := by kernel_rfl
theorem s_impl_isLeast_ok : SumOne Try.prog 89 s_impl_isLeast := sum_of (Γ := Γ1) (fuel := 8) (d := 8) tyTab_ok (FnL.ok fnTab_ok _ _) (LpL.ok lt1_ok) (SumL.ok tb1_ok _) mixed (by
  intro pts v news hp hc
  clear hc
  unfold s_impl_isLeast at hp
  split at hp
  · rename_i x
    exact Eq.trans (Eq.trans (e_impl_isLeast x) (T_impl_isLeast_nat (o_impl_isLeast x) rfl x (fun c0_ => some c0_))) (fin_out (o := (o_impl_isLeast x)) (x := F_impl_isLeast x) (d := default) (V := fun r => ((AV.v (TV.one (At.bool r))), [])) (fun r => rfl) hp)
  · cases hp)
noncomputable def s_spec_l02Least : List PT → Option (Bool × AV × List Blk)
  | [.one (.s (.flt .f32 x))] => some ((spec_l02Least_p x), ((AV.v (TV.one (At.bool (spec_l02Least_v0 x)))), []))
  | _ => none
def o_spec_l02Least (x : Nat) : Option (Bool) → Option (AV × List Blk)
  | some r => some ((AV.v (TV.one (At.bool r))), [])
  | none => none
theorem e_spec_l02Least (x : Nat) : evFn Γ1 8 8 96 (impTs 0 [.one (.s (.flt .f32 x))]).1 (impTs 0 [.one (.s (.flt .f32 x))]).2 (expo (impTs 0 [.one (.s (.flt .f32 x))]).2.length) = T_spec_l02Least x (fun c0_ => some ((AV.v (TV.one (At.bool c0_))), [])) := by kernel_rfl
theorem s_spec_l02Least_ok : SumOne Try.prog 96 s_spec_l02Least := sum_of (Γ := Γ1) (fuel := 8) (d := 8) tyTab_ok (FnL.ok fnTab_ok _ _) (LpL.ok lt1_ok) (SumL.ok tb1_ok _) mixed (by
  intro pts v news hp hc
  clear hc
  unfold s_spec_l02Least at hp
  split at hp
  · rename_i x
    exact Eq.trans (Eq.trans (e_spec_l02Least x) (T_spec_l02Least_nat (o_spec_l02Least x) rfl x (fun c0_ => some c0_))) (fin_out (o := (o_spec_l02Least x)) (x := F_spec_l02Least x) (d := default) (V := fun r => ((AV.v (TV.one (At.bool r))), [])) (fun r => rfl) hp)
  · cases hp)
noncomputable def l_laws_toFloat32S_l3 : Nat → St → Option (Bool × LO)
  | 1, (St.mk [(0, (AV.v (TV.one (At.vw 0 0 an 1)))), (3, (AV.v (TV.one (At.sl 1 0 outn 1)))), (4, (AV.v (TV.one (At.int IntKind.i64 i))))] [(Blk.mk Bool.false (Body.fl FloatKind.f32 b0)), (Blk.mk Bool.true (Body.fl FloatKind.f32 b1))]) => some ((laws_toFloat32S_l3_p an outn b0 i b1), (LO.one (Ex.exit 0) (St.mk [(0, (AV.v (TV.one (At.vw 0 0 an 1)))), (3, (AV.v (TV.one (At.sl 1 0 outn 1)))), (4, (AV.v (TV.one (At.int IntKind.i64 (laws_toFloat32S_l3_a0_0 an outn b0 i b1))))), (11, (AV.v (TV.one (At.bool (laws_toFloat32S_l3_a0_1 an outn b0 i b1)))))] [(Blk.mk Bool.false (Body.fl FloatKind.f32 b0)), (Blk.mk Bool.true (Body.fl FloatKind.f32 (laws_toFloat32S_l3_a0_2 an outn b0 i b1)))])))
  | _, _ => none
def o_laws_toFloat32S_l3 (an : Nat) (outn : Nat) (b0 : List Nat) : Option ((Int × Bool × (List Nat))) → Option (Ex × St)
  | none => none
  | some r => some ((Ex.exit 0), (St.mk [(0, (AV.v (TV.one (At.vw 0 0 an 1)))), (3, (AV.v (TV.one (At.sl 1 0 outn 1)))), (4, (AV.v (TV.one (At.int IntKind.i64 r.1)))), (11, (AV.v (TV.one (At.bool r.2.1))))] [(Blk.mk Bool.false (Body.fl FloatKind.f32 b0)), (Blk.mk Bool.true (Body.fl FloatKind.f32 r.2.2))]))
def lo_laws_toFloat32S_l3 (an : Nat) (outn : Nat) (b0 : List Nat) (x : Option ((Int × Bool × (List Nat)))) : LO := (LO.one (Ex.exit 0) (St.mk [(0, (AV.v (TV.one (At.vw 0 0 an 1)))), (3, (AV.v (TV.one (At.sl 1 0 outn 1)))), (4, (AV.v (TV.one (At.int IntKind.i64 (x.getD default).1)))), (11, (AV.v (TV.one (At.bool (x.getD default).2.1))))] [(Blk.mk Bool.false (Body.fl FloatKind.f32 b0)), (Blk.mk Bool.true (Body.fl FloatKind.f32 (x.getD default).2.2))]))
theorem f_laws_toFloat32S_l3 (an : Nat) (outn : Nat) (b0 : List Nat) : ∀ x : Option ((Int × Bool × (List Nat))), x.isSome = true → (o_laws_toFloat32S_l3 an outn b0) x = some (pick (lo_laws_toFloat32S_l3 an outn b0 x))
  | none, h => by cases h
  | some r, _ => rfl
theorem r_laws_toFloat32S_l3 (an : Nat) (outn : Nat) (i : Int) (b0 : List Nat) (b1 : List Nat) (K : Ex → St → Option (Ex × St)) : evC (R := Ex × St) Γ1 (evFn Γ1 8 8) 24 1 fi24.nt fi24.live fi24.nl 8 (findL 3 (loopsIn fi24.code)) (St.mk [(0, (AV.v (TV.one (At.vw 0 0 an 1)))), (3, (AV.v (TV.one (At.sl 1 0 outn 1)))), (4, (AV.v (TV.one (At.int IntKind.i64 i))))] [(Blk.mk Bool.false (Body.fl FloatKind.f32 b0)), (Blk.mk Bool.true (Body.fl FloatKind.f32 b1))]) K = T_laws_toFloat32S_l3 an outn b0 i b1 (fun i' b1' => K .normal (St.mk [(0, (AV.v (TV.one (At.vw 0 0 an 1)))), (3, (AV.v (TV.one (At.sl 1 0 outn 1)))), (4, (AV.v (TV.one (At.int IntKind.i64 i'))))] [(Blk.mk Bool.false (Body.fl FloatKind.f32 b0)), (Blk.mk Bool.true (Body.fl FloatKind.f32 b1'))])) (fun c0_ c1_ c2_ => K (Ex.exit 0) (St.mk [(0, (AV.v (TV.one (At.vw 0 0 an 1)))), (3, (AV.v (TV.one (At.sl 1 0 outn 1)))), (4, (AV.v (TV.one (At.int IntKind.i64 c0_)))), (11, (AV.v (TV.one (At.bool c1_))))] [(Blk.mk Bool.false (Body.fl FloatKind.f32 b0)), (Blk.mk Bool.true (Body.fl FloatKind.f32 c2_))])) := by kernel_rfl
theorem i_laws_toFloat32S_l3 (an : Nat) (outn : Nat) (b0 : List Nat) : ∀ (n : Nat) (i : Int) (b1 : List Nat), iter 24 3 1 (evC (R := Ex × St) Γ1 (evFn Γ1 8 8) 24 1 fi24.nt fi24.live fi24.nl 8 (findL 3 (loopsIn fi24.code))) n (St.mk [(0, (AV.v (TV.one (At.vw 0 0 an 1)))), (3, (AV.v (TV.one (At.sl 1 0 outn 1)))), (4, (AV.v (TV.one (At.int IntKind.i64 i))))] [(Blk.mk Bool.false (Body.fl FloatKind.f32 b0)), (Blk.mk Bool.true (Body.fl FloatKind.f32 b1))]) (fun e st => some (e, st)) = (o_laws_toFloat32S_l3 an outn b0) (L_laws_toFloat32S_l3 an outn b0 n i b1) := by
  intro n
  induction n with
  | zero => intros; rfl
  | succ n ih =>
    intro i b1
    refine Eq.trans (iter_succ ..) (Eq.trans (r_laws_toFloat32S_l3 an outn i b0 b1 (nextK 24 3 1 (evC (R := Ex × St) Γ1 (evFn Γ1 8 8) 24 1 fi24.nt fi24.live fi24.nl 8 (findL 3 (loopsIn fi24.code))) n (fun e st => some (e, st)))) (Eq.trans ?_ (T_laws_toFloat32S_l3_nat (o_laws_toFloat32S_l3 an outn b0) rfl an outn b0 i b1 (fun i' b1' => L_laws_toFloat32S_l3 an outn b0 n i' b1') (fun c0_ c1_ c2_ => some (c0_, c1_, c2_)))))
    exact congrArg (fun kn_ => T_laws_toFloat32S_l3 an outn b0 i b1 kn_ (fun c0_ c1_ c2_ => (o_laws_toFloat32S_l3 an outn b0) (some (c0_, c1_, c2_)))) (funext fun i' => funext fun b1' => ih i' b1')
theorem l_laws_toFloat32S_l3_ok : LoopOne Try.prog fnTab 24 3 l_laws_toFloat32S_l3 := lp_of (Γ := Γ1) tyTab_ok (FnL.ok fnTab_ok _ _) (LpL.ok lt1_ok) (SumL.ok tb1_ok _) mixed (fi := fi24) (by kernel_rfl) (by kernel_rfl) (by
  intro lo st out hp
  unfold l_laws_toFloat32S_l3 at hp
  split at hp
  · rename_i an outn i b0 b1
    injection hp with hp
    injection hp with h1 h2
    subst h2
    exact ⟨8, 8, big, Eq.trans (i_laws_toFloat32S_l3 an outn b0 big i b1) (f_laws_toFloat32S_l3 an outn b0 (L_laws_toFloat32S_l3 an outn b0 big i b1) h1)⟩
  · cases hp)
noncomputable def tb2 : List (Nat × (List PT → Option (Bool × AV × List Blk))) := [(109, s_math_Float32bits), (118, s_math_archFloor), (125, s_math_Float64frombits), (133, s_math_Float64bits), (139, s_math_archTrunc), (26, s_laws_sameFloat), (52, s_impl_IsFinite), (71, s_spec_l00Max), (82, s_spec_l01Finite), (89, s_impl_isLeast), (96, s_spec_l02Least)]
noncomputable def lt2 : List ((Nat × Nat) × (Nat → St → Option (Bool × LO))) := [((24, 3), l_laws_toFloat32S_l3)]
noncomputable def Γ2 : Ctx := ⟨tyTab, fnTab, tblSum tb2, tblLp lt2⟩
theorem tb2_ok : SumL Try.prog tb2 := SumL.cons s_math_Float32bits_ok (SumL.cons s_math_archFloor_ok (SumL.cons s_math_Float64frombits_ok (SumL.cons s_math_Float64bits_ok (SumL.cons s_math_archTrunc_ok (SumL.cons s_laws_sameFloat_ok (SumL.cons s_impl_IsFinite_ok (SumL.cons s_spec_l00Max_ok (SumL.cons s_spec_l01Finite_ok (SumL.cons s_impl_isLeast_ok (SumL.cons s_spec_l02Least_ok (SumL.nil)))))))))))
theorem lt2_ok : LpL Try.prog fnTab lt2 := LpL.cons l_laws_toFloat32S_l3_ok (LpL.nil)
noncomputable def s_laws_toFloat32S : List PT → Option (Bool × AV × List Blk)
  | [.one (.row 1 a_n (.fl .f32 a))] => some ((laws_toFloat32S_p a_n a), ((AV.v (TV.one (At.sl 0 0 (laws_toFloat32S_v0 a_n a) 1))), [(Blk.mk Bool.true (Body.fl FloatKind.f32 (laws_toFloat32S_v1 a_n a)))]))
  | _ => none
def o_laws_toFloat32S (a_n : Nat) (a : List Nat) : Option (Nat × (List Nat)) → Option (AV × List Blk)
  | some r => some ((AV.v (TV.one (At.sl 0 0 r.1 1))), [(Blk.mk Bool.true (Body.fl FloatKind.f32 r.2))])
  | none => none
theorem e_laws_toFloat32S (a_n : Nat) (a : List Nat) : evFn Γ2 8 8 24 (impTs 0 [.one (.row 1 a_n (.fl .f32 a))]).1 (impTs 0 [.one (.row 1 a_n (.fl .f32 a))]).2 (expo (impTs 0 [.one (.row 1 a_n (.fl .f32 a))]).2.length) = T_laws_toFloat32S a_n a (fun c0_ c1_ => some ((AV.v (TV.one (At.sl 0 0 c0_ 1))), [(Blk.mk Bool.true (Body.fl FloatKind.f32 c1_))])) := by kernel_rfl
theorem s_laws_toFloat32S_ok : SumOne Try.prog 24 s_laws_toFloat32S := sum_of (Γ := Γ2) (fuel := 8) (d := 8) tyTab_ok (FnL.ok fnTab_ok _ _) (LpL.ok lt2_ok) (SumL.ok tb2_ok _) mixed (by
  intro pts v news hp hc
  clear hc
  unfold s_laws_toFloat32S at hp
  split at hp
  · rename_i a_n a
    exact Eq.trans (Eq.trans (e_laws_toFloat32S a_n a) (T_laws_toFloat32S_nat (o_laws_toFloat32S a_n a) rfl a_n a (fun c0_ c1_ => some (c0_, c1_)))) (fin_out (o := (o_laws_toFloat32S a_n a)) (x := F_laws_toFloat32S a_n a) (d := default) (V := fun r => ((AV.v (TV.one (At.sl 0 0 r.1 1))), [(Blk.mk Bool.true (Body.fl FloatKind.f32 r.2))])) (fun r => rfl) hp)
  · cases hp)
noncomputable def s_impl_areLeast_1 : List PT → Option (Bool × AV × List Blk)
  | [.one (.s (.flt .f32 x))] => some ((impl_areLeast_1_p x), ((AV.v (TV.one (At.bool (impl_areLeast_1_v0 x)))), []))
  | _ => none
def o_impl_areLeast_1 (x : Nat) : Option (Bool) → Option (AV × List Blk)
  | some r => some ((AV.v (TV.one (At.bool r))), [])
  | none => none
theorem e_impl_areLeast_1 (x : Nat) : evFn Γ2 8 8 117 (impTs 0 [.one (.s (.flt .f32 x))]).1 (impTs 0 [.one (.s (.flt .f32 x))]).2 (expo (impTs 0 [.one (.s (.flt .f32 x))]).2.length) = T_impl_areLeast_1 x (fun c0_ => some ((AV.v (TV.one (At.bool c0_))), [])) := by kernel_rfl
theorem s_impl_areLeast_1_ok : SumOne Try.prog 117 s_impl_areLeast_1 := sum_of (Γ := Γ2) (fuel := 8) (d := 8) tyTab_ok (FnL.ok fnTab_ok _ _) (LpL.ok lt2_ok) (SumL.ok tb2_ok _) mixed (by
  intro pts v news hp hc
  clear hc
  unfold s_impl_areLeast_1 at hp
  split at hp
  · rename_i x
    exact Eq.trans (Eq.trans (e_impl_areLeast_1 x) (T_impl_areLeast_1_nat (o_impl_areLeast_1 x) rfl x (fun c0_ => some c0_))) (fin_out (o := (o_impl_areLeast_1 x)) (x := F_impl_areLeast_1 x) (d := default) (V := fun r => ((AV.v (TV.one (At.bool r))), [])) (fun r => rfl) hp)
  · cases hp)
noncomputable def l_laws_eqFloat32S_l4 : Nat → St → Option (Bool × LO)
  | 2, (St.mk [(0, (AV.v (TV.one (At.vw 0 0 an 1)))), (1, (AV.v (TV.one (At.vw 1 0 bn 1)))), (5, (AV.v (TV.one (At.int IntKind.i64 i))))] [(Blk.mk Bool.false (Body.fl FloatKind.f32 b0)), (Blk.mk Bool.false (Body.fl FloatKind.f32 b1))]) => some ((laws_eqFloat32S_l4_p an bn b0 b1 i), (LO.two (laws_eqFloat32S_l4_w0 an bn b0 b1 i) (LO.one Ex.ret (St.mk [(4, (AV.v (TV.one (At.bool Bool.false))))] [(Blk.mk Bool.false (Body.fl FloatKind.f32 b0)), (Blk.mk Bool.false (Body.fl FloatKind.f32 b1))])) (LO.one (Ex.exit 0) (St.mk [(0, (AV.v (TV.one (At.vw 0 0 an 1)))), (1, (AV.v (TV.one (At.vw 1 0 bn 1)))), (5, (AV.v (TV.one (At.int IntKind.i64 (laws_eqFloat32S_l4_a1_0 an bn b0 b1 i))))), (14, (AV.v (TV.one (At.bool (laws_eqFloat32S_l4_a1_1 an bn b0 b1 i)))))] [(Blk.mk Bool.false (Body.fl FloatKind.f32 b0)), (Blk.mk Bool.false (Body.fl FloatKind.f32 b1))]))))
  | _, _ => none
def o_laws_eqFloat32S_l4 (an : Nat) (bn : Nat) (b0 : List Nat) (b1 : List Nat) : Option ((Unit) ⊕ (Int × Bool)) → Option (Ex × St)
  | none => none
  | some (Sum.inl r) => some (Ex.ret, (St.mk [(4, (AV.v (TV.one (At.bool Bool.false))))] [(Blk.mk Bool.false (Body.fl FloatKind.f32 b0)), (Blk.mk Bool.false (Body.fl FloatKind.f32 b1))]))
  | some (Sum.inr r) => some ((Ex.exit 0), (St.mk [(0, (AV.v (TV.one (At.vw 0 0 an 1)))), (1, (AV.v (TV.one (At.vw 1 0 bn 1)))), (5, (AV.v (TV.one (At.int IntKind.i64 r.1)))), (14, (AV.v (TV.one (At.bool r.2))))] [(Blk.mk Bool.false (Body.fl FloatKind.f32 b0)), (Blk.mk Bool.false (Body.fl FloatKind.f32 b1))]))
def lo_laws_eqFloat32S_l4 (an : Nat) (bn : Nat) (b0 : List Nat) (b1 : List Nat) (x : Option ((Unit) ⊕ (Int × Bool))) : LO := (LO.two (oL x) (LO.one Ex.ret (St.mk [(4, (AV.v (TV.one (At.bool Bool.false))))] [(Blk.mk Bool.false (Body.fl FloatKind.f32 b0)), (Blk.mk Bool.false (Body.fl FloatKind.f32 b1))])) (LO.one (Ex.exit 0) (St.mk [(0, (AV.v (TV.one (At.vw 0 0 an 1)))), (1, (AV.v (TV.one (At.vw 1 0 bn 1)))), (5, (AV.v (TV.one (At.int IntKind.i64 ((tR x).getD default).1)))), (14, (AV.v (TV.one (At.bool ((tR x).getD default).2))))] [(Blk.mk Bool.false (Body.fl FloatKind.f32 b0)), (Blk.mk Bool.false (Body.fl FloatKind.f32 b1))])))
theorem f_laws_eqFloat32S_l4 (an : Nat) (bn : Nat) (b0 : List Nat) (b1 : List Nat) : ∀ x : Option ((Unit) ⊕ (Int × Bool)), x.isSome = true → (o_laws_eqFloat32S_l4 an bn b0 b1) x = some (pick (lo_laws_eqFloat32S_l4 an bn b0 b1 x))
  | none, h => by cases h
  | some (Sum.inl r), _ => rfl
  | some (Sum.inr r), _ => rfl
theorem r_laws_eqFloat32S_l4 (an : Nat) (bn : Nat) (i : Int) (b0 : List Nat) (b1 : List Nat) (K : Ex → St → Option (Ex × St)) : evC (R := Ex × St) Γ2 (evFn Γ2 8 8) 27 2 fi27.nt fi27.live fi27.nl 8 (findL 4 (loopsIn fi27.code)) (St.mk [(0, (AV.v (TV.one (At.vw 0 0 an 1)))), (1, (AV.v (TV.one (At.vw 1 0 bn 1)))), (5, (AV.v (TV.one (At.int IntKind.i64 i))))] [(Blk.mk Bool.false (Body.fl FloatKind.f32 b0)), (Blk.mk Bool.false (Body.fl FloatKind.f32 b1))]) K = T_laws_eqFloat32S_l4 an bn b0 b1 i (fun i' => K .normal (St.mk [(0, (AV.v (TV.one (At.vw 0 0 an 1)))), (1, (AV.v (TV.one (At.vw 1 0 bn 1)))), (5, (AV.v (TV.one (At.int IntKind.i64 i'))))] [(Blk.mk Bool.false (Body.fl FloatKind.f32 b0)), (Blk.mk Bool.false (Body.fl FloatKind.f32 b1))])) (fun _ => K Ex.ret (St.mk [(4, (AV.v (TV.one (At.bool Bool.false))))] [(Blk.mk Bool.false (Body.fl FloatKind.f32 b0)), (Blk.mk Bool.false (Body.fl FloatKind.f32 b1))])) (fun c0_ c1_ => K (Ex.exit 0) (St.mk [(0, (AV.v (TV.one (At.vw 0 0 an 1)))), (1, (AV.v (TV.one (At.vw 1 0 bn 1)))), (5, (AV.v (TV.one (At.int IntKind.i64 c0_)))), (14, (AV.v (TV.one (At.bool c1_))))] [(Blk.mk Bool.false (Body.fl FloatKind.f32 b0)), (Blk.mk Bool.false (Body.fl FloatKind.f32 b1))])) := by kernel_rfl
theorem i_laws_eqFloat32S_l4 (an : Nat) (bn : Nat) (b0 : List Nat) (b1 : List Nat) : ∀ (n : Nat) (i : Int), iter 27 4 2 (evC (R := Ex × St) Γ2 (evFn Γ2 8 8) 27 2 fi27.nt fi27.live fi27.nl 8 (findL 4 (loopsIn fi27.code))) n (St.mk [(0, (AV.v (TV.one (At.vw 0 0 an 1)))), (1, (AV.v (TV.one (At.vw 1 0 bn 1)))), (5, (AV.v (TV.one (At.int IntKind.i64 i))))] [(Blk.mk Bool.false (Body.fl FloatKind.f32 b0)), (Blk.mk Bool.false (Body.fl FloatKind.f32 b1))]) (fun e st => some (e, st)) = (o_laws_eqFloat32S_l4 an bn b0 b1) (L_laws_eqFloat32S_l4 an bn b0 b1 n i) := by
  intro n
  induction n with
  | zero => intros; rfl
  | succ n ih =>
    intro i
    refine Eq.trans (iter_succ ..) (Eq.trans (r_laws_eqFloat32S_l4 an bn i b0 b1 (nextK 27 4 2 (evC (R := Ex × St) Γ2 (evFn Γ2 8 8) 27 2 fi27.nt fi27.live fi27.nl 8 (findL 4 (loopsIn fi27.code))) n (fun e st => some (e, st)))) (Eq.trans ?_ (T_laws_eqFloat32S_l4_nat (o_laws_eqFloat32S_l4 an bn b0 b1) rfl an bn b0 b1 i (fun i' => L_laws_eqFloat32S_l4 an bn b0 b1 n i') (fun _ => some (Sum.inl ())) (fun c0_ c1_ => some (Sum.inr (c0_, c1_))))))
    exact congrArg (fun kn_ => T_laws_eqFloat32S_l4 an bn b0 b1 i kn_ (fun _ => (o_laws_eqFloat32S_l4 an bn b0 b1) (some (Sum.inl ()))) (fun c0_ c1_ => (o_laws_eqFloat32S_l4 an bn b0 b1) (some (Sum.inr (c0_, c1_))))) (funext fun i' => ih i')
theorem l_laws_eqFloat32S_l4_ok : LoopOne Try.prog fnTab 27 4 l_laws_eqFloat32S_l4 := lp_of (Γ := Γ2) tyTab_ok (FnL.ok fnTab_ok _ _) (LpL.ok lt2_ok) (SumL.ok tb2_ok _) mixed (fi := fi27) (by kernel_rfl) (by kernel_rfl) (by
  intro lo st out hp
  unfold l_laws_eqFloat32S_l4 at hp
  split at hp
  · rename_i an bn i b0 b1
    injection hp with hp
    injection hp with h1 h2
    subst h2
    exact ⟨8, 8, big, Eq.trans (i_laws_eqFloat32S_l4 an bn b0 b1 big i) (f_laws_eqFloat32S_l4 an bn b0 b1 (L_laws_eqFloat32S_l4 an bn b0 b1 big i) h1)⟩
  · cases hp)
noncomputable def tb3 : List (Nat × (List PT → Option (Bool × AV × List Blk))) := [(109, s_math_Float32bits), (118, s_math_archFloor), (125, s_math_Float64frombits), (133, s_math_Float64bits), (139, s_math_archTrunc), (26, s_laws_sameFloat), (52, s_impl_IsFinite), (71, s_spec_l00Max), (82, s_spec_l01Finite), (89, s_impl_isLeast), (96, s_spec_l02Least), (24, s_laws_toFloat32S), (117, s_impl_areLeast_1)]
noncomputable def lt3 : List ((Nat × Nat) × (Nat → St → Option (Bool × LO))) := [((24, 3), l_laws_toFloat32S_l3), ((27, 4), l_laws_eqFloat32S_l4)]
noncomputable def Γ3 : Ctx := ⟨tyTab, fnTab, tblSum tb3, tblLp lt3⟩
theorem tb3_ok : SumL Try.prog tb3 := SumL.cons s_math_Float32bits_ok (SumL.cons s_math_archFloor_ok (SumL.cons s_math_Float64frombits_ok (SumL.cons s_math_Float64bits_ok (SumL.cons s_math_archTrunc_ok (SumL.cons s_laws_sameFloat_ok (SumL.cons s_impl_IsFinite_ok (SumL.cons s_spec_l00Max_ok (SumL.cons s_spec_l01Finite_ok (SumL.cons s_impl_isLeast_ok (SumL.cons s_spec_l02Least_ok (SumL.cons s_laws_toFloat32S_ok (SumL.cons s_impl_areLeast_1_ok (SumL.nil)))))))))))))
theorem lt3_ok : LpL Try.prog fnTab lt3 := LpL.cons l_laws_toFloat32S_l3_ok (LpL.cons l_laws_eqFloat32S_l4_ok (LpL.nil))
noncomputable def s_laws_eqFloat32S : List PT → Option (Bool × AV × List Blk)
  | [.one (.row 1 a_n (.fl .f32 a)), .one (.row 1 b_n (.fl .f32 b))] => some ((laws_eqFloat32S_p a_n a b_n b), ((AV.v (TV.one (At.bool (laws_eqFloat32S_v0 a_n a b_n b)))), []))
  | _ => none
def o_laws_eqFloat32S (a_n : Nat) (a : List Nat) (b_n : Nat) (b : List Nat) : Option (Bool) → Option (AV × List Blk)
  | some r => some ((AV.v (TV.one (At.bool r))), [])
  | none => none
theorem e_laws_eqFloat32S (a_n : Nat) (a : List Nat) (b_n : Nat) (b : List Nat) : evFn Γ3 8 8 27 (impTs 0 [.one (.row 1 a_n (.fl .f32 a)), .one (.row 1 b_n (.fl .f32 b))]).1 (impTs 0 [.one (.row 1 a_n (.fl .f32 a)), .one (.row 1 b_n (.fl .f32 b))]).2 (expo (impTs 0 [.one (.row 1 a_n (.fl .f32 a)), .one (.row 1 b_n (.fl .f32 b))]).2.length) = T_laws_eqFloat32S a_n a b_n b (fun c0_ => some ((AV.v (TV.one (At.bool c0_))), [])) := by kernel_rfl
theorem s_laws_eqFloat32S_ok : SumOne Try.prog 27 s_laws_eqFloat32S := sum_of (Γ := Γ3) (fuel := 8) (d := 8) tyTab_ok (FnL.ok fnTab_ok _ _) (LpL.ok lt3_ok) (SumL.ok tb3_ok _) mixed (by
  intro pts v news hp hc
  clear hc
  unfold s_laws_eqFloat32S at hp
  split at hp
  · rename_i a_n a b_n b
    exact Eq.trans (Eq.trans (e_laws_eqFloat32S a_n a b_n b) (T_laws_eqFloat32S_nat (o_laws_eqFloat32S a_n a b_n b) rfl a_n a b_n b (fun c0_ => some c0_))) (fin_out (o := (o_laws_eqFloat32S a_n a b_n b)) (x := F_laws_eqFloat32S a_n a b_n b) (d := default) (V := fun r => ((AV.v (TV.one (At.bool r))), [])) (fun r => rfl) hp)
  · cases hp)
noncomputable def l_spec_l04Winds_l2 : Nat → St → Option (Bool × LO)
  | 1, (St.mk [(0, (AV.v (TV.one (At.vw 0 0 listn 1)))), (3, (AV.v (TV.one (At.int IntKind.i64 i))))] [(Blk.mk Bool.false (Body.fl FloatKind.f32 b0))]) => some ((spec_l04Winds_l2_p listn b0 i), (LO.two (spec_l04Winds_l2_w0 listn b0 i) (LO.one Ex.ret (St.mk [(2, (AV.v (TV.one (At.bool Bool.false))))] [(Blk.mk Bool.false (Body.fl FloatKind.f32 b0))])) (LO.one (Ex.exit 0) (St.mk [(0, (AV.v (TV.one (At.vw 0 0 listn 1)))), (3, (AV.v (TV.one (At.int IntKind.i64 (spec_l04Winds_l2_a1_0 listn b0 i))))), (12, (AV.v (TV.one (At.bool (spec_l04Winds_l2_a1_1 listn b0 i)))))] [(Blk.mk Bool.false (Body.fl FloatKind.f32 b0))]))))
  | _, _ => none
def o_spec_l04Winds_l2 (listn : Nat) (b0 : List Nat) : Option ((Unit) ⊕ (Int × Bool)) → Option (Ex × St)
  | none => none
  | some (Sum.inl r) => some (Ex.ret, (St.mk [(2, (AV.v (TV.one (At.bool Bool.false))))] [(Blk.mk Bool.false (Body.fl FloatKind.f32 b0))]))
  | some (Sum.inr r) => some ((Ex.exit 0), (St.mk [(0, (AV.v (TV.one (At.vw 0 0 listn 1)))), (3, (AV.v (TV.one (At.int IntKind.i64 r.1)))), (12, (AV.v (TV.one (At.bool r.2))))] [(Blk.mk Bool.false (Body.fl FloatKind.f32 b0))]))
def lo_spec_l04Winds_l2 (listn : Nat) (b0 : List Nat) (x : Option ((Unit) ⊕ (Int × Bool))) : LO := (LO.two (oL x) (LO.one Ex.ret (St.mk [(2, (AV.v (TV.one (At.bool Bool.false))))] [(Blk.mk Bool.false (Body.fl FloatKind.f32 b0))])) (LO.one (Ex.exit 0) (St.mk [(0, (AV.v (TV.one (At.vw 0 0 listn 1)))), (3, (AV.v (TV.one (At.int IntKind.i64 ((tR x).getD default).1)))), (12, (AV.v (TV.one (At.bool ((tR x).getD default).2))))] [(Blk.mk Bool.false (Body.fl FloatKind.f32 b0))])))
theorem f_spec_l04Winds_l2 (listn : Nat) (b0 : List Nat) : ∀ x : Option ((Unit) ⊕ (Int × Bool)), x.isSome = true → (o_spec_l04Winds_l2 listn b0) x = some (pick (lo_spec_l04Winds_l2 listn b0 x))
  | none, h => by cases h
  | some (Sum.inl r), _ => rfl
  | some (Sum.inr r), _ => rfl
theorem r_spec_l04Winds_l2 (listn : Nat) (i : Int) (b0 : List Nat) (K : Ex → St → Option (Ex × St)) : evC (R := Ex × St) Γ3 (evFn Γ3 8 8) 60 1 fi60.nt fi60.live fi60.nl 8 (findL 2 (loopsIn fi60.code)) (St.mk [(0, (AV.v (TV.one (At.vw 0 0 listn 1)))), (3, (AV.v (TV.one (At.int IntKind.i64 i))))] [(Blk.mk Bool.false (Body.fl FloatKind.f32 b0))]) K = T_spec_l04Winds_l2 listn b0 i (fun i' => K .normal (St.mk [(0, (AV.v (TV.one (At.vw 0 0 listn 1)))), (3, (AV.v (TV.one (At.int IntKind.i64 i'))))] [(Blk.mk Bool.false (Body.fl FloatKind.f32 b0))])) (fun _ => K Ex.ret (St.mk [(2, (AV.v (TV.one (At.bool Bool.false))))] [(Blk.mk Bool.false (Body.fl FloatKind.f32 b0))])) (fun c0_ c1_ => K (Ex.exit 0) (St.mk [(0, (AV.v (TV.one (At.vw 0 0 listn 1)))), (3, (AV.v (TV.one (At.int IntKind.i64 c0_)))), (12, (AV.v (TV.one (At.bool c1_))))] [(Blk.mk Bool.false (Body.fl FloatKind.f32 b0))])) := by kernel_rfl
theorem i_spec_l04Winds_l2 (listn : Nat) (b0 : List Nat) : ∀ (n : Nat) (i : Int), iter 60 2 1 (evC (R := Ex × St) Γ3 (evFn Γ3 8 8) 60 1 fi60.nt fi60.live fi60.nl 8 (findL 2 (loopsIn fi60.code))) n (St.mk [(0, (AV.v (TV.one (At.vw 0 0 listn 1)))), (3, (AV.v (TV.one (At.int IntKind.i64 i))))] [(Blk.mk Bool.false (Body.fl FloatKind.f32 b0))]) (fun e st => some (e, st)) = (o_spec_l04Winds_l2 listn b0) (L_spec_l04Winds_l2 listn b0 n i) := by
  intro n
  induction n with
  | zero => intros; rfl
  | succ n ih =>
    intro i
    refine Eq.trans (iter_succ ..) (Eq.trans (r_spec_l04Winds_l2 listn i b0 (nextK 60 2 1 (evC (R := Ex × St) Γ3 (evFn Γ3 8 8) 60 1 fi60.nt fi60.live fi60.nl 8 (findL 2 (loopsIn fi60.code))) n (fun e st => some (e, st)))) (Eq.trans ?_ (T_spec_l04Winds_l2_nat (o_spec_l04Winds_l2 listn b0) rfl listn b0 i (fun i' => L_spec_l04Winds_l2 listn b0 n i') (fun _ => some (Sum.inl ())) (fun c0_ c1_ => some (Sum.inr (c0_, c1_))))))
    exact congrArg (fun kn_ => T_spec_l04Winds_l2 listn b0 i kn_ (fun _ => (o_spec_l04Winds_l2 listn b0) (some (Sum.inl ()))) (fun c0_ c1_ => (o_spec_l04Winds_l2 listn b0) (some (Sum.inr (c0_, c1_))))) (funext fun i' => ih i')
theorem l_spec_l04Winds_l2_ok : LoopOne Try.prog fnTab 60 2 l_spec_l04Winds_l2 := lp_of (Γ := Γ3) tyTab_ok (FnL.ok fnTab_ok _ _) (LpL.ok lt3_ok) (SumL.ok tb3_ok _) mixed (fi := fi60) (by kernel_rfl) (by kernel_rfl) (by
  intro lo st out hp
  unfold l_spec_l04Winds_l2 at hp
  split at hp
  · rename_i listn i b0
    injection hp with hp
    injection hp with h1 h2
    subst h2
    exact ⟨8, 8, big, Eq.trans (i_spec_l04Winds_l2 listn b0 big i) (f_spec_l04Winds_l2 listn b0 (L_spec_l04Winds_l2 listn b0 big i) h1)⟩
  · cases hp)
noncomputable def tb4 : List (Nat × (List PT → Option (Bool × AV × List Blk))) := [(109, s_math_Float32bits), (118, s_math_archFloor), (125, s_math_Float64frombits), (133, s_math_Float64bits), (139, s_math_archTrunc), (26, s_laws_sameFloat), (52, s_impl_IsFinite), (71, s_spec_l00Max), (82, s_spec_l01Finite), (89, s_impl_isLeast), (96, s_spec_l02Least), (24, s_laws_toFloat32S), (117, s_impl_areLeast_1), (27, s_laws_eqFloat32S)]
noncomputable def lt4 : List ((Nat × Nat) × (Nat → St → Option (Bool × LO))) := [((24, 3), l_laws_toFloat32S_l3), ((27, 4), l_laws_eqFloat32S_l4), ((60, 2), l_spec_l04Winds_l2)]
noncomputable def Γ4 : Ctx := ⟨tyTab, fnTab, tblSum tb4, tblLp lt4⟩
theorem tb4_ok : SumL Try.prog tb4 := SumL.cons s_math_Float32bits_ok (SumL.cons s_math_archFloor_ok (SumL.cons s_math_Float64frombits_ok (SumL.cons s_math_Float64bits_ok (SumL.cons s_math_archTrunc_ok (SumL.cons s_laws_sameFloat_ok (SumL.cons s_impl_IsFinite_ok (SumL.cons s_spec_l00Max_ok (SumL.cons s_spec_l01Finite_ok (SumL.cons s_impl_isLeast_ok (SumL.cons s_spec_l02Least_ok (SumL.cons s_laws_toFloat32S_ok (SumL.cons s_impl_areLeast_1_ok (SumL.cons s_laws_eqFloat32S_ok (SumL.nil))))))))))))))
theorem lt4_ok : LpL Try.prog fnTab lt4 := LpL.cons l_laws_toFloat32S_l3_ok (LpL.cons l_laws_eqFloat32S_l4_ok (LpL.cons l_spec_l04Winds_l2_ok (LpL.nil)))
noncomputable def s_spec_l04Winds : List PT → Option (Bool × AV × List Blk)
  | [.one (.row 1 list_n (.fl .f32 list))] => some ((spec_l04Winds_p list_n list), ((AV.v (TV.one (At.bool (spec_l04Winds_v0 list_n list)))), []))
  | _ => none
def o_spec_l04Winds (list_n : Nat) (list : List Nat) : Option (Bool) → Option (AV × List Blk)
  | some r => some ((AV.v (TV.one (At.bool r))), [])
  | none => none
theorem e_spec_l04Winds (list_n : Nat) (list : List Nat) : evFn Γ4 8 8 60 (impTs 0 [.one (.row 1 list_n (.fl .f32 list))]).1 (impTs 0 [.one (.row 1 list_n (.fl .f32 list))]).2 (expo (impTs 0 [.one (.row 1 list_n (.fl .f32 list))]).2.length) = T_spec_l04Winds list_n list (fun c0_ => some ((AV.v (TV.one (At.bool c0_))), [])) := by kernel_rfl
theorem s_spec_l04Winds_ok : SumOne Try.prog 60 s_spec_l04Winds := sum_of (Γ := Γ4) (fuel := 8) (d := 8) tyTab_ok (FnL.ok fnTab_ok _ _) (LpL.ok lt4_ok) (SumL.ok tb4_ok _) mixed (by
  intro pts v news hp hc
  clear hc
  unfold s_spec_l04Winds at hp
  split at hp
  · rename_i list_n list
    exact Eq.trans (Eq.trans (e_spec_l04Winds list_n list) (T_spec_l04Winds_nat (o_spec_l04Winds list_n list) rfl list_n list (fun c0_ => some c0_))) (fin_out (o := (o_spec_l04Winds list_n list)) (x := F_spec_l04Winds list_n list) (d := default) (V := fun r => ((AV.v (TV.one (At.bool r))), [])) (fun r => rfl) hp)
  · cases hp)
noncomputable def l_slices_IndexFunc_sf32_f32_areLeast_1_l2 : Nat → St → Option (Bool × LO)
  | 1, (St.mk [(0, (AV.v (TV.one (At.vw 0 0 sn 1)))), (1, (AV.v (TV.one (At.fn 117 [])))), (7, (AV.v (TV.one (At.int IntKind.i64 t7)))), (8, (AV.v (TV.one (At.int IntKind.i64 t8))))] [(Blk.mk Bool.false (Body.fl FloatKind.f32 b0))]) => some ((slices_IndexFunc_sf32_f32_areLeast_1_l2_p sn t7 b0 t8), (LO.two (slices_IndexFunc_sf32_f32_areLeast_1_l2_w0 sn t7 b0 t8) (LO.one Ex.ret (St.mk [(4, (AV.v (TV.one (At.int IntKind.i64 (slices_IndexFunc_sf32_f32_areLeast_1_l2_a0_0 sn t7 b0 t8)))))] [(Blk.mk Bool.false (Body.fl FloatKind.f32 b0))])) (LO.one (Ex.exit 0) (St.mk [(0, (AV.v (TV.one (At.vw 0 0 sn 1)))), (1, (AV.v (TV.one (At.fn 117 [])))), (7, (AV.v (TV.one (At.int IntKind.i64 t7)))), (8, (AV.v (TV.one (At.int IntKind.i64 (slices_IndexFunc_sf32_f32_areLeast_1_l2_a1_0 sn t7 b0 t8))))), (9, (AV.v (TV.one (At.bool (slices_IndexFunc_sf32_f32_areLeast_1_l2_a1_1 sn t7 b0 t8)))))] [(Blk.mk Bool.false (Body.fl FloatKind.f32 b0))]))))
  | _, _ => none
def o_slices_IndexFunc_sf32_f32_areLeast_1_l2 (sn : Nat) (t7 : Int) (b0 : List Nat) : Option ((Int) ⊕ (Int × Bool)) → Option (Ex × St)
  | none => none
  | some (Sum.inl r) => some (Ex.ret, (St.mk [(4, (AV.v (TV.one (At.int IntKind.i64 r))))] [(Blk.mk Bool.false (Body.fl FloatKind.f32 b0))]))
  | some (Sum.inr r) => some ((Ex.exit 0), (St.mk [(0, (AV.v (TV.one (At.vw 0 0 sn 1)))), (1, (AV.v (TV.one (At.fn 117 [])))), (7, (AV.v (TV.one (At.int IntKind.i64 t7)))), (8, (AV.v (TV.one (At.int IntKind.i64 r.1)))), (9, (AV.v (TV.one (At.bool r.2))))] [(Blk.mk Bool.false (Body.fl FloatKind.f32 b0))]))
def lo_slices_IndexFunc_sf32_f32_areLeast_1_l2 (sn : Nat) (t7 : Int) (b0 : List Nat) (x : Option ((Int) ⊕ (Int × Bool))) : LO := (LO.two (oL x) (LO.one Ex.ret (St.mk [(4, (AV.v (TV.one (At.int IntKind.i64 ((tL x).getD default)))))] [(Blk.mk Bool.false (Body.fl FloatKind.f32 b0))])) (LO.one (Ex.exit 0) (St.mk [(0, (AV.v (TV.one (At.vw 0 0 sn 1)))), (1, (AV.v (TV.one (At.fn 117 [])))), (7, (AV.v (TV.one (At.int IntKind.i64 t7)))), (8, (AV.v (TV.one (At.int IntKind.i64 ((tR x).getD default).1)))), (9, (AV.v (TV.one (At.bool ((tR x).getD default).2))))] [(Blk.mk Bool.false (Body.fl FloatKind.f32 b0))])))
theorem f_slices_IndexFunc_sf32_f32_areLeast_1_l2 (sn : Nat) (t7 : Int) (b0 : List Nat) : ∀ x : Option ((Int) ⊕ (Int × Bool)), x.isSome = true → (o_slices_IndexFunc_sf32_f32_areLeast_1_l2 sn t7 b0) x = some (pick (lo_slices_IndexFunc_sf32_f32_areLeast_1_l2 sn t7 b0 x))
  | none, h => by cases h
  | some (Sum.inl r), _ => rfl
  | some (Sum.inr r), _ => rfl
theorem r_slices_IndexFunc_sf32_f32_areLeast_1_l2 (sn : Nat) (t7 : Int) (t8 : Int) (b0 : List Nat) (K : Ex → St → Option (Ex × St)) : evC (R := Ex × St) Γ4 (evFn Γ4 8 8) 116 1 fi116.nt fi116.live fi116.nl 8 (findL 2 (loopsIn fi116.code)) (St.mk [(0, (AV.v (TV.one (At.vw 0 0 sn 1)))), (1, (AV.v (TV.one (At.fn 117 [])))), (7, (AV.v (TV.one (At.int IntKind.i64 t7)))), (8, (AV.v (TV.one (At.int IntKind.i64 t8))))] [(Blk.mk Bool.false (Body.fl FloatKind.f32 b0))]) K = T_slices_IndexFunc_sf32_f32_areLeast_1_l2 sn t7 b0 t8 (fun t8' => K .normal (St.mk [(0, (AV.v (TV.one (At.vw 0 0 sn 1)))), (1, (AV.v (TV.one (At.fn 117 [])))), (7, (AV.v (TV.one (At.int IntKind.i64 t7)))), (8, (AV.v (TV.one (At.int IntKind.i64 t8'))))] [(Blk.mk Bool.false (Body.fl FloatKind.f32 b0))])) (fun c0_ => K Ex.ret (St.mk [(4, (AV.v (TV.one (At.int IntKind.i64 c0_))))] [(Blk.mk Bool.false (Body.fl FloatKind.f32 b0))])) (fun c0_ c1_ => K (Ex.exit 0) (St.mk [(0, (AV.v (TV.one (At.vw 0 0 sn 1)))), (1, (AV.v (TV.one (At.fn 117 [])))), (7, (AV.v (TV.one (At.int IntKind.i64 t7)))), (8, (AV.v (TV.one (At.int IntKind.i64 c0_)))), (9, (AV.v (TV.one (At.bool c1_))))] [(Blk.mk Bool.false (Body.fl FloatKind.f32 b0))])) := by kernel_rfl
theorem i_slices_IndexFunc_sf32_f32_areLeast_1_l2 (sn : Nat) (t7 : Int) (b0 : List Nat) : ∀ (n : Nat) (t8 : Int), iter 116 2 1 (evC (R := Ex × St) Γ4 (evFn Γ4 8 8) 116 1 fi116.nt fi116.live fi116.nl 8 (findL 2 (loopsIn fi116.code))) n (St.mk [(0, (AV.v (TV.one (At.vw 0 0 sn 1)))), (1, (AV.v (TV.one (At.fn 117 [])))), (7, (AV.v (TV.one (At.int IntKind.i64 t7)))), (8, (AV.v (TV.one (At.int IntKind.i64 t8))))] [(Blk.mk Bool.false (Body.fl FloatKind.f32 b0))]) (fun e st => some (e, st)) = (o_slices_IndexFunc_sf32_f32_areLeast_1_l2 sn t7 b0) (L_slices_IndexFunc_sf32_f32_areLeast_1_l2 sn t7 b0 n t8) := by
  intro n
  induction n with
  | zero => intros; rfl
  | succ n ih =>
    intro t8
    refine Eq.trans (iter_succ ..) (Eq.trans (r_slices_IndexFunc_sf32_f32_areLeast_1_l2 sn t7 t8 b0 (nextK 116 2 1 (evC (R := Ex × St) Γ4 (evFn Γ4 8 8) 116 1 fi116.nt fi116.live fi116.nl 8 (findL 2 (loopsIn fi116.code))) n (fun e st => some (e, st)))) (Eq.trans ?_ (T_slices_IndexFunc_sf32_f32_areLeast_1_l2_nat (o_slices_IndexFunc_sf32_f32_areLeast_1_l2 sn t7 b0) rfl sn t7 b0 t8 (fun t8' => L_slices_IndexFunc_sf32_f32_areLeast_1_l2 sn t7 b0 n t8') (fun c0_ => some (Sum.inl c0_)) (fun c0_ c1_ => some (Sum.inr (c0_, c1_))))))
    exact congrArg (fun kn_ => T_slices_IndexFunc_sf32_f32_areLeast_1_l2 sn t7 b0 t8 kn_ (fun c0_ => (o_slices_IndexFunc_sf32_f32_areLeast_1_l2 sn t7 b0) (some (Sum.inl c0_))) (fun c0_ c1_ => (o_slices_IndexFunc_sf32_f32_areLeast_1_l2 sn t7 b0) (some (Sum.inr (c0_, c1_))))) (funext fun t8' => ih t8')
theorem l_slices_IndexFunc_sf32_f32_areLeast_1_l2_ok : LoopOne Try.prog fnTab 116 2 l_slices_IndexFunc_sf32_f32_areLeast_1_l2 := lp_of (Γ := Γ4) tyTab_ok (FnL.ok fnTab_ok _ _) (LpL.ok lt4_ok) (SumL.ok tb4_ok _) mixed (fi := fi116) (by kernel_rfl) (by kernel_rfl) (by
  intro lo st out hp
  unfold l_slices_IndexFunc_sf32_f32_areLeast_1_l2 at hp
  split at hp
  · rename_i sn t7 t8 b0
    injection hp with hp
    injection hp with h1 h2
    subst h2
    exact ⟨8, 8, big, Eq.trans (i_slices_IndexFunc_sf32_f32_areLeast_1_l2 sn t7 b0 big t8) (f_slices_IndexFunc_sf32_f32_areLeast_1_l2 sn t7 b0 (L_slices_IndexFunc_sf32_f32_areLeast_1_l2 sn t7 b0 big t8) h1)⟩
  · cases hp)
noncomputable def tb5 : List (Nat × (List PT → Option (Bool × AV × List Blk))) := [(109, s_math_Float32bits), (118, s_math_archFloor), (125, s_math_Float64frombits), (133, s_math_Float64bits), (139, s_math_archTrunc), (26, s_laws_sameFloat), (52, s_impl_IsFinite), (71, s_spec_l00Max), (82, s_spec_l01Finite), (89, s_impl_isLeast), (96, s_spec_l02Least), (24, s_laws_toFloat32S), (117, s_impl_areLeast_1), (27, s_laws_eqFloat32S), (60, s_spec_l04Winds)]
noncomputable def lt5 : List ((Nat × Nat) × (Nat → St → Option (Bool × LO))) := [((24, 3), l_laws_toFloat32S_l3), ((27, 4), l_laws_eqFloat32S_l4), ((60, 2), l_spec_l04Winds_l2), ((116, 2), l_slices_IndexFunc_sf32_f32_areLeast_1_l2)]
noncomputable def Γ5 : Ctx := ⟨tyTab, fnTab, tblSum tb5, tblLp lt5⟩
theorem tb5_ok : SumL Try.prog tb5 := SumL.cons s_math_Float32bits_ok (SumL.cons s_math_archFloor_ok (SumL.cons s_math_Float64frombits_ok (SumL.cons s_math_Float64bits_ok (SumL.cons s_math_archTrunc_ok (SumL.cons s_laws_sameFloat_ok (SumL.cons s_impl_IsFinite_ok (SumL.cons s_spec_l00Max_ok (SumL.cons s_spec_l01Finite_ok (SumL.cons s_impl_isLeast_ok (SumL.cons s_spec_l02Least_ok (SumL.cons s_laws_toFloat32S_ok (SumL.cons s_impl_areLeast_1_ok (SumL.cons s_laws_eqFloat32S_ok (SumL.cons s_spec_l04Winds_ok (SumL.nil)))))))))))))))
theorem lt5_ok : LpL Try.prog fnTab lt5 := LpL.cons l_laws_toFloat32S_l3_ok (LpL.cons l_laws_eqFloat32S_l4_ok (LpL.cons l_spec_l04Winds_l2_ok (LpL.cons l_slices_IndexFunc_sf32_f32_areLeast_1_l2_ok (LpL.nil))))
noncomputable def s_slices_IndexFunc_sf32_f32_areLeast_1 : List PT → Option (Bool × AV × List Blk)
  | [.one (.row 1 s_n (.fl .f32 s)), .fn 117 []] => some ((slices_IndexFunc_sf32_f32_areLeast_1_p s_n s), ((AV.v (TV.one (At.int IntKind.i64 (slices_IndexFunc_sf32_f32_areLeast_1_v0 s_n s)))), []))
  | _ => none
def o_slices_IndexFunc_sf32_f32_areLeast_1 (s_n : Nat) (s : List Nat) : Option (Int) → Option (AV × List Blk)
  | some r => some ((AV.v (TV.one (At.int IntKind.i64 r))), [])
  | none => none
theorem e_slices_IndexFunc_sf32_f32_areLeast_1 (s_n : Nat) (s : List Nat) : evFn Γ5 8 8 116 (impTs 0 [.one (.row 1 s_n (.fl .f32 s)), .fn 117 []]).1 (impTs 0 [.one (.row 1 s_n (.fl .f32 s)), .fn 117 []]).2 (expo (impTs 0 [.one (.row 1 s_n (.fl .f32 s)), .fn 117 []]).2.length) = T_slices_IndexFunc_sf32_f32_areLeast_1 s_n s (fun c0_ => some ((AV.v (TV.one (At.int IntKind.i64 c0_))), [])) := by kernel_rfl
theorem s_slices_IndexFunc_sf32_f32_areLeast_1_ok : SumOne Try.prog 116 s_slices_IndexFunc_sf32_f32_areLeast_1 := sum_of (Γ := Γ5) (fuel := 8) (d := 8) tyTab_ok (FnL.ok fnTab_ok _ _) (LpL.ok lt5_ok) (SumL.ok tb5_ok _) mixed (by
  intro pts v news hp hc
  clear hc
  unfold s_slices_IndexFunc_sf32_f32_areLeast_1 at hp
  split at hp
  · rename_i s_n s
    exact Eq.trans (Eq.trans (e_slices_IndexFunc_sf32_f32_areLeast_1 s_n s) (T_slices_IndexFunc_sf32_f32_areLeast_1_nat (o_slices_IndexFunc_sf32_f32_areLeast_1 s_n s) rfl s_n s (fun c0_ => some c0_))) (fin_out (o := (o_slices_IndexFunc_sf32_f32_areLeast_1 s_n s)) (x := F_slices_IndexFunc_sf32_f32_areLeast_1 s_n s) (d := default) (V := fun r => ((AV.v (TV.one (At.int IntKind.i64 r))), [])) (fun r => rfl) hp)
  · cases hp)
noncomputable def tb6 : List (Nat × (List PT → Option (Bool × AV × List Blk))) := [(109, s_math_Float32bits), (118, s_math_archFloor), (125, s_math_Float64frombits), (133, s_math_Float64bits), (139, s_math_archTrunc), (26, s_laws_sameFloat), (52, s_impl_IsFinite), (71, s_spec_l00Max), (82, s_spec_l01Finite), (89, s_impl_isLeast), (96, s_spec_l02Least), (24, s_laws_toFloat32S), (117, s_impl_areLeast_1), (27, s_laws_eqFloat32S), (60, s_spec_l04Winds), (116, s_slices_IndexFunc_sf32_f32_areLeast_1)]
noncomputable def lt6 : List ((Nat × Nat) × (Nat → St → Option (Bool × LO))) := [((24, 3), l_laws_toFloat32S_l3), ((27, 4), l_laws_eqFloat32S_l4), ((60, 2), l_spec_l04Winds_l2), ((116, 2), l_slices_IndexFunc_sf32_f32_areLeast_1_l2)]
noncomputable def Γ6 : Ctx := ⟨tyTab, fnTab, tblSum tb6, tblLp lt6⟩
theorem tb6_ok : SumL Try.prog tb6 := SumL.cons s_math_Float32bits_ok (SumL.cons s_math_archFloor_ok (SumL.cons s_math_Float64frombits_ok (SumL.cons s_math_Float64bits_ok (SumL.cons s_math_archTrunc_ok (SumL.cons s_laws_sameFloat_ok (SumL.cons s_impl_IsFinite_ok (SumL.cons s_spec_l00Max_ok (SumL.cons s_spec_l01Finite_ok (SumL.cons s_impl_isLeast_ok (SumL.cons s_spec_l02Least_ok (SumL.cons s_laws_toFloat32S_ok (SumL.cons s_impl_areLeast_1_ok (SumL.cons s_laws_eqFloat32S_ok (SumL.cons s_spec_l04Winds_ok (SumL.cons s_slices_IndexFunc_sf32_f32_areLeast_1_ok (SumL.nil))))))))))))))))
theorem lt6_ok : LpL Try.prog fnTab lt6 := LpL.cons l_laws_toFloat32S_l3_ok (LpL.cons l_laws_eqFloat32S_l4_ok (LpL.cons l_spec_l04Winds_l2_ok (LpL.cons l_slices_IndexFunc_sf32_f32_areLeast_1_l2_ok (LpL.nil))))
noncomputable def s_slices_ContainsFunc_sf32_f32_areLeast_1 : List PT → Option (Bool × AV × List Blk)
  | [.one (.row 1 s_n (.fl .f32 s)), .fn 117 []] => some ((slices_ContainsFunc_sf32_f32_areLeast_1_p s_n s), ((AV.v (TV.one (At.bool (slices_ContainsFunc_sf32_f32_areLeast_1_v0 s_n s)))), []))
  | _ => none
def o_slices_ContainsFunc_sf32_f32_areLeast_1 (s_n : Nat) (s : List Nat) : Option (Bool) → Option (AV × List Blk)
  | some r => some ((AV.v (TV.one (At.bool r))), [])
  | none => none
theorem e_slices_ContainsFunc_sf32_f32_areLeast_1 (s_n : Nat) (s : List Nat) : evFn Γ6 8 8 94 (impTs 0 [.one (.row 1 s_n (.fl .f32 s)), .fn 117 []]).1 (impTs 0 [.one (.row 1 s_n (.fl .f32 s)), .fn 117 []]).2 (expo (impTs 0 [.one (.row 1 s_n (.fl .f32 s)), .fn 117 []]).2.length) = T_slices_ContainsFunc_sf32_f32_areLeast_1 s_n s (fun c0_ => some ((AV.v (TV.one (At.bool c0_))), [])) := by kernel_rfl
theorem s_slices_ContainsFunc_sf32_f32_areLeast_1_ok : SumOne Try.prog 94 s_slices_ContainsFunc_sf32_f32_areLeast_1 := sum_of (Γ := Γ6) (fuel := 8) (d := 8) tyTab_ok (FnL.ok fnTab_ok _ _) (LpL.ok lt6_ok) (SumL.ok tb6_ok _) mixed (by
  intro pts v news hp hc
  clear hc
  unfold s_slices_ContainsFunc_sf32_f32_areLeast_1 at hp
  split at hp
  · rename_i s_n s
    exact Eq.trans (Eq.trans (e_slices_ContainsFunc_sf32_f32_areLeast_1 s_n s) (T_slices_ContainsFunc_sf32_f32_areLeast_1_nat (o_slices_ContainsFunc_sf32_f32_areLeast_1 s_n s) rfl s_n s (fun c0_ => some c0_))) (fin_out (o := (o_slices_ContainsFunc_sf32_f32_areLeast_1 s_n s)) (x := F_slices_ContainsFunc_sf32_f32_areLeast_1 s_n s) (d := default) (V := fun r => ((AV.v (TV.one (At.bool r))), [])) (fun r => rfl) hp)
  · cases hp)
noncomputable def l_spec_CalmsOf_l7 : Nat → St → Option (Bool × LO)
  | 1, (St.mk [(0, (AV.v (TV.one (At.vw 0 0 listn 1)))), (1, (AV.v (TV.one (At.flt FloatKind.f32 level)))), (7, (AV.v (TV.one (At.int IntKind.i64 n_)))), (8, (AV.v (TV.one (At.int IntKind.i64 long)))), (9, (AV.v (TV.one (At.int IntKind.i64 most)))), (10, (AV.v (TV.one (At.int IntKind.i64 i))))] [(Blk.mk Bool.false (Body.fl FloatKind.f32 b0))]) => some ((spec_CalmsOf_l7_p listn level b0 n_ long most i), (LO.one (Ex.exit 0) (St.mk [(0, (AV.v (TV.one (At.vw 0 0 listn 1)))), (1, (AV.v (TV.one (At.flt FloatKind.f32 level)))), (7, (AV.v (TV.one (At.int IntKind.i64 (spec_CalmsOf_l7_a0_0 listn level b0 n_ long most i))))), (8, (AV.v (TV.one (At.int IntKind.i64 (spec_CalmsOf_l7_a0_1 listn level b0 n_ long most i))))), (9, (AV.v (TV.one (At.int IntKind.i64 (spec_CalmsOf_l7_a0_2 listn level b0 n_ long most i))))), (10, (AV.v (TV.one (At.int IntKind.i64 (spec_CalmsOf_l7_a0_3 listn level b0 n_ long most i))))), (17, (AV.v (TV.one (At.bool (spec_CalmsOf_l7_a0_4 listn level b0 n_ long most i)))))] [(Blk.mk Bool.false (Body.fl FloatKind.f32 b0))])))
  | _, _ => none
def o_spec_CalmsOf_l7 (listn : Nat) (level : Nat) (b0 : List Nat) : Option ((Int × Int × Int × Int × Bool)) → Option (Ex × St)
  | none => none
  | some r => some ((Ex.exit 0), (St.mk [(0, (AV.v (TV.one (At.vw 0 0 listn 1)))), (1, (AV.v (TV.one (At.flt FloatKind.f32 level)))), (7, (AV.v (TV.one (At.int IntKind.i64 r.1)))), (8, (AV.v (TV.one (At.int IntKind.i64 r.2.1)))), (9, (AV.v (TV.one (At.int IntKind.i64 r.2.2.1)))), (10, (AV.v (TV.one (At.int IntKind.i64 r.2.2.2.1)))), (17, (AV.v (TV.one (At.bool r.2.2.2.2))))] [(Blk.mk Bool.false (Body.fl FloatKind.f32 b0))]))
def lo_spec_CalmsOf_l7 (listn : Nat) (level : Nat) (b0 : List Nat) (x : Option ((Int × Int × Int × Int × Bool))) : LO := (LO.one (Ex.exit 0) (St.mk [(0, (AV.v (TV.one (At.vw 0 0 listn 1)))), (1, (AV.v (TV.one (At.flt FloatKind.f32 level)))), (7, (AV.v (TV.one (At.int IntKind.i64 (x.getD default).1)))), (8, (AV.v (TV.one (At.int IntKind.i64 (x.getD default).2.1)))), (9, (AV.v (TV.one (At.int IntKind.i64 (x.getD default).2.2.1)))), (10, (AV.v (TV.one (At.int IntKind.i64 (x.getD default).2.2.2.1)))), (17, (AV.v (TV.one (At.bool (x.getD default).2.2.2.2))))] [(Blk.mk Bool.false (Body.fl FloatKind.f32 b0))]))
theorem f_spec_CalmsOf_l7 (listn : Nat) (level : Nat) (b0 : List Nat) : ∀ x : Option ((Int × Int × Int × Int × Bool)), x.isSome = true → (o_spec_CalmsOf_l7 listn level b0) x = some (pick (lo_spec_CalmsOf_l7 listn level b0 x))
  | none, h => by cases h
  | some r, _ => rfl
theorem r_spec_CalmsOf_l7 (listn : Nat) (level : Nat) (n_ : Int) (long : Int) (most : Int) (i : Int) (b0 : List Nat) (K : Ex → St → Option (Ex × St)) : evC (R := Ex × St) Γ6 (evFn Γ6 8 8) 30 1 fi30.nt fi30.live fi30.nl 8 (findL 7 (loopsIn fi30.code)) (St.mk [(0, (AV.v (TV.one (At.vw 0 0 listn 1)))), (1, (AV.v (TV.one (At.flt FloatKind.f32 level)))), (7, (AV.v (TV.one (At.int IntKind.i64 n_)))), (8, (AV.v (TV.one (At.int IntKind.i64 long)))), (9, (AV.v (TV.one (At.int IntKind.i64 most)))), (10, (AV.v (TV.one (At.int IntKind.i64 i))))] [(Blk.mk Bool.false (Body.fl FloatKind.f32 b0))]) K = T_spec_CalmsOf_l7 listn level b0 n_ long most i (fun n_' long' most' i' => K .normal (St.mk [(0, (AV.v (TV.one (At.vw 0 0 listn 1)))), (1, (AV.v (TV.one (At.flt FloatKind.f32 level)))), (7, (AV.v (TV.one (At.int IntKind.i64 n_')))), (8, (AV.v (TV.one (At.int IntKind.i64 long')))), (9, (AV.v (TV.one (At.int IntKind.i64 most')))), (10, (AV.v (TV.one (At.int IntKind.i64 i'))))] [(Blk.mk Bool.false (Body.fl FloatKind.f32 b0))])) (fun c0_ c1_ c2_ c3_ c4_ => K (Ex.exit 0) (St.mk [(0, (AV.v (TV.one (At.vw 0 0 listn 1)))), (1, (AV.v (TV.one (At.flt FloatKind.f32 level)))), (7, (AV.v (TV.one (At.int IntKind.i64 c0_)))), (8, (AV.v (TV.one (At.int IntKind.i64 c1_)))), (9, (AV.v (TV.one (At.int IntKind.i64 c2_)))), (10, (AV.v (TV.one (At.int IntKind.i64 c3_)))), (17, (AV.v (TV.one (At.bool c4_))))] [(Blk.mk Bool.false (Body.fl FloatKind.f32 b0))])) := by kernel_rfl
theorem i_spec_CalmsOf_l7 (listn : Nat) (level : Nat) (b0 : List Nat) : ∀ (n : Nat) (n_ : Int) (long : Int) (most : Int) (i : Int), iter 30 7 1 (evC (R := Ex × St) Γ6 (evFn Γ6 8 8) 30 1 fi30.nt fi30.live fi30.nl 8 (findL 7 (loopsIn fi30.code))) n (St.mk [(0, (AV.v (TV.one (At.vw 0 0 listn 1)))), (1, (AV.v (TV.one (At.flt FloatKind.f32 level)))), (7, (AV.v (TV.one (At.int IntKind.i64 n_)))), (8, (AV.v (TV.one (At.int IntKind.i64 long)))), (9, (AV.v (TV.one (At.int IntKind.i64 most)))), (10, (AV.v (TV.one (At.int IntKind.i64 i))))] [(Blk.mk Bool.false (Body.fl FloatKind.f32 b0))]) (fun e st => some (e, st)) = (o_spec_CalmsOf_l7 listn level b0) (L_spec_CalmsOf_l7 listn level b0 n n_ long most i) := by
  intro n
  induction n with
  | zero => intros; rfl
  | succ n ih =>
    intro n_ long most i
    refine Eq.trans (iter_succ ..) (Eq.trans (r_spec_CalmsOf_l7 listn level n_ long most i b0 (nextK 30 7 1 (evC (R := Ex × St) Γ6 (evFn Γ6 8 8) 30 1 fi30.nt fi30.live fi30.nl 8 (findL 7 (loopsIn fi30.code))) n (fun e st => some (e, st)))) (Eq.trans ?_ (T_spec_CalmsOf_l7_nat (o_spec_CalmsOf_l7 listn level b0) rfl listn level b0 n_ long most i (fun n_' long' most' i' => L_spec_CalmsOf_l7 listn level b0 n n_' long' most' i') (fun c0_ c1_ c2_ c3_ c4_ => some (c0_, c1_, c2_, c3_, c4_)))))
    exact congrArg (fun kn_ => T_spec_CalmsOf_l7 listn level b0 n_ long most i kn_ (fun c0_ c1_ c2_ c3_ c4_ => (o_spec_CalmsOf_l7 listn level b0) (some (c0_, c1_, c2_, c3_, c4_)))) (funext fun n_' => funext fun long' => funext fun most' => funext fun i' => ih n_' long' most' i')
theorem l_spec_CalmsOf_l7_ok : LoopOne Try.prog fnTab 30 7 l_spec_CalmsOf_l7 := lp_of (Γ := Γ6) tyTab_ok (FnL.ok fnTab_ok _ _) (LpL.ok lt6_ok) (SumL.ok tb6_ok _) mixed (fi := fi30) (by kernel_rfl) (by kernel_rfl) (by
  intro lo st out hp
  unfold l_spec_CalmsOf_l7 at hp
  split at hp
  · rename_i listn level n_ long most i b0
    injection hp with hp
    injection hp with h1 h2
    subst h2
    exact ⟨8, 8, big, Eq.trans (i_spec_CalmsOf_l7 listn level b0 big n_ long most i) (f_spec_CalmsOf_l7 listn level b0 (L_spec_CalmsOf_l7 listn level b0 big n_ long most i) h1)⟩
  · cases hp)
noncomputable def tb7 : List (Nat × (List PT → Option (Bool × AV × List Blk))) := [(109, s_math_Float32bits), (118, s_math_archFloor), (125, s_math_Float64frombits), (133, s_math_Float64bits), (139, s_math_archTrunc), (26, s_laws_sameFloat), (52, s_impl_IsFinite), (71, s_spec_l00Max), (82, s_spec_l01Finite), (89, s_impl_isLeast), (96, s_spec_l02Least), (24, s_laws_toFloat32S), (117, s_impl_areLeast_1), (27, s_laws_eqFloat32S), (60, s_spec_l04Winds), (116, s_slices_IndexFunc_sf32_f32_areLeast_1), (94, s_slices_ContainsFunc_sf32_f32_areLeast_1)]
noncomputable def lt7 : List ((Nat × Nat) × (Nat → St → Option (Bool × LO))) := [((24, 3), l_laws_toFloat32S_l3), ((27, 4), l_laws_eqFloat32S_l4), ((60, 2), l_spec_l04Winds_l2), ((116, 2), l_slices_IndexFunc_sf32_f32_areLeast_1_l2), ((30, 7), l_spec_CalmsOf_l7)]
noncomputable def Γ7 : Ctx := ⟨tyTab, fnTab, tblSum tb7, tblLp lt7⟩
theorem tb7_ok : SumL Try.prog tb7 := SumL.cons s_math_Float32bits_ok (SumL.cons s_math_archFloor_ok (SumL.cons s_math_Float64frombits_ok (SumL.cons s_math_Float64bits_ok (SumL.cons s_math_archTrunc_ok (SumL.cons s_laws_sameFloat_ok (SumL.cons s_impl_IsFinite_ok (SumL.cons s_spec_l00Max_ok (SumL.cons s_spec_l01Finite_ok (SumL.cons s_impl_isLeast_ok (SumL.cons s_spec_l02Least_ok (SumL.cons s_laws_toFloat32S_ok (SumL.cons s_impl_areLeast_1_ok (SumL.cons s_laws_eqFloat32S_ok (SumL.cons s_spec_l04Winds_ok (SumL.cons s_slices_IndexFunc_sf32_f32_areLeast_1_ok (SumL.cons s_slices_ContainsFunc_sf32_f32_areLeast_1_ok (SumL.nil)))))))))))))))))
theorem lt7_ok : LpL Try.prog fnTab lt7 := LpL.cons l_laws_toFloat32S_l3_ok (LpL.cons l_laws_eqFloat32S_l4_ok (LpL.cons l_spec_l04Winds_l2_ok (LpL.cons l_slices_IndexFunc_sf32_f32_areLeast_1_l2_ok (LpL.cons l_spec_CalmsOf_l7_ok (LpL.nil)))))
noncomputable def s_spec_CalmsOf : List PT → Option (Bool × AV × List Blk)
  | [.one (.row 1 list_n (.fl .f32 list)), .one (.s (.flt .f32 level))] => some ((spec_CalmsOf_p list_n list level), ((AV.tup [(TV.one (At.int IntKind.i64 (spec_CalmsOf_v0 list_n list level))), (TV.one (At.int IntKind.i64 (spec_CalmsOf_v1 list_n list level))), (TV.one (At.bool (spec_CalmsOf_v2 list_n list level)))]), []))
  | _ => none
def o_spec_CalmsOf (list_n : Nat) (list : List Nat) (level : Nat) : Option (Int × Int × Bool) → Option (AV × List Blk)
  | some r => some ((AV.tup [(TV.one (At.int IntKind.i64 r.1)), (TV.one (At.int IntKind.i64 r.2.1)), (TV.one (At.bool r.2.2))]), [])
  | none => none
theorem e_spec_CalmsOf (list_n : Nat) (list : List Nat) (level : Nat) : evFn Γ7 8 8 30 (impTs 0 [.one (.row 1 list_n (.fl .f32 list)), .one (.s (.flt .f32 level))]).1 (impTs 0 [.one (.row 1 list_n (.fl .f32 list)), .one (.s (.flt .f32 level))]).2 (expo (impTs 0 [.one (.row 1 list_n (.fl .f32 list)), .one (.s (.flt .f32 level))]).2.length) = T_spec_CalmsOf list_n list level (fun c0_ c1_ c2_ => some ((AV.tup [(TV.one (At.int IntKind.i64 c0_)), (TV.one (At.int IntKind.i64 c1_)), (TV.one (At.bool c2_))]), [])) := by kernel_rfl
theorem s_spec_CalmsOf_ok : SumOne Try.prog 30 s_spec_CalmsOf := sum_of (Γ := Γ7) (fuel := 8) (d := 8) tyTab_ok (FnL.ok fnTab_ok _ _) (LpL.ok lt7_ok) (SumL.ok tb7_ok _) mixed (by
  intro pts v news hp hc
  clear hc
  unfold s_spec_CalmsOf at hp
  split at hp
  · rename_i list_n list level
    exact Eq.trans (Eq.trans (e_spec_CalmsOf list_n list level) (T_spec_CalmsOf_nat (o_spec_CalmsOf list_n list level) rfl list_n list level (fun c0_ c1_ c2_ => some (c0_, c1_, c2_)))) (fin_out (o := (o_spec_CalmsOf list_n list level)) (x := F_spec_CalmsOf list_n list level) (d := default) (V := fun r => ((AV.tup [(TV.one (At.int IntKind.i64 r.1)), (TV.one (At.int IntKind.i64 r.2.1)), (TV.one (At.bool r.2.2))]), [])) (fun r => rfl) hp)
  · cases hp)
noncomputable def s_impl_areLeast : List PT → Option (Bool × AV × List Blk)
  | [.one (.row 1 list_n (.fl .f32 list))] => some ((impl_areLeast_p list_n list), ((AV.v (TV.one (At.bool (impl_areLeast_v0 list_n list)))), []))
  | _ => none
def o_impl_areLeast (list_n : Nat) (list : List Nat) : Option (Bool) → Option (AV × List Blk)
  | some r => some ((AV.v (TV.one (At.bool r))), [])
  | none => none
theorem e_impl_areLeast (list_n : Nat) (list : List Nat) : evFn Γ7 8 8 97 (impTs 0 [.one (.row 1 list_n (.fl .f32 list))]).1 (impTs 0 [.one (.row 1 list_n (.fl .f32 list))]).2 (expo (impTs 0 [.one (.row 1 list_n (.fl .f32 list))]).2.length) = T_impl_areLeast list_n list (fun c0_ => some ((AV.v (TV.one (At.bool c0_))), [])) := by kernel_rfl
theorem s_impl_areLeast_ok : SumOne Try.prog 97 s_impl_areLeast := sum_of (Γ := Γ7) (fuel := 8) (d := 8) tyTab_ok (FnL.ok fnTab_ok _ _) (LpL.ok lt7_ok) (SumL.ok tb7_ok _) mixed (by
  intro pts v news hp hc
  clear hc
  unfold s_impl_areLeast at hp
  split at hp
  · rename_i list_n list
    exact Eq.trans (Eq.trans (e_impl_areLeast list_n list) (T_impl_areLeast_nat (o_impl_areLeast list_n list) rfl list_n list (fun c0_ => some c0_))) (fin_out (o := (o_impl_areLeast list_n list)) (x := F_impl_areLeast list_n list) (d := default) (V := fun r => ((AV.v (TV.one (At.bool r))), [])) (fun r => rfl) hp)
  · cases hp)
noncomputable def tb8 : List (Nat × (List PT → Option (Bool × AV × List Blk))) := [(109, s_math_Float32bits), (118, s_math_archFloor), (125, s_math_Float64frombits), (133, s_math_Float64bits), (139, s_math_archTrunc), (26, s_laws_sameFloat), (52, s_impl_IsFinite), (71, s_spec_l00Max), (82, s_spec_l01Finite), (89, s_impl_isLeast), (96, s_spec_l02Least), (24, s_laws_toFloat32S), (117, s_impl_areLeast_1), (27, s_laws_eqFloat32S), (60, s_spec_l04Winds), (116, s_slices_IndexFunc_sf32_f32_areLeast_1), (94, s_slices_ContainsFunc_sf32_f32_areLeast_1), (30, s_spec_CalmsOf), (97, s_impl_areLeast)]
noncomputable def lt8 : List ((Nat × Nat) × (Nat → St → Option (Bool × LO))) := [((24, 3), l_laws_toFloat32S_l3), ((27, 4), l_laws_eqFloat32S_l4), ((60, 2), l_spec_l04Winds_l2), ((116, 2), l_slices_IndexFunc_sf32_f32_areLeast_1_l2), ((30, 7), l_spec_CalmsOf_l7)]
noncomputable def Γ8 : Ctx := ⟨tyTab, fnTab, tblSum tb8, tblLp lt8⟩
theorem tb8_ok : SumL Try.prog tb8 := SumL.cons s_math_Float32bits_ok (SumL.cons s_math_archFloor_ok (SumL.cons s_math_Float64frombits_ok (SumL.cons s_math_Float64bits_ok (SumL.cons s_math_archTrunc_ok (SumL.cons s_laws_sameFloat_ok (SumL.cons s_impl_IsFinite_ok (SumL.cons s_spec_l00Max_ok (SumL.cons s_spec_l01Finite_ok (SumL.cons s_impl_isLeast_ok (SumL.cons s_spec_l02Least_ok (SumL.cons s_laws_toFloat32S_ok (SumL.cons s_impl_areLeast_1_ok (SumL.cons s_laws_eqFloat32S_ok (SumL.cons s_spec_l04Winds_ok (SumL.cons s_slices_IndexFunc_sf32_f32_areLeast_1_ok (SumL.cons s_slices_ContainsFunc_sf32_f32_areLeast_1_ok (SumL.cons s_spec_CalmsOf_ok (SumL.cons s_impl_areLeast_ok (SumL.nil)))))))))))))))))))
theorem lt8_ok : LpL Try.prog fnTab lt8 := LpL.cons l_laws_toFloat32S_l3_ok (LpL.cons l_laws_eqFloat32S_l4_ok (LpL.cons l_spec_l04Winds_l2_ok (LpL.cons l_slices_IndexFunc_sf32_f32_areLeast_1_l2_ok (LpL.cons l_spec_CalmsOf_l7_ok (LpL.nil)))))
noncomputable def s_impl_areWinds : List PT → Option (Bool × AV × List Blk)
  | [.one (.row 1 list_n (.fl .f32 list))] => some ((impl_areWinds_p list_n list), ((AV.v (TV.one (At.bool (impl_areWinds_v0 list_n list)))), []))
  | _ => none
def o_impl_areWinds (list_n : Nat) (list : List Nat) : Option (Bool) → Option (AV × List Blk)
  | some r => some ((AV.v (TV.one (At.bool r))), [])
  | none => none
theorem e_impl_areWinds (list_n : Nat) (list : List Nat) : evFn Γ8 8 8 63 (impTs 0 [.one (.row 1 list_n (.fl .f32 list))]).1 (impTs 0 [.one (.row 1 list_n (.fl .f32 list))]).2 (expo (impTs 0 [.one (.row 1 list_n (.fl .f32 list))]).2.length) = T_impl_areWinds list_n list (fun c0_ => some ((AV.v (TV.one (At.bool c0_))), [])) := by kernel_rfl
theorem s_impl_areWinds_ok : SumOne Try.prog 63 s_impl_areWinds := sum_of (Γ := Γ8) (fuel := 8) (d := 8) tyTab_ok (FnL.ok fnTab_ok _ _) (LpL.ok lt8_ok) (SumL.ok tb8_ok _) mixed (by
  intro pts v news hp hc
  clear hc
  unfold s_impl_areWinds at hp
  split at hp
  · rename_i list_n list
    exact Eq.trans (Eq.trans (e_impl_areWinds list_n list) (T_impl_areWinds_nat (o_impl_areWinds list_n list) rfl list_n list (fun c0_ => some c0_))) (fin_out (o := (o_impl_areWinds list_n list)) (x := F_impl_areWinds list_n list) (d := default) (V := fun r => ((AV.v (TV.one (At.bool r))), [])) (fun r => rfl) hp)
  · cases hp)
noncomputable def tb9 : List (Nat × (List PT → Option (Bool × AV × List Blk))) := [(109, s_math_Float32bits), (118, s_math_archFloor), (125, s_math_Float64frombits), (133, s_math_Float64bits), (139, s_math_archTrunc), (26, s_laws_sameFloat), (52, s_impl_IsFinite), (71, s_spec_l00Max), (82, s_spec_l01Finite), (89, s_impl_isLeast), (96, s_spec_l02Least), (24, s_laws_toFloat32S), (117, s_impl_areLeast_1), (27, s_laws_eqFloat32S), (60, s_spec_l04Winds), (116, s_slices_IndexFunc_sf32_f32_areLeast_1), (94, s_slices_ContainsFunc_sf32_f32_areLeast_1), (30, s_spec_CalmsOf), (97, s_impl_areLeast), (63, s_impl_areWinds)]
noncomputable def lt9 : List ((Nat × Nat) × (Nat → St → Option (Bool × LO))) := [((24, 3), l_laws_toFloat32S_l3), ((27, 4), l_laws_eqFloat32S_l4), ((60, 2), l_spec_l04Winds_l2), ((116, 2), l_slices_IndexFunc_sf32_f32_areLeast_1_l2), ((30, 7), l_spec_CalmsOf_l7)]
noncomputable def Γ9 : Ctx := ⟨tyTab, fnTab, tblSum tb9, tblLp lt9⟩
theorem tb9_ok : SumL Try.prog tb9 := SumL.cons s_math_Float32bits_ok (SumL.cons s_math_archFloor_ok (SumL.cons s_math_Float64frombits_ok (SumL.cons s_math_Float64bits_ok (SumL.cons s_math_archTrunc_ok (SumL.cons s_laws_sameFloat_ok (SumL.cons s_impl_IsFinite_ok (SumL.cons s_spec_l00Max_ok (SumL.cons s_spec_l01Finite_ok (SumL.cons s_impl_isLeast_ok (SumL.cons s_spec_l02Least_ok (SumL.cons s_laws_toFloat32S_ok (SumL.cons s_impl_areLeast_1_ok (SumL.cons s_laws_eqFloat32S_ok (SumL.cons s_spec_l04Winds_ok (SumL.cons s_slices_IndexFunc_sf32_f32_areLeast_1_ok (SumL.cons s_slices_ContainsFunc_sf32_f32_areLeast_1_ok (SumL.cons s_spec_CalmsOf_ok (SumL.cons s_impl_areLeast_ok (SumL.cons s_impl_areWinds_ok (SumL.nil))))))))))))))))))))
theorem lt9_ok : LpL Try.prog fnTab lt9 := LpL.cons l_laws_toFloat32S_l3_ok (LpL.cons l_laws_eqFloat32S_l4_ok (LpL.cons l_spec_l04Winds_l2_ok (LpL.cons l_slices_IndexFunc_sf32_f32_areLeast_1_l2_ok (LpL.cons l_spec_CalmsOf_l7_ok (LpL.nil)))))
noncomputable def tb10 : List (Nat × (List PT → Option (Bool × AV × List Blk))) := [(109, s_math_Float32bits), (118, s_math_archFloor), (125, s_math_Float64frombits), (133, s_math_Float64bits), (139, s_math_archTrunc), (26, s_laws_sameFloat), (52, s_impl_IsFinite), (71, s_spec_l00Max), (82, s_spec_l01Finite), (89, s_impl_isLeast), (96, s_spec_l02Least), (24, s_laws_toFloat32S), (117, s_impl_areLeast_1), (27, s_laws_eqFloat32S), (60, s_spec_l04Winds), (116, s_slices_IndexFunc_sf32_f32_areLeast_1), (94, s_slices_ContainsFunc_sf32_f32_areLeast_1), (30, s_spec_CalmsOf), (97, s_impl_areLeast), (63, s_impl_areWinds)]
noncomputable def lt10 : List ((Nat × Nat) × (Nat → St → Option (Bool × LO))) := [((24, 3), l_laws_toFloat32S_l3), ((27, 4), l_laws_eqFloat32S_l4), ((60, 2), l_spec_l04Winds_l2), ((116, 2), l_slices_IndexFunc_sf32_f32_areLeast_1_l2), ((30, 7), l_spec_CalmsOf_l7)]
noncomputable def Γ10 : Ctx := ⟨tyTab, fnTab, tblSum tb10, tblLp lt10⟩
theorem tb10_ok : SumL Try.prog tb10 := SumL.cons s_math_Float32bits_ok (SumL.cons s_math_archFloor_ok (SumL.cons s_math_Float64frombits_ok (SumL.cons s_math_Float64bits_ok (SumL.cons s_math_archTrunc_ok (SumL.cons s_laws_sameFloat_ok (SumL.cons s_impl_IsFinite_ok (SumL.cons s_spec_l00Max_ok (SumL.cons s_spec_l01Finite_ok (SumL.cons s_impl_isLeast_ok (SumL.cons s_spec_l02Least_ok (SumL.cons s_laws_toFloat32S_ok (SumL.cons s_impl_areLeast_1_ok (SumL.cons s_laws_eqFloat32S_ok (SumL.cons s_spec_l04Winds_ok (SumL.cons s_slices_IndexFunc_sf32_f32_areLeast_1_ok (SumL.cons s_slices_ContainsFunc_sf32_f32_areLeast_1_ok (SumL.cons s_spec_CalmsOf_ok (SumL.cons s_impl_areLeast_ok (SumL.cons s_impl_areWinds_ok (SumL.nil))))))))))))))))))))
theorem lt10_ok : LpL Try.prog fnTab lt10 := LpL.cons l_laws_toFloat32S_l3_ok (LpL.cons l_laws_eqFloat32S_l4_ok (LpL.cons l_spec_l04Winds_l2_ok (LpL.cons l_slices_IndexFunc_sf32_f32_areLeast_1_l2_ok (LpL.cons l_spec_CalmsOf_l7_ok (LpL.nil)))))
noncomputable def l_impl_CalmsOf_l5 : Nat → St → Option (Bool × LO)
  | 1, (St.mk [(1, (AV.v (TV.one (At.flt FloatKind.f32 level)))), (7, (AV.v (TV.one (At.int IntKind.i64 times)))), (8, (AV.v (TV.one (At.int IntKind.i64 longest)))), (9, (AV.v (TV.one (At.int IntKind.i64 own)))), (15, (AV.v (TV.one (At.vw 0 0 t15n 1)))), (16, (AV.v (TV.one (At.int IntKind.i64 t16)))), (17, (AV.v (TV.one (At.int IntKind.i64 t17))))] [(Blk.mk Bool.false (Body.fl FloatKind.f32 b0))]) => some ((impl_CalmsOf_l5_p level t15n t16 b0 times longest own t17), (LO.one (Ex.exit 0) (St.mk [(1, (AV.v (TV.one (At.flt FloatKind.f32 level)))), (7, (AV.v (TV.one (At.int IntKind.i64 (impl_CalmsOf_l5_a0_0 level t15n t16 b0 times longest own t17))))), (8, (AV.v (TV.one (At.int IntKind.i64 (impl_CalmsOf_l5_a0_1 level t15n t16 b0 times longest own t17))))), (9, (AV.v (TV.one (At.int IntKind.i64 (impl_CalmsOf_l5_a0_2 level t15n t16 b0 times longest own t17))))), (15, (AV.v (TV.one (At.vw 0 0 t15n 1)))), (16, (AV.v (TV.one (At.int IntKind.i64 t16)))), (17, (AV.v (TV.one (At.int IntKind.i64 (impl_CalmsOf_l5_a0_3 level t15n t16 b0 times longest own t17))))), (18, (AV.v (TV.one (At.bool (impl_CalmsOf_l5_a0_4 level t15n t16 b0 times longest own t17)))))] [(Blk.mk Bool.false (Body.fl FloatKind.f32 b0))])))
  | _, _ => none
def o_impl_CalmsOf_l5 (level : Nat) (t15n : Nat) (t16 : Int) (b0 : List Nat) : Option ((Int × Int × Int × Int × Bool)) → Option (Ex × St)
  | none => none
  | some r => some ((Ex.exit 0), (St.mk [(1, (AV.v (TV.one (At.flt FloatKind.f32 level)))), (7, (AV.v (TV.one (At.int IntKind.i64 r.1)))), (8, (AV.v (TV.one (At.int IntKind.i64 r.2.1)))), (9, (AV.v (TV.one (At.int IntKind.i64 r.2.2.1)))), (15, (AV.v (TV.one (At.vw 0 0 t15n 1)))), (16, (AV.v (TV.one (At.int IntKind.i64 t16)))), (17, (AV.v (TV.one (At.int IntKind.i64 r.2.2.2.1)))), (18, (AV.v (TV.one (At.bool r.2.2.2.2))))] [(Blk.mk Bool.false (Body.fl FloatKind.f32 b0))]))
def lo_impl_CalmsOf_l5 (level : Nat) (t15n : Nat) (t16 : Int) (b0 : List Nat) (x : Option ((Int × Int × Int × Int × Bool))) : LO := (LO.one (Ex.exit 0) (St.mk [(1, (AV.v (TV.one (At.flt FloatKind.f32 level)))), (7, (AV.v (TV.one (At.int IntKind.i64 (x.getD default).1)))), (8, (AV.v (TV.one (At.int IntKind.i64 (x.getD default).2.1)))), (9, (AV.v (TV.one (At.int IntKind.i64 (x.getD default).2.2.1)))), (15, (AV.v (TV.one (At.vw 0 0 t15n 1)))), (16, (AV.v (TV.one (At.int IntKind.i64 t16)))), (17, (AV.v (TV.one (At.int IntKind.i64 (x.getD default).2.2.2.1)))), (18, (AV.v (TV.one (At.bool (x.getD default).2.2.2.2))))] [(Blk.mk Bool.false (Body.fl FloatKind.f32 b0))]))
theorem f_impl_CalmsOf_l5 (level : Nat) (t15n : Nat) (t16 : Int) (b0 : List Nat) : ∀ x : Option ((Int × Int × Int × Int × Bool)), x.isSome = true → (o_impl_CalmsOf_l5 level t15n t16 b0) x = some (pick (lo_impl_CalmsOf_l5 level t15n t16 b0 x))
  | none, h => by cases h
  | some r, _ => rfl
theorem r_impl_CalmsOf_l5 (level : Nat) (times : Int) (longest : Int) (own : Int) (t15n : Nat) (t16 : Int) (t17 : Int) (b0 : List Nat) (K : Ex → St → Option (Ex × St)) : evC (R := Ex × St) Γ10 (evFn Γ10 8 8) 31 1 fi31.nt fi31.live fi31.nl 8 (findL 5 (loopsIn fi31.code)) (St.mk [(1, (AV.v (TV.one (At.flt FloatKind.f32 level)))), (7, (AV.v (TV.one (At.int IntKind.i64 times)))), (8, (AV.v (TV.one (At.int IntKind.i64 longest)))), (9, (AV.v (TV.one (At.int IntKind.i64 own)))), (15, (AV.v (TV.one (At.vw 0 0 t15n 1)))), (16, (AV.v (TV.one (At.int IntKind.i64 t16)))), (17, (AV.v (TV.one (At.int IntKind.i64 t17))))] [(Blk.mk Bool.false (Body.fl FloatKind.f32 b0))]) K = T_impl_CalmsOf_l5 level t15n t16 b0 times longest own t17 (fun times' longest' own' t17' => K .normal (St.mk [(1, (AV.v (TV.one (At.flt FloatKind.f32 level)))), (7, (AV.v (TV.one (At.int IntKind.i64 times')))), (8, (AV.v (TV.one (At.int IntKind.i64 longest')))), (9, (AV.v (TV.one (At.int IntKind.i64 own')))), (15, (AV.v (TV.one (At.vw 0 0 t15n 1)))), (16, (AV.v (TV.one (At.int IntKind.i64 t16)))), (17, (AV.v (TV.one (At.int IntKind.i64 t17'))))] [(Blk.mk Bool.false (Body.fl FloatKind.f32 b0))])) (fun c0_ c1_ c2_ c3_ c4_ => K (Ex.exit 0) (St.mk [(1, (AV.v (TV.one (At.flt FloatKind.f32 level)))), (7, (AV.v (TV.one (At.int IntKind.i64 c0_)))), (8, (AV.v (TV.one (At.int IntKind.i64 c1_)))), (9, (AV.v (TV.one (At.int IntKind.i64 c2_)))), (15, (AV.v (TV.one (At.vw 0 0 t15n 1)))), (16, (AV.v (TV.one (At.int IntKind.i64 t16)))), (17, (AV.v (TV.one (At.int IntKind.i64 c3_)))), (18, (AV.v (TV.one (At.bool c4_))))] [(Blk.mk Bool.false (Body.fl FloatKind.f32 b0))])) := by kernel_rfl
theorem i_impl_CalmsOf_l5 (level : Nat) (t15n : Nat) (t16 : Int) (b0 : List Nat) : ∀ (n : Nat) (times : Int) (longest : Int) (own : Int) (t17 : Int), iter 31 5 1 (evC (R := Ex × St) Γ10 (evFn Γ10 8 8) 31 1 fi31.nt fi31.live fi31.nl 8 (findL 5 (loopsIn fi31.code))) n (St.mk [(1, (AV.v (TV.one (At.flt FloatKind.f32 level)))), (7, (AV.v (TV.one (At.int IntKind.i64 times)))), (8, (AV.v (TV.one (At.int IntKind.i64 longest)))), (9, (AV.v (TV.one (At.int IntKind.i64 own)))), (15, (AV.v (TV.one (At.vw 0 0 t15n 1)))), (16, (AV.v (TV.one (At.int IntKind.i64 t16)))), (17, (AV.v (TV.one (At.int IntKind.i64 t17))))] [(Blk.mk Bool.false (Body.fl FloatKind.f32 b0))]) (fun e st => some (e, st)) = (o_impl_CalmsOf_l5 level t15n t16 b0) (L_impl_CalmsOf_l5 level t15n t16 b0 n times longest own t17) := by
  intro n
  induction n with
  | zero => intros; rfl
  | succ n ih =>
    intro times longest own t17
    refine Eq.trans (iter_succ ..) (Eq.trans (r_impl_CalmsOf_l5 level times longest own t15n t16 t17 b0 (nextK 31 5 1 (evC (R := Ex × St) Γ10 (evFn Γ10 8 8) 31 1 fi31.nt fi31.live fi31.nl 8 (findL 5 (loopsIn fi31.code))) n (fun e st => some (e, st)))) (Eq.trans ?_ (T_impl_CalmsOf_l5_nat (o_impl_CalmsOf_l5 level t15n t16 b0) rfl level t15n t16 b0 times longest own t17 (fun times' longest' own' t17' => L_impl_CalmsOf_l5 level t15n t16 b0 n times' longest' own' t17') (fun c0_ c1_ c2_ c3_ c4_ => some (c0_, c1_, c2_, c3_, c4_)))))
    exact congrArg (fun kn_ => T_impl_CalmsOf_l5 level t15n t16 b0 times longest own t17 kn_ (fun c0_ c1_ c2_ c3_ c4_ => (o_impl_CalmsOf_l5 level t15n t16 b0) (some (c0_, c1_, c2_, c3_, c4_)))) (funext fun times' => funext fun longest' => funext fun own' => funext fun t17' => ih times' longest' own' t17')
theorem l_impl_CalmsOf_l5_ok : LoopOne Try.prog fnTab 31 5 l_impl_CalmsOf_l5 := lp_of (Γ := Γ10) tyTab_ok (FnL.ok fnTab_ok _ _) (LpL.ok lt10_ok) (SumL.ok tb10_ok _) mixed (fi := fi31) (by kernel_rfl) (by kernel_rfl) (by
  intro lo st out hp
  unfold l_impl_CalmsOf_l5 at hp
  split at hp
  · rename_i level times longest own t15n t16 t17 b0
    injection hp with hp
    injection hp with h1 h2
    subst h2
    exact ⟨8, 8, big, Eq.trans (i_impl_CalmsOf_l5 level t15n t16 b0 big times longest own t17) (f_impl_CalmsOf_l5 level t15n t16 b0 (L_impl_CalmsOf_l5 level t15n t16 b0 big times longest own t17) h1)⟩
  · cases hp)
noncomputable def tb11 : List (Nat × (List PT → Option (Bool × AV × List Blk))) := [(109, s_math_Float32bits), (118, s_math_archFloor), (125, s_math_Float64frombits), (133, s_math_Float64bits), (139, s_math_archTrunc), (26, s_laws_sameFloat), (52, s_impl_IsFinite), (71, s_spec_l00Max), (82, s_spec_l01Finite), (89, s_impl_isLeast), (96, s_spec_l02Least), (24, s_laws_toFloat32S), (117, s_impl_areLeast_1), (27, s_laws_eqFloat32S), (60, s_spec_l04Winds), (116, s_slices_IndexFunc_sf32_f32_areLeast_1), (94, s_slices_ContainsFunc_sf32_f32_areLeast_1), (30, s_spec_CalmsOf), (97, s_impl_areLeast), (63, s_impl_areWinds)]
noncomputable def lt11 : List ((Nat × Nat) × (Nat → St → Option (Bool × LO))) := [((24, 3), l_laws_toFloat32S_l3), ((27, 4), l_laws_eqFloat32S_l4), ((60, 2), l_spec_l04Winds_l2), ((116, 2), l_slices_IndexFunc_sf32_f32_areLeast_1_l2), ((30, 7), l_spec_CalmsOf_l7), ((31, 5), l_impl_CalmsOf_l5)]
noncomputable def Γ11 : Ctx := ⟨tyTab, fnTab, tblSum tb11, tblLp lt11⟩
theorem tb11_ok : SumL Try.prog tb11 := SumL.cons s_math_Float32bits_ok (SumL.cons s_math_archFloor_ok (SumL.cons s_math_Float64frombits_ok (SumL.cons s_math_Float64bits_ok (SumL.cons s_math_archTrunc_ok (SumL.cons s_laws_sameFloat_ok (SumL.cons s_impl_IsFinite_ok (SumL.cons s_spec_l00Max_ok (SumL.cons s_spec_l01Finite_ok (SumL.cons s_impl_isLeast_ok (SumL.cons s_spec_l02Least_ok (SumL.cons s_laws_toFloat32S_ok (SumL.cons s_impl_areLeast_1_ok (SumL.cons s_laws_eqFloat32S_ok (SumL.cons s_spec_l04Winds_ok (SumL.cons s_slices_IndexFunc_sf32_f32_areLeast_1_ok (SumL.cons s_slices_ContainsFunc_sf32_f32_areLeast_1_ok (SumL.cons s_spec_CalmsOf_ok (SumL.cons s_impl_areLeast_ok (SumL.cons s_impl_areWinds_ok (SumL.nil))))))))))))))))))))
theorem lt11_ok : LpL Try.prog fnTab lt11 := LpL.cons l_laws_toFloat32S_l3_ok (LpL.cons l_laws_eqFloat32S_l4_ok (LpL.cons l_spec_l04Winds_l2_ok (LpL.cons l_slices_IndexFunc_sf32_f32_areLeast_1_l2_ok (LpL.cons l_spec_CalmsOf_l7_ok (LpL.cons l_impl_CalmsOf_l5_ok (LpL.nil))))))
noncomputable def s_impl_CalmsOf : List PT → Option (Bool × AV × List Blk)
  | [.one (.row 1 list_n (.fl .f32 list)), .one (.s (.flt .f32 level))] => some ((impl_CalmsOf_p list_n list level), ((AV.tup [(TV.one (At.int IntKind.i64 (impl_CalmsOf_v0 list_n list level))), (TV.one (At.int IntKind.i64 (impl_CalmsOf_v1 list_n list level))), (TV.one (At.bool (impl_CalmsOf_v2 list_n list level)))]), []))
  | _ => none
def o_impl_CalmsOf (list_n : Nat) (list : List Nat) (level : Nat) : Option (Int × Int × Bool) → Option (AV × List Blk)
  | some r => some ((AV.tup [(TV.one (At.int IntKind.i64 r.1)), (TV.one (At.int IntKind.i64 r.2.1)), (TV.one (At.bool r.2.2))]), [])
  | none => none
theorem e_impl_CalmsOf (list_n : Nat) (list : List Nat) (level : Nat) : evFn Γ11 8 8 31 (impTs 0 [.one (.row 1 list_n (.fl .f32 list)), .one (.s (.flt .f32 level))]).1 (impTs 0 [.one (.row 1 list_n (.fl .f32 list)), .one (.s (.flt .f32 level))]).2 (expo (impTs 0 [.one (.row 1 list_n (.fl .f32 list)), .one (.s (.flt .f32 level))]).2.length) = T_impl_CalmsOf list_n list level (fun c0_ c1_ c2_ => some ((AV.tup [(TV.one (At.int IntKind.i64 c0_)), (TV.one (At.int IntKind.i64 c1_)), (TV.one (At.bool c2_))]), [])) := by kernel_rfl
theorem s_impl_CalmsOf_ok : SumOne Try.prog 31 s_impl_CalmsOf := sum_of (Γ := Γ11) (fuel := 8) (d := 8) tyTab_ok (FnL.ok fnTab_ok _ _) (LpL.ok lt11_ok) (SumL.ok tb11_ok _) mixed (by
  intro pts v news hp hc
  clear hc
  unfold s_impl_CalmsOf at hp
  split at hp
  · rename_i list_n list level
    exact Eq.trans (Eq.trans (e_impl_CalmsOf list_n list level) (T_impl_CalmsOf_nat (o_impl_CalmsOf list_n list level) rfl list_n list level (fun c0_ c1_ c2_ => some (c0_, c1_, c2_)))) (fin_out (o := (o_impl_CalmsOf list_n list level)) (x := F_impl_CalmsOf list_n list level) (d := default) (V := fun r => ((AV.tup [(TV.one (At.int IntKind.i64 r.1)), (TV.one (At.int IntKind.i64 r.2.1)), (TV.one (At.bool r.2.2))]), [])) (fun r => rfl) hp)
  · cases hp)
noncomputable def tb12 : List (Nat × (List PT → Option (Bool × AV × List Blk))) := [(109, s_math_Float32bits), (118, s_math_archFloor), (125, s_math_Float64frombits), (133, s_math_Float64bits), (139, s_math_archTrunc), (26, s_laws_sameFloat), (52, s_impl_IsFinite), (71, s_spec_l00Max), (82, s_spec_l01Finite), (89, s_impl_isLeast), (96, s_spec_l02Least), (24, s_laws_toFloat32S), (117, s_impl_areLeast_1), (27, s_laws_eqFloat32S), (60, s_spec_l04Winds), (116, s_slices_IndexFunc_sf32_f32_areLeast_1), (94, s_slices_ContainsFunc_sf32_f32_areLeast_1), (30, s_spec_CalmsOf), (97, s_impl_areLeast), (63, s_impl_areWinds), (31, s_impl_CalmsOf)]
noncomputable def lt12 : List ((Nat × Nat) × (Nat → St → Option (Bool × LO))) := [((24, 3), l_laws_toFloat32S_l3), ((27, 4), l_laws_eqFloat32S_l4), ((60, 2), l_spec_l04Winds_l2), ((116, 2), l_slices_IndexFunc_sf32_f32_areLeast_1_l2), ((30, 7), l_spec_CalmsOf_l7), ((31, 5), l_impl_CalmsOf_l5)]
noncomputable def Γ12 : Ctx := ⟨tyTab, fnTab, tblSum tb12, tblLp lt12⟩
theorem tb12_ok : SumL Try.prog tb12 := SumL.cons s_math_Float32bits_ok (SumL.cons s_math_archFloor_ok (SumL.cons s_math_Float64frombits_ok (SumL.cons s_math_Float64bits_ok (SumL.cons s_math_archTrunc_ok (SumL.cons s_laws_sameFloat_ok (SumL.cons s_impl_IsFinite_ok (SumL.cons s_spec_l00Max_ok (SumL.cons s_spec_l01Finite_ok (SumL.cons s_impl_isLeast_ok (SumL.cons s_spec_l02Least_ok (SumL.cons s_laws_toFloat32S_ok (SumL.cons s_impl_areLeast_1_ok (SumL.cons s_laws_eqFloat32S_ok (SumL.cons s_spec_l04Winds_ok (SumL.cons s_slices_IndexFunc_sf32_f32_areLeast_1_ok (SumL.cons s_slices_ContainsFunc_sf32_f32_areLeast_1_ok (SumL.cons s_spec_CalmsOf_ok (SumL.cons s_impl_areLeast_ok (SumL.cons s_impl_areWinds_ok (SumL.cons s_impl_CalmsOf_ok (SumL.nil)))))))))))))))))))))
theorem lt12_ok : LpL Try.prog fnTab lt12 := LpL.cons l_laws_toFloat32S_l3_ok (LpL.cons l_laws_eqFloat32S_l4_ok (LpL.cons l_spec_l04Winds_l2_ok (LpL.cons l_slices_IndexFunc_sf32_f32_areLeast_1_l2_ok (LpL.cons l_spec_CalmsOf_l7_ok (LpL.cons l_impl_CalmsOf_l5_ok (LpL.nil))))))
noncomputable def s_laws_FnExactCalmsOf : List PT → Option (Bool × AV × List Blk)
  | [.one (.row 1 aList_n (.fl .f32 aList)), .one (.s (.flt .f32 aLevel))] => some ((laws_FnExactCalmsOf_p aList_n aList aLevel), ((AV.v (TV.one (At.bool (laws_FnExactCalmsOf_v0 aList_n aList aLevel)))), []))
  | _ => none
def o_laws_FnExactCalmsOf (aList_n : Nat) (aList : List Nat) (aLevel : Nat) : Option (Bool) → Option (AV × List Blk)
  | some r => some ((AV.v (TV.one (At.bool r))), [])
  | none => none
theorem e_laws_FnExactCalmsOf (aList_n : Nat) (aList : List Nat) (aLevel : Nat) : evFn Γ12 8 8 6 (impTs 0 [.one (.row 1 aList_n (.fl .f32 aList)), .one (.s (.flt .f32 aLevel))]).1 (impTs 0 [.one (.row 1 aList_n (.fl .f32 aList)), .one (.s (.flt .f32 aLevel))]).2 (expo (impTs 0 [.one (.row 1 aList_n (.fl .f32 aList)), .one (.s (.flt .f32 aLevel))]).2.length) = T_laws_FnExactCalmsOf aList_n aList aLevel (fun c0_ => some ((AV.v (TV.one (At.bool c0_))), [])) := by kernel_rfl
theorem s_laws_FnExactCalmsOf_ok : SumOne Try.prog 6 s_laws_FnExactCalmsOf := sum_of (Γ := Γ12) (fuel := 8) (d := 8) tyTab_ok (FnL.ok fnTab_ok _ _) (LpL.ok lt12_ok) (SumL.ok tb12_ok _) mixed (by
  intro pts v news hp hc
  clear hc
  unfold s_laws_FnExactCalmsOf at hp
  split at hp
  · rename_i aList_n aList aLevel
    exact Eq.trans (Eq.trans (e_laws_FnExactCalmsOf aList_n aList aLevel) (T_laws_FnExactCalmsOf_nat (o_laws_FnExactCalmsOf aList_n aList aLevel) rfl aList_n aList aLevel (fun c0_ => some c0_))) (fin_out (o := (o_laws_FnExactCalmsOf aList_n aList aLevel)) (x := F_laws_FnExactCalmsOf aList_n aList aLevel) (d := default) (V := fun r => ((AV.v (TV.one (At.bool r))), [])) (fun r => rfl) hp)
  · cases hp)
noncomputable def tb13 : List (Nat × (List PT → Option (Bool × AV × List Blk))) := [(109, s_math_Float32bits), (118, s_math_archFloor), (125, s_math_Float64frombits), (133, s_math_Float64bits), (139, s_math_archTrunc), (26, s_laws_sameFloat), (52, s_impl_IsFinite), (71, s_spec_l00Max), (82, s_spec_l01Finite), (89, s_impl_isLeast), (96, s_spec_l02Least), (24, s_laws_toFloat32S), (117, s_impl_areLeast_1), (27, s_laws_eqFloat32S), (60, s_spec_l04Winds), (116, s_slices_IndexFunc_sf32_f32_areLeast_1), (94, s_slices_ContainsFunc_sf32_f32_areLeast_1), (30, s_spec_CalmsOf), (97, s_impl_areLeast), (63, s_impl_areWinds), (31, s_impl_CalmsOf), (6, s_laws_FnExactCalmsOf)]
noncomputable def lt13 : List ((Nat × Nat) × (Nat → St → Option (Bool × LO))) := [((24, 3), l_laws_toFloat32S_l3), ((27, 4), l_laws_eqFloat32S_l4), ((60, 2), l_spec_l04Winds_l2), ((116, 2), l_slices_IndexFunc_sf32_f32_areLeast_1_l2), ((30, 7), l_spec_CalmsOf_l7), ((31, 5), l_impl_CalmsOf_l5)]
noncomputable def Γ13 : Ctx := ⟨tyTab, fnTab, tblSum tb13, tblLp lt13⟩
theorem tb13_ok : SumL Try.prog tb13 := SumL.cons s_math_Float32bits_ok (SumL.cons s_math_archFloor_ok (SumL.cons s_math_Float64frombits_ok (SumL.cons s_math_Float64bits_ok (SumL.cons s_math_archTrunc_ok (SumL.cons s_laws_sameFloat_ok (SumL.cons s_impl_IsFinite_ok (SumL.cons s_spec_l00Max_ok (SumL.cons s_spec_l01Finite_ok (SumL.cons s_impl_isLeast_ok (SumL.cons s_spec_l02Least_ok (SumL.cons s_laws_toFloat32S_ok (SumL.cons s_impl_areLeast_1_ok (SumL.cons s_laws_eqFloat32S_ok (SumL.cons s_spec_l04Winds_ok (SumL.cons s_slices_IndexFunc_sf32_f32_areLeast_1_ok (SumL.cons s_slices_ContainsFunc_sf32_f32_areLeast_1_ok (SumL.cons s_spec_CalmsOf_ok (SumL.cons s_impl_areLeast_ok (SumL.cons s_impl_areWinds_ok (SumL.cons s_impl_CalmsOf_ok (SumL.cons s_laws_FnExactCalmsOf_ok (SumL.nil))))))))))))))))))))))
theorem lt13_ok : LpL Try.prog fnTab lt13 := LpL.cons l_laws_toFloat32S_l3_ok (LpL.cons l_laws_eqFloat32S_l4_ok (LpL.cons l_spec_l04Winds_l2_ok (LpL.cons l_slices_IndexFunc_sf32_f32_areLeast_1_l2_ok (LpL.cons l_spec_CalmsOf_l7_ok (LpL.cons l_impl_CalmsOf_l5_ok (LpL.nil))))))
noncomputable def tb14 : List (Nat × (List PT → Option (Bool × AV × List Blk))) := [(109, s_math_Float32bits), (118, s_math_archFloor), (125, s_math_Float64frombits), (133, s_math_Float64bits), (139, s_math_archTrunc), (26, s_laws_sameFloat), (52, s_impl_IsFinite), (71, s_spec_l00Max), (82, s_spec_l01Finite), (89, s_impl_isLeast), (96, s_spec_l02Least), (24, s_laws_toFloat32S), (117, s_impl_areLeast_1), (27, s_laws_eqFloat32S), (60, s_spec_l04Winds), (116, s_slices_IndexFunc_sf32_f32_areLeast_1), (94, s_slices_ContainsFunc_sf32_f32_areLeast_1), (30, s_spec_CalmsOf), (97, s_impl_areLeast), (63, s_impl_areWinds), (31, s_impl_CalmsOf), (6, s_laws_FnExactCalmsOf)]
noncomputable def lt14 : List ((Nat × Nat) × (Nat → St → Option (Bool × LO))) := [((24, 3), l_laws_toFloat32S_l3), ((27, 4), l_laws_eqFloat32S_l4), ((60, 2), l_spec_l04Winds_l2), ((116, 2), l_slices_IndexFunc_sf32_f32_areLeast_1_l2), ((30, 7), l_spec_CalmsOf_l7), ((31, 5), l_impl_CalmsOf_l5)]
noncomputable def Γ14 : Ctx := ⟨tyTab, fnTab, tblSum tb14, tblLp lt14⟩
theorem tb14_ok : SumL Try.prog tb14 := SumL.cons s_math_Float32bits_ok (SumL.cons s_math_archFloor_ok (SumL.cons s_math_Float64frombits_ok (SumL.cons s_math_Float64bits_ok (SumL.cons s_math_archTrunc_ok (SumL.cons s_laws_sameFloat_ok (SumL.cons s_impl_IsFinite_ok (SumL.cons s_spec_l00Max_ok (SumL.cons s_spec_l01Finite_ok (SumL.cons s_impl_isLeast_ok (SumL.cons s_spec_l02Least_ok (SumL.cons s_laws_toFloat32S_ok (SumL.cons s_impl_areLeast_1_ok (SumL.cons s_laws_eqFloat32S_ok (SumL.cons s_spec_l04Winds_ok (SumL.cons s_slices_IndexFunc_sf32_f32_areLeast_1_ok (SumL.cons s_slices_ContainsFunc_sf32_f32_areLeast_1_ok (SumL.cons s_spec_CalmsOf_ok (SumL.cons s_impl_areLeast_ok (SumL.cons s_impl_areWinds_ok (SumL.cons s_impl_CalmsOf_ok (SumL.cons s_laws_FnExactCalmsOf_ok (SumL.nil))))))))))))))))))))))
theorem lt14_ok : LpL Try.prog fnTab lt14 := LpL.cons l_laws_toFloat32S_l3_ok (LpL.cons l_laws_eqFloat32S_l4_ok (LpL.cons l_spec_l04Winds_l2_ok (LpL.cons l_slices_IndexFunc_sf32_f32_areLeast_1_l2_ok (LpL.cons l_spec_CalmsOf_l7_ok (LpL.cons l_impl_CalmsOf_l5_ok (LpL.nil))))))
noncomputable def tb15 : List (Nat × (List PT → Option (Bool × AV × List Blk))) := [(109, s_math_Float32bits), (118, s_math_archFloor), (125, s_math_Float64frombits), (133, s_math_Float64bits), (139, s_math_archTrunc), (26, s_laws_sameFloat), (52, s_impl_IsFinite), (71, s_spec_l00Max), (82, s_spec_l01Finite), (89, s_impl_isLeast), (96, s_spec_l02Least), (24, s_laws_toFloat32S), (117, s_impl_areLeast_1), (27, s_laws_eqFloat32S), (60, s_spec_l04Winds), (116, s_slices_IndexFunc_sf32_f32_areLeast_1), (94, s_slices_ContainsFunc_sf32_f32_areLeast_1), (30, s_spec_CalmsOf), (97, s_impl_areLeast), (63, s_impl_areWinds), (31, s_impl_CalmsOf), (6, s_laws_FnExactCalmsOf)]
noncomputable def lt15 : List ((Nat × Nat) × (Nat → St → Option (Bool × LO))) := [((24, 3), l_laws_toFloat32S_l3), ((27, 4), l_laws_eqFloat32S_l4), ((60, 2), l_spec_l04Winds_l2), ((116, 2), l_slices_IndexFunc_sf32_f32_areLeast_1_l2), ((30, 7), l_spec_CalmsOf_l7), ((31, 5), l_impl_CalmsOf_l5)]
noncomputable def Γ15 : Ctx := ⟨tyTab, fnTab, tblSum tb15, tblLp lt15⟩
theorem tb15_ok : SumL Try.prog tb15 := SumL.cons s_math_Float32bits_ok (SumL.cons s_math_archFloor_ok (SumL.cons s_math_Float64frombits_ok (SumL.cons s_math_Float64bits_ok (SumL.cons s_math_archTrunc_ok (SumL.cons s_laws_sameFloat_ok (SumL.cons s_impl_IsFinite_ok (SumL.cons s_spec_l00Max_ok (SumL.cons s_spec_l01Finite_ok (SumL.cons s_impl_isLeast_ok (SumL.cons s_spec_l02Least_ok (SumL.cons s_laws_toFloat32S_ok (SumL.cons s_impl_areLeast_1_ok (SumL.cons s_laws_eqFloat32S_ok (SumL.cons s_spec_l04Winds_ok (SumL.cons s_slices_IndexFunc_sf32_f32_areLeast_1_ok (SumL.cons s_slices_ContainsFunc_sf32_f32_areLeast_1_ok (SumL.cons s_spec_CalmsOf_ok (SumL.cons s_impl_areLeast_ok (SumL.cons s_impl_areWinds_ok (SumL.cons s_impl_CalmsOf_ok (SumL.cons s_laws_FnExactCalmsOf_ok (SumL.nil))))))))))))))))))))))
theorem lt15_ok : LpL Try.prog fnTab lt15 := LpL.cons l_laws_toFloat32S_l3_ok (LpL.cons l_laws_eqFloat32S_l4_ok (LpL.cons l_spec_l04Winds_l2_ok (LpL.cons l_slices_IndexFunc_sf32_f32_areLeast_1_l2_ok (LpL.cons l_spec_CalmsOf_l7_ok (LpL.cons l_impl_CalmsOf_l5_ok (LpL.nil))))))
noncomputable def tb16 : List (Nat × (List PT → Option (Bool × AV × List Blk))) := [(109, s_math_Float32bits), (118, s_math_archFloor), (125, s_math_Float64frombits), (133, s_math_Float64bits), (139, s_math_archTrunc), (26, s_laws_sameFloat), (52, s_impl_IsFinite), (71, s_spec_l00Max), (82, s_spec_l01Finite), (89, s_impl_isLeast), (96, s_spec_l02Least), (24, s_laws_toFloat32S), (117, s_impl_areLeast_1), (27, s_laws_eqFloat32S), (60, s_spec_l04Winds), (116, s_slices_IndexFunc_sf32_f32_areLeast_1), (94, s_slices_ContainsFunc_sf32_f32_areLeast_1), (30, s_spec_CalmsOf), (97, s_impl_areLeast), (63, s_impl_areWinds), (31, s_impl_CalmsOf), (6, s_laws_FnExactCalmsOf)]
noncomputable def lt16 : List ((Nat × Nat) × (Nat → St → Option (Bool × LO))) := [((24, 3), l_laws_toFloat32S_l3), ((27, 4), l_laws_eqFloat32S_l4), ((60, 2), l_spec_l04Winds_l2), ((116, 2), l_slices_IndexFunc_sf32_f32_areLeast_1_l2), ((30, 7), l_spec_CalmsOf_l7), ((31, 5), l_impl_CalmsOf_l5)]
noncomputable def Γ16 : Ctx := ⟨tyTab, fnTab, tblSum tb16, tblLp lt16⟩
theorem tb16_ok : SumL Try.prog tb16 := SumL.cons s_math_Float32bits_ok (SumL.cons s_math_archFloor_ok (SumL.cons s_math_Float64frombits_ok (SumL.cons s_math_Float64bits_ok (SumL.cons s_math_archTrunc_ok (SumL.cons s_laws_sameFloat_ok (SumL.cons s_impl_IsFinite_ok (SumL.cons s_spec_l00Max_ok (SumL.cons s_spec_l01Finite_ok (SumL.cons s_impl_isLeast_ok (SumL.cons s_spec_l02Least_ok (SumL.cons s_laws_toFloat32S_ok (SumL.cons s_impl_areLeast_1_ok (SumL.cons s_laws_eqFloat32S_ok (SumL.cons s_spec_l04Winds_ok (SumL.cons s_slices_IndexFunc_sf32_f32_areLeast_1_ok (SumL.cons s_slices_ContainsFunc_sf32_f32_areLeast_1_ok (SumL.cons s_spec_CalmsOf_ok (SumL.cons s_impl_areLeast_ok (SumL.cons s_impl_areWinds_ok (SumL.cons s_impl_CalmsOf_ok (SumL.cons s_laws_FnExactCalmsOf_ok (SumL.nil))))))))))))))))))))))
theorem lt16_ok : LpL Try.prog fnTab lt16 := LpL.cons l_laws_toFloat32S_l3_ok (LpL.cons l_laws_eqFloat32S_l4_ok (LpL.cons l_spec_l04Winds_l2_ok (LpL.cons l_slices_IndexFunc_sf32_f32_areLeast_1_l2_ok (LpL.cons l_spec_CalmsOf_l7_ok (LpL.cons l_impl_CalmsOf_l5_ok (LpL.nil))))))
noncomputable def tb17 : List (Nat × (List PT → Option (Bool × AV × List Blk))) := [(109, s_math_Float32bits), (118, s_math_archFloor), (125, s_math_Float64frombits), (133, s_math_Float64bits), (139, s_math_archTrunc), (26, s_laws_sameFloat), (52, s_impl_IsFinite), (71, s_spec_l00Max), (82, s_spec_l01Finite), (89, s_impl_isLeast), (96, s_spec_l02Least), (24, s_laws_toFloat32S), (117, s_impl_areLeast_1), (27, s_laws_eqFloat32S), (60, s_spec_l04Winds), (116, s_slices_IndexFunc_sf32_f32_areLeast_1), (94, s_slices_ContainsFunc_sf32_f32_areLeast_1), (30, s_spec_CalmsOf), (97, s_impl_areLeast), (63, s_impl_areWinds), (31, s_impl_CalmsOf), (6, s_laws_FnExactCalmsOf)]
noncomputable def lt17 : List ((Nat × Nat) × (Nat → St → Option (Bool × LO))) := [((24, 3), l_laws_toFloat32S_l3), ((27, 4), l_laws_eqFloat32S_l4), ((60, 2), l_spec_l04Winds_l2), ((116, 2), l_slices_IndexFunc_sf32_f32_areLeast_1_l2), ((30, 7), l_spec_CalmsOf_l7), ((31, 5), l_impl_CalmsOf_l5)]
noncomputable def Γ17 : Ctx := ⟨tyTab, fnTab, tblSum tb17, tblLp lt17⟩
theorem tb17_ok : SumL Try.prog tb17 := SumL.cons s_math_Float32bits_ok (SumL.cons s_math_archFloor_ok (SumL.cons s_math_Float64frombits_ok (SumL.cons s_math_Float64bits_ok (SumL.cons s_math_archTrunc_ok (SumL.cons s_laws_sameFloat_ok (SumL.cons s_impl_IsFinite_ok (SumL.cons s_spec_l00Max_ok (SumL.cons s_spec_l01Finite_ok (SumL.cons s_impl_isLeast_ok (SumL.cons s_spec_l02Least_ok (SumL.cons s_laws_toFloat32S_ok (SumL.cons s_impl_areLeast_1_ok (SumL.cons s_laws_eqFloat32S_ok (SumL.cons s_spec_l04Winds_ok (SumL.cons s_slices_IndexFunc_sf32_f32_areLeast_1_ok (SumL.cons s_slices_ContainsFunc_sf32_f32_areLeast_1_ok (SumL.cons s_spec_CalmsOf_ok (SumL.cons s_impl_areLeast_ok (SumL.cons s_impl_areWinds_ok (SumL.cons s_impl_CalmsOf_ok (SumL.cons s_laws_FnExactCalmsOf_ok (SumL.nil))))))))))))))))))))))
theorem lt17_ok : LpL Try.prog fnTab lt17 := LpL.cons l_laws_toFloat32S_l3_ok (LpL.cons l_laws_eqFloat32S_l4_ok (LpL.cons l_spec_l04Winds_l2_ok (LpL.cons l_slices_IndexFunc_sf32_f32_areLeast_1_l2_ok (LpL.cons l_spec_CalmsOf_l7_ok (LpL.cons l_impl_CalmsOf_l5_ok (LpL.nil))))))
end Go.Proofs.Ytohhkgieggfpeab
