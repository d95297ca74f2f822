/-
  What functions answer: that the evaluator answers so. Printed by a program.
-/
import Derived.Test.YtohhkgieggfpeabSameRoseC
set_option linter.unusedVariables false
set_option linter.unusedSimpArgs false
set_option maxRecDepth 100000
set_option maxHeartbeats 4000000
namespace Go.Proofs.Ytohhkgieggfpeab
open Go Go.Rf
def s_math_Float32bits : List PT → Option (Bool × AV × List Blk)
  | [.one (.s (.flt .f32 x))] => some (bnot (nanQ .f32 x), A1 (.int .u32 x), [])
  | _ => none
theorem s_math_Float32bits_ok : SumOne Try.prog 109 s_math_Float32bits := by
  intro pts v news hp w vals hv
  unfold s_math_Float32bits at hp
  split at hp
  · rename_i x
    injection hp with hp
    injection hp with h1 hp
    injection hp with h2 h3
    subst h2
    subst h3
    obtain ⟨l, hl⟩ : ∃ l, l = vals.toList := ⟨_, rfl⟩
    rw [← hl] at hv
    cases hv with
    | cons a1 a2 =>
      cases a2
      obtain ⟨b, hb1, hb2, hb3⟩ := a1
      subst hb1
      rename_i hx
      have hvals : vals = #[.float .f32 b] := by rw [← Array.toList_inj, ← hl]
      subst hvals
      have hn : nanB .f32 b = false := by rw [← nanB_cn, hb3]; simpa [bnot, nanQ] using h1
      rw [cn_of_not hn] at hb3
      subst hb3
      refine .inl ⟨_, w, by (simp only [callFunc, Sem.run_bind, run_program, Result.andThen_ok, Try.func109]; rfl), NoB, ⟨⟨(fun t b' h => by cases t <;> cases h), (fun t t' b1 b2 x x' _ h => by cases t <;> cases h)⟩, (fun t x h => by cases h), Fr.refl _ w⟩, rfl⟩
  · cases hp
def s_math_archFloor : List PT → Option (Bool × AV × List Blk)
  | [.one (.s (.flt .f64 x))] => some (bnot (nanQ .f64 x), A1 (.flt .f64 (fint .down x)), [])
  | _ => none
theorem s_math_archFloor_ok : SumOne Try.prog 118 s_math_archFloor := by
  intro pts v news hp w vals hv
  unfold s_math_archFloor at hp
  split at hp
  · rename_i x
    injection hp with hp
    injection hp with h1 hp
    injection hp with h2 h3
    subst h2
    subst h3
    obtain ⟨l, hl⟩ : ∃ l, l = vals.toList := ⟨_, rfl⟩
    rw [← hl] at hv
    cases hv with
    | cons a1 a2 =>
      cases a2
      obtain ⟨b, hb1, hb2, hb3⟩ := a1
      subst hb1
      rename_i hx
      have hvals : vals = #[.float .f64 b] := by rw [← Array.toList_inj, ← hl]
      subst hvals
      have hn : nanB .f64 b = false := by rw [← nanB_cn, hb3]; simpa [bnot, nanQ] using h1
      rw [cn_of_not hn] at hb3
      subst hb3
      refine .inl ⟨_, w, by (simp only [callFunc, Sem.run_bind, run_program, Result.andThen_ok, Try.func118]; change (do let v ← Extern.MathFloor.toIntegral "math.archFloor" .down #[.float .f64 b]; pure (.value v) : Sem Next).run Try.prog w = _; rw [Sem.run_bind, run_fint hn]; rfl), NoB, ⟨⟨(fun t b' h => by cases t <;> cases h), (fun t t' b1 b2 x x' _ h => by cases t <;> cases h)⟩, (fun t x h => by cases h), Fr.refl _ w⟩, fint_rel hn⟩
  · cases hp
def s_math_Float64frombits : List PT → Option (Bool × AV × List Blk)
  | [.one (.s (.int .u64 x))] => some (okU .f64 x, A1 (.flt .f64 (cnI .f64 x)), [])
  | _ => none
theorem s_math_Float64frombits_ok : SumOne Try.prog 125 s_math_Float64frombits := by
  intro pts v news hp w vals hv
  unfold s_math_Float64frombits at hp
  split at hp
  · rename_i x
    injection hp with hp
    injection hp with h1 hp
    injection hp with h2 h3
    subst h2
    subst h3
    obtain ⟨l, hl⟩ : ∃ l, l = vals.toList := ⟨_, rfl⟩
    rw [← hl] at hv
    cases hv with
    | cons a1 a2 =>
      cases a2
      have hb1 : _ = Value.int .u64 x := a1
      subst hb1
      rename_i hx
      have hvals : vals = #[.int .u64 x] := by rw [← Array.toList_inj, ← hl]
      subst hvals
      have hw := okU_lt h1
      refine .inl ⟨_, w, by (simp only [callFunc, Sem.run_bind, run_program, Result.andThen_ok, Try.func125]; rfl), NoB, ⟨⟨(fun t b' h => by cases t <;> cases h), (fun t t' b1 b2 x x' _ h => by cases t <;> cases h)⟩, (fun t x h => by cases h), Fr.refl _ w⟩, ⟨_, rfl, hw, rfl⟩⟩
  · cases hp
def s_math_Float64bits : List PT → Option (Bool × AV × List Blk)
  | [.one (.s (.flt .f64 x))] => some (bnot (nanQ .f64 x), A1 (.int .u64 x), [])
  | _ => none
theorem s_math_Float64bits_ok : SumOne Try.prog 133 s_math_Float64bits := by
  intro pts v news hp w vals hv
  unfold s_math_Float64bits at hp
  split at hp
  · rename_i x
    injection hp with hp
    injection hp with h1 hp
    injection hp with h2 h3
    subst h2
    subst h3
    obtain ⟨l, hl⟩ : ∃ l, l = vals.toList := ⟨_, rfl⟩
    rw [← hl] at hv
    cases hv with
    | cons a1 a2 =>
      cases a2
      obtain ⟨b, hb1, hb2, hb3⟩ := a1
      subst hb1
      rename_i hx
      have hvals : vals = #[.float .f64 b] := by rw [← Array.toList_inj, ← hl]
      subst hvals
      have hn : nanB .f64 b = false := by rw [← nanB_cn, hb3]; simpa [bnot, nanQ] using h1
      rw [cn_of_not hn] at hb3
      subst hb3
      refine .inl ⟨_, w, by (simp only [callFunc, Sem.run_bind, run_program, Result.andThen_ok, Try.func133]; rfl), NoB, ⟨⟨(fun t b' h => by cases t <;> cases h), (fun t t' b1 b2 x x' _ h => by cases t <;> cases h)⟩, (fun t x h => by cases h), Fr.refl _ w⟩, rfl⟩
  · cases hp
def s_math_archTrunc : List PT → Option (Bool × AV × List Blk)
  | [.one (.s (.flt .f64 x))] => some (bnot (nanQ .f64 x), A1 (.flt .f64 (fint .zero x)), [])
  | _ => none
theorem s_math_archTrunc_ok : SumOne Try.prog 139 s_math_archTrunc := by
  intro pts v news hp w vals hv
  unfold s_math_archTrunc at hp
  split at hp
  · rename_i x
    injection hp with hp
    injection hp with h1 hp
    injection hp with h2 h3
    subst h2
    subst h3
    obtain ⟨l, hl⟩ : ∃ l, l = vals.toList := ⟨_, rfl⟩
    rw [← hl] at hv
    cases hv with
    | cons a1 a2 =>
      cases a2
      obtain ⟨b, hb1, hb2, hb3⟩ := a1
      subst hb1
      rename_i hx
      have hvals : vals = #[.float .f64 b] := by rw [← Array.toList_inj, ← hl]
      subst hvals
      have hn : nanB .f64 b = false := by rw [← nanB_cn, hb3]; simpa [bnot, nanQ] using h1
      rw [cn_of_not hn] at hb3
      subst hb3
      refine .inl ⟨_, w, by (simp only [callFunc, Sem.run_bind, run_program, Result.andThen_ok, Try.func139]; change (do let v ← Extern.MathFloor.toIntegral "math.archTrunc" .zero #[.float .f64 b]; pure (.value v) : Sem Next).run Try.prog w = _; rw [Sem.run_bind, run_fint hn]; rfl), NoB, ⟨⟨(fun t b' h => by cases t <;> cases h), (fun t t' b1 b2 x x' _ h => by cases t <;> cases h)⟩, (fun t x h => by cases h), Fr.refl _ w⟩, fint_rel hn⟩
  · cases hp
noncomputable def tb0 : List (Nat × (List PT → Option (Bool × AV × List Blk))) := [(109, s_math_Float32bits), (118, s_math_archFloor), (125, s_math_Float64frombits), (133, s_math_Float64bits), (139, s_math_archTrunc)]
noncomputable def lt0 : List ((Nat × Nat) × (Nat → St → Option (Bool × LO))) := []
noncomputable def Γ0 : Ctx := ⟨tyTab, fnTab, tblSum tb0, tblLp lt0⟩
theorem tb0_ok : SumL Try.prog tb0 := SumL.cons s_math_Float32bits_ok (SumL.cons s_math_archFloor_ok (SumL.cons s_math_Float64frombits_ok (SumL.cons s_math_Float64bits_ok (SumL.cons s_math_archTrunc_ok (SumL.nil)))))
theorem lt0_ok : LpL Try.prog fnTab lt0 := LpL.nil
noncomputable def s_laws_sameFloat : List PT → Option (Bool × AV × List Blk)
  | [.one (.s (.flt .f64 a)), .one (.s (.flt .f64 b))] => some ((laws_sameFloat_p a b), ((AV.v (TV.one (At.bool (laws_sameFloat_v0 a b)))), []))
  | _ => none
def o_laws_sameFloat (a : Nat) (b : Nat) : Option (Bool) → Option (AV × List Blk)
  | some r => some ((AV.v (TV.one (At.bool r))), [])
  | none => none
theorem e_laws_sameFloat (a : Nat) (b : Nat) : evFn Γ0 8 8 26 (impTs 0 [.one (.s (.flt .f64 a)), .one (.s (.flt .f64 b))]).1 (impTs 0 [.one (.s (.flt .f64 a)), .one (.s (.flt .f64 b))]).2 (expo (impTs 0 [.one (.s (.flt .f64 a)), .one (.s (.flt .f64 b))]).2.length) = T_laws_sameFloat a b (fun c0_ => some ((AV.v (TV.one (At.bool c0_))), [])) := by kernel_rfl
theorem s_laws_sameFloat_ok : SumOne Try.prog 26 s_laws_sameFloat := sum_of (Γ := Γ0) (fuel := 8) (d := 8) tyTab_ok (FnL.ok fnTab_ok _ _) (LpL.ok lt0_ok) (SumL.ok tb0_ok _) mixed (by
  intro pts v news hp hc
  clear hc
  unfold s_laws_sameFloat at hp
  split at hp
  · rename_i a b
    exact Eq.trans (Eq.trans (e_laws_sameFloat a b) (T_laws_sameFloat_nat (o_laws_sameFloat a b) rfl a b (fun c0_ => some c0_))) (fin_out (o := (o_laws_sameFloat a b)) (x := F_laws_sameFloat a b) (d := default) (V := fun r => ((AV.v (TV.one (At.bool r))), [])) (fun r => rfl) hp)
  · cases hp)
noncomputable def s_laws_szFloat32S : List PT → Option (Bool × AV × List Blk)
  | [.one (.row 1 a_n (.fl .f32 a)), .one (.s (.int .i64 left))] => some ((laws_szFloat32S_p a_n a left), ((AV.v (TV.one (At.int IntKind.i64 (laws_szFloat32S_v0 a_n a left)))), []))
  | _ => none
def o_laws_szFloat32S (a_n : Nat) (a : List Nat) (left : Int) : Option (Int) → Option (AV × List Blk)
  | some r => some ((AV.v (TV.one (At.int IntKind.i64 r))), [])
  | none => none
theorem e_laws_szFloat32S (a_n : Nat) (a : List Nat) (left : Int) : evFn Γ0 8 8 72 (impTs 0 [.one (.row 1 a_n (.fl .f32 a)), .one (.s (.int .i64 left))]).1 (impTs 0 [.one (.row 1 a_n (.fl .f32 a)), .one (.s (.int .i64 left))]).2 (expo (impTs 0 [.one (.row 1 a_n (.fl .f32 a)), .one (.s (.int .i64 left))]).2.length) = T_laws_szFloat32S a_n a left (fun c0_ => some ((AV.v (TV.one (At.int IntKind.i64 c0_))), [])) := by kernel_rfl
theorem s_laws_szFloat32S_ok : SumOne Try.prog 72 s_laws_szFloat32S := sum_of (Γ := Γ0) (fuel := 8) (d := 8) tyTab_ok (FnL.ok fnTab_ok _ _) (LpL.ok lt0_ok) (SumL.ok tb0_ok _) mixed (by
  intro pts v news hp hc
  clear hc
  unfold s_laws_szFloat32S at hp
  split at hp
  · rename_i a_n a left
    exact Eq.trans (Eq.trans (e_laws_szFloat32S a_n a left) (T_laws_szFloat32S_nat (o_laws_szFloat32S a_n a left) rfl a_n a left (fun c0_ => some c0_))) (fin_out (o := (o_laws_szFloat32S a_n a left)) (x := F_laws_szFloat32S a_n a left) (d := default) (V := fun r => ((AV.v (TV.one (At.int IntKind.i64 r))), [])) (fun r => rfl) hp)
  · cases hp)
noncomputable def s_spec_l01Bits : List PT → Option (Bool × AV × List Blk)
  | [.one (.s (.flt .f32 x))] => some ((spec_l01Bits_p x), ((AV.v (TV.one (At.int IntKind.i64 (spec_l01Bits_v0 x)))), []))
  | _ => none
def o_spec_l01Bits (x : Nat) : Option (Int) → Option (AV × List Blk)
  | some r => some ((AV.v (TV.one (At.int IntKind.i64 r))), [])
  | none => none
theorem e_spec_l01Bits (x : Nat) : evFn Γ0 8 8 85 (impTs 0 [.one (.s (.flt .f32 x))]).1 (impTs 0 [.one (.s (.flt .f32 x))]).2 (expo (impTs 0 [.one (.s (.flt .f32 x))]).2.length) = T_spec_l01Bits x (fun c0_ => some ((AV.v (TV.one (At.int IntKind.i64 c0_))), [])) := by kernel_rfl
theorem s_spec_l01Bits_ok : SumOne Try.prog 85 s_spec_l01Bits := sum_of (Γ := Γ0) (fuel := 8) (d := 8) tyTab_ok (FnL.ok fnTab_ok _ _) (LpL.ok lt0_ok) (SumL.ok tb0_ok _) mixed (by
  intro pts v news hp hc
  clear hc
  unfold s_spec_l01Bits at hp
  split at hp
  · rename_i x
    exact Eq.trans (Eq.trans (e_spec_l01Bits x) (T_spec_l01Bits_nat (o_spec_l01Bits x) rfl x (fun c0_ => some c0_))) (fin_out (o := (o_spec_l01Bits x)) (x := F_spec_l01Bits x) (d := default) (V := fun r => ((AV.v (TV.one (At.int IntKind.i64 r))), [])) (fun r => rfl) hp)
  · cases hp)
noncomputable def s_math_Signbit : List PT → Option (Bool × AV × List Blk)
  | [.one (.s (.flt .f64 x))] => some ((math_Signbit_p x), ((AV.v (TV.one (At.bool (math_Signbit_v0 x)))), []))
  | _ => none
def o_math_Signbit (x : Nat) : Option (Bool) → Option (AV × List Blk)
  | some r => some ((AV.v (TV.one (At.bool r))), [])
  | none => none
theorem e_math_Signbit (x : Nat) : evFn Γ0 8 8 120 (impTs 0 [.one (.s (.flt .f64 x))]).1 (impTs 0 [.one (.s (.flt .f64 x))]).2 (expo (impTs 0 [.one (.s (.flt .f64 x))]).2.length) = T_math_Signbit x (fun c0_ => some ((AV.v (TV.one (At.bool c0_))), [])) := by kernel_rfl
theorem s_math_Signbit_ok : SumOne Try.prog 120 s_math_Signbit := sum_of (Γ := Γ0) (fuel := 8) (d := 8) tyTab_ok (FnL.ok fnTab_ok _ _) (LpL.ok lt0_ok) (SumL.ok tb0_ok _) mixed (by
  intro pts v news hp hc
  clear hc
  unfold s_math_Signbit at hp
  split at hp
  · rename_i x
    exact Eq.trans (Eq.trans (e_math_Signbit x) (T_math_Signbit_nat (o_math_Signbit x) rfl x (fun c0_ => some c0_))) (fin_out (o := (o_math_Signbit x)) (x := F_math_Signbit x) (d := default) (V := fun r => ((AV.v (TV.one (At.bool r))), [])) (fun r => rfl) hp)
  · cases hp)
noncomputable def tb1 : List (Nat × (List PT → Option (Bool × AV × List Blk))) := [(109, s_math_Float32bits), (118, s_math_archFloor), (125, s_math_Float64frombits), (133, s_math_Float64bits), (139, s_math_archTrunc), (26, s_laws_sameFloat), (72, s_laws_szFloat32S), (85, s_spec_l01Bits), (120, s_math_Signbit)]
noncomputable def lt1 : List ((Nat × Nat) × (Nat → St → Option (Bool × LO))) := []
noncomputable def Γ1 : Ctx := ⟨tyTab, fnTab, tblSum tb1, tblLp lt1⟩
theorem tb1_ok : SumL Try.prog tb1 := SumL.cons s_math_Float32bits_ok (SumL.cons s_math_archFloor_ok (SumL.cons s_math_Float64frombits_ok (SumL.cons s_math_Float64bits_ok (SumL.cons s_math_archTrunc_ok (SumL.cons s_laws_sameFloat_ok (SumL.cons s_laws_szFloat32S_ok (SumL.cons s_spec_l01Bits_ok (SumL.cons s_math_Signbit_ok (SumL.nil)))))))))
theorem lt1_ok : LpL Try.prog fnTab lt1 := LpL.nil
noncomputable def s_laws_szRose : List PT → Option (Bool × AV × List Blk)
  | [.agg [.row 1 a_Shares_n (.fl .f32 a_Shares), .row 1 a_Speeds_n (.fl .f32 a_Speeds)], .one (.s (.int .i64 left))] => some ((laws_szRose_p a_Shares_n a_Shares a_Speeds_n a_Speeds left), ((AV.v (TV.one (At.int IntKind.i64 (laws_szRose_v0 a_Shares_n a_Shares a_Speeds_n a_Speeds left)))), []))
  | _ => none
def o_laws_szRose (a_Shares_n : Nat) (a_Shares : List Nat) (a_Speeds_n : Nat) (a_Speeds : List Nat) (left : Int) : Option (Int) → Option (AV × List Blk)
  | some r => some ((AV.v (TV.one (At.int IntKind.i64 r))), [])
  | none => none
theorem e_laws_szRose (a_Shares_n : Nat) (a_Shares : List Nat) (a_Speeds_n : Nat) (a_Speeds : List Nat) (left : Int) : evFn Γ1 8 8 32 (impTs 0 [.agg [.row 1 a_Shares_n (.fl .f32 a_Shares), .row 1 a_Speeds_n (.fl .f32 a_Speeds)], .one (.s (.int .i64 left))]).1 (impTs 0 [.agg [.row 1 a_Shares_n (.fl .f32 a_Shares), .row 1 a_Speeds_n (.fl .f32 a_Speeds)], .one (.s (.int .i64 left))]).2 (expo (impTs 0 [.agg [.row 1 a_Shares_n (.fl .f32 a_Shares), .row 1 a_Speeds_n (.fl .f32 a_Speeds)], .one (.s (.int .i64 left))]).2.length) = T_laws_szRose a_Shares_n a_Shares a_Speeds_n a_Speeds left (fun c0_ => some ((AV.v (TV.one (At.int IntKind.i64 c0_))), [])) := by kernel_rfl
theorem s_laws_szRose_ok : SumOne Try.prog 32 s_laws_szRose := sum_of (Γ := Γ1) (fuel := 8) (d := 8) tyTab_ok (FnL.ok fnTab_ok _ _) (LpL.ok lt1_ok) (SumL.ok tb1_ok _) mixed (by
  intro pts v news hp hc
  clear hc
  unfold s_laws_szRose at hp
  split at hp
  · rename_i a_Shares_n a_Shares a_Speeds_n a_Speeds left
    exact Eq.trans (Eq.trans (e_laws_szRose a_Shares_n a_Shares a_Speeds_n a_Speeds left) (T_laws_szRose_nat (o_laws_szRose a_Shares_n a_Shares a_Speeds_n a_Speeds left) rfl a_Shares_n a_Shares a_Speeds_n a_Speeds left (fun c0_ => some c0_))) (fin_out (o := (o_laws_szRose a_Shares_n a_Shares a_Speeds_n a_Speeds left)) (x := F_laws_szRose a_Shares_n a_Shares a_Speeds_n a_Speeds left) (d := default) (V := fun r => ((AV.v (TV.one (At.int IntKind.i64 r))), [])) (fun r => rfl) hp)
  · cases hp)
noncomputable def s_spec_l01Same : List PT → Option (Bool × AV × List Blk)
  | [.one (.s (.flt .f32 a)), .one (.s (.flt .f32 b))] => some ((spec_l01Same_p a b), ((AV.v (TV.one (At.bool (spec_l01Same_v0 a b)))), []))
  | _ => none
def o_spec_l01Same (a : Nat) (b : Nat) : Option (Bool) → Option (AV × List Blk)
  | some r => some ((AV.v (TV.one (At.bool r))), [])
  | none => none
theorem e_spec_l01Same (a : Nat) (b : Nat) : evFn Γ1 8 8 46 (impTs 0 [.one (.s (.flt .f32 a)), .one (.s (.flt .f32 b))]).1 (impTs 0 [.one (.s (.flt .f32 a)), .one (.s (.flt .f32 b))]).2 (expo (impTs 0 [.one (.s (.flt .f32 a)), .one (.s (.flt .f32 b))]).2.length) = T_spec_l01Same a b (fun c0_ => some ((AV.v (TV.one (At.bool c0_))), [])) := by kernel_rfl
theorem s_spec_l01Same_ok : SumOne Try.prog 46 s_spec_l01Same := sum_of (Γ := Γ1) (fuel := 8) (d := 8) tyTab_ok (FnL.ok fnTab_ok _ _) (LpL.ok lt1_ok) (SumL.ok tb1_ok _) mixed (by
  intro pts v news hp hc
  clear hc
  unfold s_spec_l01Same at hp
  split at hp
  · rename_i a b
    exact Eq.trans (Eq.trans (e_spec_l01Same a b) (T_spec_l01Same_nat (o_spec_l01Same a b) rfl a b (fun c0_ => some c0_))) (fin_out (o := (o_spec_l01Same a b)) (x := F_spec_l01Same a b) (d := default) (V := fun r => ((AV.v (TV.one (At.bool r))), [])) (fun r => rfl) hp)
  · cases hp)
noncomputable def s_impl_SameNumber : List PT → Option (Bool × AV × List Blk)
  | [.one (.s (.flt .f32 a)), .one (.s (.flt .f32 b))] => some ((impl_SameNumber_p a b), ((AV.v (TV.one (At.bool (impl_SameNumber_v0 a b)))), []))
  | _ => none
def o_impl_SameNumber (a : Nat) (b : Nat) : Option (Bool) → Option (AV × List Blk)
  | some r => some ((AV.v (TV.one (At.bool r))), [])
  | none => none
theorem e_impl_SameNumber (a : Nat) (b : Nat) : evFn Γ1 8 8 101 (impTs 0 [.one (.s (.flt .f32 a)), .one (.s (.flt .f32 b))]).1 (impTs 0 [.one (.s (.flt .f32 a)), .one (.s (.flt .f32 b))]).2 (expo (impTs 0 [.one (.s (.flt .f32 a)), .one (.s (.flt .f32 b))]).2.length) = T_impl_SameNumber a b (fun c0_ => some ((AV.v (TV.one (At.bool c0_))), [])) := by kernel_rfl
theorem s_impl_SameNumber_ok : SumOne Try.prog 101 s_impl_SameNumber := sum_of (Γ := Γ1) (fuel := 8) (d := 8) tyTab_ok (FnL.ok fnTab_ok _ _) (LpL.ok lt1_ok) (SumL.ok tb1_ok _) mixed (by
  intro pts v news hp hc
  clear hc
  unfold s_impl_SameNumber at hp
  split at hp
  · rename_i a b
    exact Eq.trans (Eq.trans (e_impl_SameNumber a b) (T_impl_SameNumber_nat (o_impl_SameNumber a b) rfl a b (fun c0_ => some c0_))) (fin_out (o := (o_impl_SameNumber a b)) (x := F_impl_SameNumber a b) (d := default) (V := fun r => ((AV.v (TV.one (At.bool r))), [])) (fun r => rfl) hp)
  · cases hp)
noncomputable def l_laws_toFloat32S_l3 : Nat → St → Option (Bool × LO)
  | 1, (St.mk [(0, (AV.v (TV.one (At.vw 0 0 an 1)))), (3, (AV.v (TV.one (At.sl 1 0 outn 1)))), (4, (AV.v (TV.one (At.int IntKind.i64 i))))] [(Blk.mk Bool.false (Body.fl FloatKind.f32 b0)), (Blk.mk Bool.true (Body.fl FloatKind.f32 b1))]) => some ((laws_toFloat32S_l3_p an outn b0 i b1), (LO.one (Ex.exit 0) (St.mk [(0, (AV.v (TV.one (At.vw 0 0 an 1)))), (3, (AV.v (TV.one (At.sl 1 0 outn 1)))), (4, (AV.v (TV.one (At.int IntKind.i64 (laws_toFloat32S_l3_a0_0 an outn b0 i b1))))), (11, (AV.v (TV.one (At.bool (laws_toFloat32S_l3_a0_1 an outn b0 i b1)))))] [(Blk.mk Bool.false (Body.fl FloatKind.f32 b0)), (Blk.mk Bool.true (Body.fl FloatKind.f32 (laws_toFloat32S_l3_a0_2 an outn b0 i b1)))])))
  | _, _ => none
def o_laws_toFloat32S_l3 (an : Nat) (outn : Nat) (b0 : List Nat) : Option ((Int × Bool × (List Nat))) → Option (Ex × St)
  | none => none
  | some r => some ((Ex.exit 0), (St.mk [(0, (AV.v (TV.one (At.vw 0 0 an 1)))), (3, (AV.v (TV.one (At.sl 1 0 outn 1)))), (4, (AV.v (TV.one (At.int IntKind.i64 r.1)))), (11, (AV.v (TV.one (At.bool r.2.1))))] [(Blk.mk Bool.false (Body.fl FloatKind.f32 b0)), (Blk.mk Bool.true (Body.fl FloatKind.f32 r.2.2))]))
def lo_laws_toFloat32S_l3 (an : Nat) (outn : Nat) (b0 : List Nat) (x : Option ((Int × Bool × (List Nat)))) : LO := (LO.one (Ex.exit 0) (St.mk [(0, (AV.v (TV.one (At.vw 0 0 an 1)))), (3, (AV.v (TV.one (At.sl 1 0 outn 1)))), (4, (AV.v (TV.one (At.int IntKind.i64 (x.getD default).1)))), (11, (AV.v (TV.one (At.bool (x.getD default).2.1))))] [(Blk.mk Bool.false (Body.fl FloatKind.f32 b0)), (Blk.mk Bool.true (Body.fl FloatKind.f32 (x.getD default).2.2))]))
theorem f_laws_toFloat32S_l3 (an : Nat) (outn : Nat) (b0 : List Nat) : ∀ x : Option ((Int × Bool × (List Nat))), x.isSome = true → (o_laws_toFloat32S_l3 an outn b0) x = some (pick (lo_laws_toFloat32S_l3 an outn b0 x))
  | none, h => by cases h
  | some r, _ => rfl
theorem r_laws_toFloat32S_l3 (an : Nat) (outn : Nat) (i : Int) (b0 : List Nat) (b1 : List Nat) (K : Ex → St → Option (Ex × St)) : evC (R := Ex × St) Γ1 (evFn Γ1 8 8) 24 1 fi24.nt fi24.live fi24.nl 8 (findL 3 (loopsIn fi24.code)) (St.mk [(0, (AV.v (TV.one (At.vw 0 0 an 1)))), (3, (AV.v (TV.one (At.sl 1 0 outn 1)))), (4, (AV.v (TV.one (At.int IntKind.i64 i))))] [(Blk.mk Bool.false (Body.fl FloatKind.f32 b0)), (Blk.mk Bool.true (Body.fl FloatKind.f32 b1))]) K = T_laws_toFloat32S_l3 an outn b0 i b1 (fun i' b1' => K .normal (St.mk [(0, (AV.v (TV.one (At.vw 0 0 an 1)))), (3, (AV.v (TV.one (At.sl 1 0 outn 1)))), (4, (AV.v (TV.one (At.int IntKind.i64 i'))))] [(Blk.mk Bool.false (Body.fl FloatKind.f32 b0)), (Blk.mk Bool.true (Body.fl FloatKind.f32 b1'))])) (fun c0_ c1_ c2_ => K (Ex.exit 0) (St.mk [(0, (AV.v (TV.one (At.vw 0 0 an 1)))), (3, (AV.v (TV.one (At.sl 1 0 outn 1)))), (4, (AV.v (TV.one (At.int IntKind.i64 c0_)))), (11, (AV.v (TV.one (At.bool c1_))))] [(Blk.mk Bool.false (Body.fl FloatKind.f32 b0)), (Blk.mk Bool.true (Body.fl FloatKind.f32 c2_))])) := by kernel_rfl
theorem i_laws_toFloat32S_l3 (an : Nat) (outn : Nat) (b0 : List Nat) : ∀ (n : Nat) (i : Int) (b1 : List Nat), iter 24 3 1 (evC (R := Ex × St) Γ1 (evFn Γ1 8 8) 24 1 fi24.nt fi24.live fi24.nl 8 (findL 3 (loopsIn fi24.code))) n (St.mk [(0, (AV.v (TV.one (At.vw 0 0 an 1)))), (3, (AV.v (TV.one (At.sl 1 0 outn 1)))), (4, (AV.v (TV.one (At.int IntKind.i64 i))))] [(Blk.mk Bool.false (Body.fl FloatKind.f32 b0)), (Blk.mk Bool.true (Body.fl FloatKind.f32 b1))]) (fun e st => some (e, st)) = (o_laws_toFloat32S_l3 an outn b0) (L_laws_toFloat32S_l3 an outn b0 n i b1) := by
  intro n
  induction n with
  | zero => intros; rfl
  | succ n ih =>
    intro i b1
    refine Eq.trans (iter_succ ..) (Eq.trans (r_laws_toFloat32S_l3 an outn i b0 b1 (nextK 24 3 1 (evC (R := Ex × St) Γ1 (evFn Γ1 8 8) 24 1 fi24.nt fi24.live fi24.nl 8 (findL 3 (loopsIn fi24.code))) n (fun e st => some (e, st)))) (Eq.trans ?_ (T_laws_toFloat32S_l3_nat (o_laws_toFloat32S_l3 an outn b0) rfl an outn b0 i b1 (fun i' b1' => L_laws_toFloat32S_l3 an outn b0 n i' b1') (fun c0_ c1_ c2_ => some (c0_, c1_, c2_)))))
    exact congrArg (fun kn_ => T_laws_toFloat32S_l3 an outn b0 i b1 kn_ (fun c0_ c1_ c2_ => (o_laws_toFloat32S_l3 an outn b0) (some (c0_, c1_, c2_)))) (funext fun i' => funext fun b1' => ih i' b1')
theorem l_laws_toFloat32S_l3_ok : LoopOne Try.prog fnTab 24 3 l_laws_toFloat32S_l3 := lp_of (Γ := Γ1) tyTab_ok (FnL.ok fnTab_ok _ _) (LpL.ok lt1_ok) (SumL.ok tb1_ok _) mixed (fi := fi24) (by kernel_rfl) (by kernel_rfl) (by
  intro lo st out hp
  unfold l_laws_toFloat32S_l3 at hp
  split at hp
  · rename_i an outn i b0 b1
    injection hp with hp
    injection hp with h1 h2
    subst h2
    exact ⟨8, 8, big, Eq.trans (i_laws_toFloat32S_l3 an outn b0 big i b1) (f_laws_toFloat32S_l3 an outn b0 (L_laws_toFloat32S_l3 an outn b0 big i b1) h1)⟩
  · cases hp)
noncomputable def tb2 : List (Nat × (List PT → Option (Bool × AV × List Blk))) := [(109, s_math_Float32bits), (118, s_math_archFloor), (125, s_math_Float64frombits), (133, s_math_Float64bits), (139, s_math_archTrunc), (26, s_laws_sameFloat), (72, s_laws_szFloat32S), (85, s_spec_l01Bits), (120, s_math_Signbit), (32, s_laws_szRose), (46, s_spec_l01Same), (101, s_impl_SameNumber)]
noncomputable def lt2 : List ((Nat × Nat) × (Nat → St → Option (Bool × LO))) := [((24, 3), l_laws_toFloat32S_l3)]
noncomputable def Γ2 : Ctx := ⟨tyTab, fnTab, tblSum tb2, tblLp lt2⟩
theorem tb2_ok : SumL Try.prog tb2 := SumL.cons s_math_Float32bits_ok (SumL.cons s_math_archFloor_ok (SumL.cons s_math_Float64frombits_ok (SumL.cons s_math_Float64bits_ok (SumL.cons s_math_archTrunc_ok (SumL.cons s_laws_sameFloat_ok (SumL.cons s_laws_szFloat32S_ok (SumL.cons s_spec_l01Bits_ok (SumL.cons s_math_Signbit_ok (SumL.cons s_laws_szRose_ok (SumL.cons s_spec_l01Same_ok (SumL.cons s_impl_SameNumber_ok (SumL.nil))))))))))))
theorem lt2_ok : LpL Try.prog fnTab lt2 := LpL.cons l_laws_toFloat32S_l3_ok (LpL.nil)
noncomputable def s_laws_toFloat32S : List PT → Option (Bool × AV × List Blk)
  | [.one (.row 1 a_n (.fl .f32 a))] => some ((laws_toFloat32S_p a_n a), ((AV.v (TV.one (At.sl 0 0 (laws_toFloat32S_v0 a_n a) 1))), [(Blk.mk Bool.true (Body.fl FloatKind.f32 (laws_toFloat32S_v1 a_n a)))]))
  | _ => none
def o_laws_toFloat32S (a_n : Nat) (a : List Nat) : Option (Nat × (List Nat)) → Option (AV × List Blk)
  | some r => some ((AV.v (TV.one (At.sl 0 0 r.1 1))), [(Blk.mk Bool.true (Body.fl FloatKind.f32 r.2))])
  | none => none
theorem e_laws_toFloat32S (a_n : Nat) (a : List Nat) : evFn Γ2 8 8 24 (impTs 0 [.one (.row 1 a_n (.fl .f32 a))]).1 (impTs 0 [.one (.row 1 a_n (.fl .f32 a))]).2 (expo (impTs 0 [.one (.row 1 a_n (.fl .f32 a))]).2.length) = T_laws_toFloat32S a_n a (fun c0_ c1_ => some ((AV.v (TV.one (At.sl 0 0 c0_ 1))), [(Blk.mk Bool.true (Body.fl FloatKind.f32 c1_))])) := by kernel_rfl
theorem s_laws_toFloat32S_ok : SumOne Try.prog 24 s_laws_toFloat32S := sum_of (Γ := Γ2) (fuel := 8) (d := 8) tyTab_ok (FnL.ok fnTab_ok _ _) (LpL.ok lt2_ok) (SumL.ok tb2_ok _) mixed (by
  intro pts v news hp hc
  clear hc
  unfold s_laws_toFloat32S at hp
  split at hp
  · rename_i a_n a
    exact Eq.trans (Eq.trans (e_laws_toFloat32S a_n a) (T_laws_toFloat32S_nat (o_laws_toFloat32S a_n a) rfl a_n a (fun c0_ c1_ => some (c0_, c1_)))) (fin_out (o := (o_laws_toFloat32S a_n a)) (x := F_laws_toFloat32S a_n a) (d := default) (V := fun r => ((AV.v (TV.one (At.sl 0 0 r.1 1))), [(Blk.mk Bool.true (Body.fl FloatKind.f32 r.2))])) (fun r => rfl) hp)
  · cases hp)
noncomputable def l_laws_eqFloat32S_l4 : Nat → St → Option (Bool × LO)
  | 2, (St.mk [(0, (AV.v (TV.one (At.vw 0 0 an 1)))), (1, (AV.v (TV.one (At.vw 1 0 bn 1)))), (5, (AV.v (TV.one (At.int IntKind.i64 i))))] [(Blk.mk Bool.false (Body.fl FloatKind.f32 b0)), (Blk.mk Bool.false (Body.fl FloatKind.f32 b1))]) => some ((laws_eqFloat32S_l4_p an bn b0 b1 i), (LO.two (laws_eqFloat32S_l4_w0 an bn b0 b1 i) (LO.one Ex.ret (St.mk [(4, (AV.v (TV.one (At.bool Bool.false))))] [(Blk.mk Bool.false (Body.fl FloatKind.f32 b0)), (Blk.mk Bool.false (Body.fl FloatKind.f32 b1))])) (LO.one (Ex.exit 0) (St.mk [(0, (AV.v (TV.one (At.vw 0 0 an 1)))), (1, (AV.v (TV.one (At.vw 1 0 bn 1)))), (5, (AV.v (TV.one (At.int IntKind.i64 (laws_eqFloat32S_l4_a1_0 an bn b0 b1 i))))), (14, (AV.v (TV.one (At.bool (laws_eqFloat32S_l4_a1_1 an bn b0 b1 i)))))] [(Blk.mk Bool.false (Body.fl FloatKind.f32 b0)), (Blk.mk Bool.false (Body.fl FloatKind.f32 b1))]))))
  | _, _ => none
def o_laws_eqFloat32S_l4 (an : Nat) (bn : Nat) (b0 : List Nat) (b1 : List Nat) : Option ((Unit) ⊕ (Int × Bool)) → Option (Ex × St)
  | none => none
  | some (Sum.inl r) => some (Ex.ret, (St.mk [(4, (AV.v (TV.one (At.bool Bool.false))))] [(Blk.mk Bool.false (Body.fl FloatKind.f32 b0)), (Blk.mk Bool.false (Body.fl FloatKind.f32 b1))]))
  | some (Sum.inr r) => some ((Ex.exit 0), (St.mk [(0, (AV.v (TV.one (At.vw 0 0 an 1)))), (1, (AV.v (TV.one (At.vw 1 0 bn 1)))), (5, (AV.v (TV.one (At.int IntKind.i64 r.1)))), (14, (AV.v (TV.one (At.bool r.2))))] [(Blk.mk Bool.false (Body.fl FloatKind.f32 b0)), (Blk.mk Bool.false (Body.fl FloatKind.f32 b1))]))
def lo_laws_eqFloat32S_l4 (an : Nat) (bn : Nat) (b0 : List Nat) (b1 : List Nat) (x : Option ((Unit) ⊕ (Int × Bool))) : LO := (LO.two (oL x) (LO.one Ex.ret (St.mk [(4, (AV.v (TV.one (At.bool Bool.false))))] [(Blk.mk Bool.false (Body.fl FloatKind.f32 b0)), (Blk.mk Bool.false (Body.fl FloatKind.f32 b1))])) (LO.one (Ex.exit 0) (St.mk [(0, (AV.v (TV.one (At.vw 0 0 an 1)))), (1, (AV.v (TV.one (At.vw 1 0 bn 1)))), (5, (AV.v (TV.one (At.int IntKind.i64 ((tR x).getD default).1)))), (14, (AV.v (TV.one (At.bool ((tR x).getD default).2))))] [(Blk.mk Bool.false (Body.fl FloatKind.f32 b0)), (Blk.mk Bool.false (Body.fl FloatKind.f32 b1))])))
theorem f_laws_eqFloat32S_l4 (an : Nat) (bn : Nat) (b0 : List Nat) (b1 : List Nat) : ∀ x : Option ((Unit) ⊕ (Int × Bool)), x.isSome = true → (o_laws_eqFloat32S_l4 an bn b0 b1) x = some (pick (lo_laws_eqFloat32S_l4 an bn b0 b1 x))
  | none, h => by cases h
  | some (Sum.inl r), _ => rfl
  | some (Sum.inr r), _ => rfl
theorem r_laws_eqFloat32S_l4 (an : Nat) (bn : Nat) (i : Int) (b0 : List Nat) (b1 : List Nat) (K : Ex → St → Option (Ex × St)) : evC (R := Ex × St) Γ2 (evFn Γ2 8 8) 27 2 fi27.nt fi27.live fi27.nl 8 (findL 4 (loopsIn fi27.code)) (St.mk [(0, (AV.v (TV.one (At.vw 0 0 an 1)))), (1, (AV.v (TV.one (At.vw 1 0 bn 1)))), (5, (AV.v (TV.one (At.int IntKind.i64 i))))] [(Blk.mk Bool.false (Body.fl FloatKind.f32 b0)), (Blk.mk Bool.false (Body.fl FloatKind.f32 b1))]) K = T_laws_eqFloat32S_l4 an bn b0 b1 i (fun i' => K .normal (St.mk [(0, (AV.v (TV.one (At.vw 0 0 an 1)))), (1, (AV.v (TV.one (At.vw 1 0 bn 1)))), (5, (AV.v (TV.one (At.int IntKind.i64 i'))))] [(Blk.mk Bool.false (Body.fl FloatKind.f32 b0)), (Blk.mk Bool.false (Body.fl FloatKind.f32 b1))])) (fun _ => K Ex.ret (St.mk [(4, (AV.v (TV.one (At.bool Bool.false))))] [(Blk.mk Bool.false (Body.fl FloatKind.f32 b0)), (Blk.mk Bool.false (Body.fl FloatKind.f32 b1))])) (fun c0_ c1_ => K (Ex.exit 0) (St.mk [(0, (AV.v (TV.one (At.vw 0 0 an 1)))), (1, (AV.v (TV.one (At.vw 1 0 bn 1)))), (5, (AV.v (TV.one (At.int IntKind.i64 c0_)))), (14, (AV.v (TV.one (At.bool c1_))))] [(Blk.mk Bool.false (Body.fl FloatKind.f32 b0)), (Blk.mk Bool.false (Body.fl FloatKind.f32 b1))])) := by kernel_rfl
theorem i_laws_eqFloat32S_l4 (an : Nat) (bn : Nat) (b0 : List Nat) (b1 : List Nat) : ∀ (n : Nat) (i : Int), iter 27 4 2 (evC (R := Ex × St) Γ2 (evFn Γ2 8 8) 27 2 fi27.nt fi27.live fi27.nl 8 (findL 4 (loopsIn fi27.code))) n (St.mk [(0, (AV.v (TV.one (At.vw 0 0 an 1)))), (1, (AV.v (TV.one (At.vw 1 0 bn 1)))), (5, (AV.v (TV.one (At.int IntKind.i64 i))))] [(Blk.mk Bool.false (Body.fl FloatKind.f32 b0)), (Blk.mk Bool.false (Body.fl FloatKind.f32 b1))]) (fun e st => some (e, st)) = (o_laws_eqFloat32S_l4 an bn b0 b1) (L_laws_eqFloat32S_l4 an bn b0 b1 n i) := by
  intro n
  induction n with
  | zero => intros; rfl
  | succ n ih =>
    intro i
    refine Eq.trans (iter_succ ..) (Eq.trans (r_laws_eqFloat32S_l4 an bn i b0 b1 (nextK 27 4 2 (evC (R := Ex × St) Γ2 (evFn Γ2 8 8) 27 2 fi27.nt fi27.live fi27.nl 8 (findL 4 (loopsIn fi27.code))) n (fun e st => some (e, st)))) (Eq.trans ?_ (T_laws_eqFloat32S_l4_nat (o_laws_eqFloat32S_l4 an bn b0 b1) rfl an bn b0 b1 i (fun i' => L_laws_eqFloat32S_l4 an bn b0 b1 n i') (fun _ => some (Sum.inl ())) (fun c0_ c1_ => some (Sum.inr (c0_, c1_))))))
    exact congrArg (fun kn_ => T_laws_eqFloat32S_l4 an bn b0 b1 i kn_ (fun _ => (o_laws_eqFloat32S_l4 an bn b0 b1) (some (Sum.inl ()))) (fun c0_ c1_ => (o_laws_eqFloat32S_l4 an bn b0 b1) (some (Sum.inr (c0_, c1_))))) (funext fun i' => ih i')
theorem l_laws_eqFloat32S_l4_ok : LoopOne Try.prog fnTab 27 4 l_laws_eqFloat32S_l4 := lp_of (Γ := Γ2) tyTab_ok (FnL.ok fnTab_ok _ _) (LpL.ok lt2_ok) (SumL.ok tb2_ok _) mixed (fi := fi27) (by kernel_rfl) (by kernel_rfl) (by
  intro lo st out hp
  unfold l_laws_eqFloat32S_l4 at hp
  split at hp
  · rename_i an bn i b0 b1
    injection hp with hp
    injection hp with h1 h2
    subst h2
    exact ⟨8, 8, big, Eq.trans (i_laws_eqFloat32S_l4 an bn b0 b1 big i) (f_laws_eqFloat32S_l4 an bn b0 b1 (L_laws_eqFloat32S_l4 an bn b0 b1 big i) h1)⟩
  · cases hp)
noncomputable def tb3 : List (Nat × (List PT → Option (Bool × AV × List Blk))) := [(109, s_math_Float32bits), (118, s_math_archFloor), (125, s_math_Float64frombits), (133, s_math_Float64bits), (139, s_math_archTrunc), (26, s_laws_sameFloat), (72, s_laws_szFloat32S), (85, s_spec_l01Bits), (120, s_math_Signbit), (32, s_laws_szRose), (46, s_spec_l01Same), (101, s_impl_SameNumber), (24, s_laws_toFloat32S)]
noncomputable def lt3 : List ((Nat × Nat) × (Nat → St → Option (Bool × LO))) := [((24, 3), l_laws_toFloat32S_l3), ((27, 4), l_laws_eqFloat32S_l4)]
noncomputable def Γ3 : Ctx := ⟨tyTab, fnTab, tblSum tb3, tblLp lt3⟩
theorem tb3_ok : SumL Try.prog tb3 := SumL.cons s_math_Float32bits_ok (SumL.cons s_math_archFloor_ok (SumL.cons s_math_Float64frombits_ok (SumL.cons s_math_Float64bits_ok (SumL.cons s_math_archTrunc_ok (SumL.cons s_laws_sameFloat_ok (SumL.cons s_laws_szFloat32S_ok (SumL.cons s_spec_l01Bits_ok (SumL.cons s_math_Signbit_ok (SumL.cons s_laws_szRose_ok (SumL.cons s_spec_l01Same_ok (SumL.cons s_impl_SameNumber_ok (SumL.cons s_laws_toFloat32S_ok (SumL.nil)))))))))))))
theorem lt3_ok : LpL Try.prog fnTab lt3 := LpL.cons l_laws_toFloat32S_l3_ok (LpL.cons l_laws_eqFloat32S_l4_ok (LpL.nil))
noncomputable def s_laws_eqFloat32S : List PT → Option (Bool × AV × List Blk)
  | [.one (.row 1 a_n (.fl .f32 a)), .one (.row 1 b_n (.fl .f32 b))] => some ((laws_eqFloat32S_p a_n a b_n b), ((AV.v (TV.one (At.bool (laws_eqFloat32S_v0 a_n a b_n b)))), []))
  | _ => none
def o_laws_eqFloat32S (a_n : Nat) (a : List Nat) (b_n : Nat) (b : List Nat) : Option (Bool) → Option (AV × List Blk)
  | some r => some ((AV.v (TV.one (At.bool r))), [])
  | none => none
theorem e_laws_eqFloat32S (a_n : Nat) (a : List Nat) (b_n : Nat) (b : List Nat) : evFn Γ3 8 8 27 (impTs 0 [.one (.row 1 a_n (.fl .f32 a)), .one (.row 1 b_n (.fl .f32 b))]).1 (impTs 0 [.one (.row 1 a_n (.fl .f32 a)), .one (.row 1 b_n (.fl .f32 b))]).2 (expo (impTs 0 [.one (.row 1 a_n (.fl .f32 a)), .one (.row 1 b_n (.fl .f32 b))]).2.length) = T_laws_eqFloat32S a_n a b_n b (fun c0_ => some ((AV.v (TV.one (At.bool c0_))), [])) := by kernel_rfl
theorem s_laws_eqFloat32S_ok : SumOne Try.prog 27 s_laws_eqFloat32S := sum_of (Γ := Γ3) (fuel := 8) (d := 8) tyTab_ok (FnL.ok fnTab_ok _ _) (LpL.ok lt3_ok) (SumL.ok tb3_ok _) mixed (by
  intro pts v news hp hc
  clear hc
  unfold s_laws_eqFloat32S at hp
  split at hp
  · rename_i a_n a b_n b
    exact Eq.trans (Eq.trans (e_laws_eqFloat32S a_n a b_n b) (T_laws_eqFloat32S_nat (o_laws_eqFloat32S a_n a b_n b) rfl a_n a b_n b (fun c0_ => some c0_))) (fin_out (o := (o_laws_eqFloat32S a_n a b_n b)) (x := F_laws_eqFloat32S a_n a b_n b) (d := default) (V := fun r => ((AV.v (TV.one (At.bool r))), [])) (fun r => rfl) hp)
  · cases hp)
noncomputable def s_laws_toRose : List PT → Option (Bool × AV × List Blk)
  | [.agg [.row 1 a_Shares_n (.fl .f32 a_Shares), .row 1 a_Speeds_n (.fl .f32 a_Speeds)]] => some ((laws_toRose_p a_Shares_n a_Shares a_Speeds_n a_Speeds), ((AV.v (TV.agg [(At.sl 0 0 (laws_toRose_v0 a_Shares_n a_Shares a_Speeds_n a_Speeds) 1), (At.sl 1 0 (laws_toRose_v1 a_Shares_n a_Shares a_Speeds_n a_Speeds) 1)])), [(Blk.mk Bool.true (Body.fl FloatKind.f32 (laws_toRose_v2 a_Shares_n a_Shares a_Speeds_n a_Speeds))), (Blk.mk Bool.true (Body.fl FloatKind.f32 (laws_toRose_v3 a_Shares_n a_Shares a_Speeds_n a_Speeds)))]))
  | _ => none
def o_laws_toRose (a_Shares_n : Nat) (a_Shares : List Nat) (a_Speeds_n : Nat) (a_Speeds : List Nat) : Option (Nat × Nat × (List Nat) × (List Nat)) → Option (AV × List Blk)
  | some r => some ((AV.v (TV.agg [(At.sl 0 0 r.1 1), (At.sl 1 0 r.2.1 1)])), [(Blk.mk Bool.true (Body.fl FloatKind.f32 r.2.2.1)), (Blk.mk Bool.true (Body.fl FloatKind.f32 r.2.2.2))])
  | none => none
theorem e_laws_toRose (a_Shares_n : Nat) (a_Shares : List Nat) (a_Speeds_n : Nat) (a_Speeds : List Nat) : evFn Γ3 8 8 34 (impTs 0 [.agg [.row 1 a_Shares_n (.fl .f32 a_Shares), .row 1 a_Speeds_n (.fl .f32 a_Speeds)]]).1 (impTs 0 [.agg [.row 1 a_Shares_n (.fl .f32 a_Shares), .row 1 a_Speeds_n (.fl .f32 a_Speeds)]]).2 (expo (impTs 0 [.agg [.row 1 a_Shares_n (.fl .f32 a_Shares), .row 1 a_Speeds_n (.fl .f32 a_Speeds)]]).2.length) = T_laws_toRose a_Shares_n a_Shares a_Speeds_n a_Speeds (fun c0_ c1_ c2_ c3_ => some ((AV.v (TV.agg [(At.sl 0 0 c0_ 1), (At.sl 1 0 c1_ 1)])), [(Blk.mk Bool.true (Body.fl FloatKind.f32 c2_)), (Blk.mk Bool.true (Body.fl FloatKind.f32 c3_))])) := by kernel_rfl
theorem s_laws_toRose_ok : SumOne Try.prog 34 s_laws_toRose := sum_of (Γ := Γ3) (fuel := 8) (d := 8) tyTab_ok (FnL.ok fnTab_ok _ _) (LpL.ok lt3_ok) (SumL.ok tb3_ok _) mixed (by
  intro pts v news hp hc
  clear hc
  unfold s_laws_toRose at hp
  split at hp
  · rename_i a_Shares_n a_Shares a_Speeds_n a_Speeds
    exact Eq.trans (Eq.trans (e_laws_toRose a_Shares_n a_Shares a_Speeds_n a_Speeds) (T_laws_toRose_nat (o_laws_toRose a_Shares_n a_Shares a_Speeds_n a_Speeds) rfl a_Shares_n a_Shares a_Speeds_n a_Speeds (fun c0_ c1_ c2_ c3_ => some (c0_, c1_, c2_, c3_)))) (fin_out (o := (o_laws_toRose a_Shares_n a_Shares a_Speeds_n a_Speeds)) (x := F_laws_toRose a_Shares_n a_Shares a_Speeds_n a_Speeds) (d := default) (V := fun r => ((AV.v (TV.agg [(At.sl 0 0 r.1 1), (At.sl 1 0 r.2.1 1)])), [(Blk.mk Bool.true (Body.fl FloatKind.f32 r.2.2.1)), (Blk.mk Bool.true (Body.fl FloatKind.f32 r.2.2.2))])) (fun r => rfl) hp)
  · cases hp)
noncomputable def l_spec_l01SameAll_l4 : Nat → St → Option (Bool × LO)
  | 2, (St.mk [(0, (AV.v (TV.one (At.vw 0 0 an 1)))), (1, (AV.v (TV.one (At.vw 1 0 bn 1)))), (5, (AV.v (TV.one (At.int IntKind.i64 i))))] [(Blk.mk Bool.false (Body.fl FloatKind.f32 b0)), (Blk.mk Bool.false (Body.fl FloatKind.f32 b1))]) => some ((spec_l01SameAll_l4_p an bn b0 b1 i), (LO.two (spec_l01SameAll_l4_w0 an bn b0 b1 i) (LO.one Ex.ret (St.mk [(4, (AV.v (TV.one (At.bool Bool.false))))] [(Blk.mk Bool.false (Body.fl FloatKind.f32 b0)), (Blk.mk Bool.false (Body.fl FloatKind.f32 b1))])) (LO.one (Ex.exit 0) (St.mk [(0, (AV.v (TV.one (At.vw 0 0 an 1)))), (1, (AV.v (TV.one (At.vw 1 0 bn 1)))), (5, (AV.v (TV.one (At.int IntKind.i64 (spec_l01SameAll_l4_a1_0 an bn b0 b1 i))))), (14, (AV.v (TV.one (At.bool (spec_l01SameAll_l4_a1_1 an bn b0 b1 i)))))] [(Blk.mk Bool.false (Body.fl FloatKind.f32 b0)), (Blk.mk Bool.false (Body.fl FloatKind.f32 b1))]))))
  | _, _ => none
def o_spec_l01SameAll_l4 (an : Nat) (bn : Nat) (b0 : List Nat) (b1 : List Nat) : Option ((Unit) ⊕ (Int × Bool)) → Option (Ex × St)
  | none => none
  | some (Sum.inl r) => some (Ex.ret, (St.mk [(4, (AV.v (TV.one (At.bool Bool.false))))] [(Blk.mk Bool.false (Body.fl FloatKind.f32 b0)), (Blk.mk Bool.false (Body.fl FloatKind.f32 b1))]))
  | some (Sum.inr r) => some ((Ex.exit 0), (St.mk [(0, (AV.v (TV.one (At.vw 0 0 an 1)))), (1, (AV.v (TV.one (At.vw 1 0 bn 1)))), (5, (AV.v (TV.one (At.int IntKind.i64 r.1)))), (14, (AV.v (TV.one (At.bool r.2))))] [(Blk.mk Bool.false (Body.fl FloatKind.f32 b0)), (Blk.mk Bool.false (Body.fl FloatKind.f32 b1))]))
def lo_spec_l01SameAll_l4 (an : Nat) (bn : Nat) (b0 : List Nat) (b1 : List Nat) (x : Option ((Unit) ⊕ (Int × Bool))) : LO := (LO.two (oL x) (LO.one Ex.ret (St.mk [(4, (AV.v (TV.one (At.bool Bool.false))))] [(Blk.mk Bool.false (Body.fl FloatKind.f32 b0)), (Blk.mk Bool.false (Body.fl FloatKind.f32 b1))])) (LO.one (Ex.exit 0) (St.mk [(0, (AV.v (TV.one (At.vw 0 0 an 1)))), (1, (AV.v (TV.one (At.vw 1 0 bn 1)))), (5, (AV.v (TV.one (At.int IntKind.i64 ((tR x).getD default).1)))), (14, (AV.v (TV.one (At.bool ((tR x).getD default).2))))] [(Blk.mk Bool.false (Body.fl FloatKind.f32 b0)), (Blk.mk Bool.false (Body.fl FloatKind.f32 b1))])))
theorem f_spec_l01SameAll_l4 (an : Nat) (bn : Nat) (b0 : List Nat) (b1 : List Nat) : ∀ x : Option ((Unit) ⊕ (Int × Bool)), x.isSome = true → (o_spec_l01SameAll_l4 an bn b0 b1) x = some (pick (lo_spec_l01SameAll_l4 an bn b0 b1 x))
  | none, h => by cases h
  | some (Sum.inl r), _ => rfl
  | some (Sum.inr r), _ => rfl
theorem r_spec_l01SameAll_l4 (an : Nat) (bn : Nat) (i : Int) (b0 : List Nat) (b1 : List Nat) (K : Ex → St → Option (Ex × St)) : evC (R := Ex × St) Γ3 (evFn Γ3 8 8) 73 2 fi73.nt fi73.live fi73.nl 8 (findL 4 (loopsIn fi73.code)) (St.mk [(0, (AV.v (TV.one (At.vw 0 0 an 1)))), (1, (AV.v (TV.one (At.vw 1 0 bn 1)))), (5, (AV.v (TV.one (At.int IntKind.i64 i))))] [(Blk.mk Bool.false (Body.fl FloatKind.f32 b0)), (Blk.mk Bool.false (Body.fl FloatKind.f32 b1))]) K = T_spec_l01SameAll_l4 an bn b0 b1 i (fun i' => K .normal (St.mk [(0, (AV.v (TV.one (At.vw 0 0 an 1)))), (1, (AV.v (TV.one (At.vw 1 0 bn 1)))), (5, (AV.v (TV.one (At.int IntKind.i64 i'))))] [(Blk.mk Bool.false (Body.fl FloatKind.f32 b0)), (Blk.mk Bool.false (Body.fl FloatKind.f32 b1))])) (fun _ => K Ex.ret (St.mk [(4, (AV.v (TV.one (At.bool Bool.false))))] [(Blk.mk Bool.false (Body.fl FloatKind.f32 b0)), (Blk.mk Bool.false (Body.fl FloatKind.f32 b1))])) (fun c0_ c1_ => K (Ex.exit 0) (St.mk [(0, (AV.v (TV.one (At.vw 0 0 an 1)))), (1, (AV.v (TV.one (At.vw 1 0 bn 1)))), (5, (AV.v (TV.one (At.int IntKind.i64 c0_)))), (14, (AV.v (TV.one (At.bool c1_))))] [(Blk.mk Bool.false (Body.fl FloatKind.f32 b0)), (Blk.mk Bool.false (Body.fl FloatKind.f32 b1))])) := by kernel_rfl
theorem i_spec_l01SameAll_l4 (an : Nat) (bn : Nat) (b0 : List Nat) (b1 : List Nat) : ∀ (n : Nat) (i : Int), iter 73 4 2 (evC (R := Ex × St) Γ3 (evFn Γ3 8 8) 73 2 fi73.nt fi73.live fi73.nl 8 (findL 4 (loopsIn fi73.code))) n (St.mk [(0, (AV.v (TV.one (At.vw 0 0 an 1)))), (1, (AV.v (TV.one (At.vw 1 0 bn 1)))), (5, (AV.v (TV.one (At.int IntKind.i64 i))))] [(Blk.mk Bool.false (Body.fl FloatKind.f32 b0)), (Blk.mk Bool.false (Body.fl FloatKind.f32 b1))]) (fun e st => some (e, st)) = (o_spec_l01SameAll_l4 an bn b0 b1) (L_spec_l01SameAll_l4 an bn b0 b1 n i) := by
  intro n
  induction n with
  | zero => intros; rfl
  | succ n ih =>
    intro i
    refine Eq.trans (iter_succ ..) (Eq.trans (r_spec_l01SameAll_l4 an bn i b0 b1 (nextK 73 4 2 (evC (R := Ex × St) Γ3 (evFn Γ3 8 8) 73 2 fi73.nt fi73.live fi73.nl 8 (findL 4 (loopsIn fi73.code))) n (fun e st => some (e, st)))) (Eq.trans ?_ (T_spec_l01SameAll_l4_nat (o_spec_l01SameAll_l4 an bn b0 b1) rfl an bn b0 b1 i (fun i' => L_spec_l01SameAll_l4 an bn b0 b1 n i') (fun _ => some (Sum.inl ())) (fun c0_ c1_ => some (Sum.inr (c0_, c1_))))))
    exact congrArg (fun kn_ => T_spec_l01SameAll_l4 an bn b0 b1 i kn_ (fun _ => (o_spec_l01SameAll_l4 an bn b0 b1) (some (Sum.inl ()))) (fun c0_ c1_ => (o_spec_l01SameAll_l4 an bn b0 b1) (some (Sum.inr (c0_, c1_))))) (funext fun i' => ih i')
theorem l_spec_l01SameAll_l4_ok : LoopOne Try.prog fnTab 73 4 l_spec_l01SameAll_l4 := lp_of (Γ := Γ3) tyTab_ok (FnL.ok fnTab_ok _ _) (LpL.ok lt3_ok) (SumL.ok tb3_ok _) mixed (fi := fi73) (by kernel_rfl) (by kernel_rfl) (by
  intro lo st out hp
  unfold l_spec_l01SameAll_l4 at hp
  split at hp
  · rename_i an bn i b0 b1
    injection hp with hp
    injection hp with h1 h2
    subst h2
    exact ⟨8, 8, big, Eq.trans (i_spec_l01SameAll_l4 an bn b0 b1 big i) (f_spec_l01SameAll_l4 an bn b0 b1 (L_spec_l01SameAll_l4 an bn b0 b1 big i) h1)⟩
  · cases hp)
noncomputable def l_slices_EqualFunc_sf32_sf32_f32_f32_SameNumber_l4 : Nat → St → Option (Bool × LO)
  | 2, (St.mk [(1, (AV.v (TV.one (At.vw 1 0 s2n 1)))), (2, (AV.v (TV.one (At.fn 101 [])))), (15, (AV.v (TV.one (At.vw 0 0 t15n 1)))), (16, (AV.v (TV.one (At.int IntKind.i64 t16)))), (17, (AV.v (TV.one (At.int IntKind.i64 t17))))] [(Blk.mk Bool.false (Body.fl FloatKind.f32 b0)), (Blk.mk Bool.false (Body.fl FloatKind.f32 b1))]) => some ((slices_EqualFunc_sf32_sf32_f32_f32_SameNumber_l4_p s2n t15n t16 b0 b1 t17), (LO.two (slices_EqualFunc_sf32_sf32_f32_f32_SameNumber_l4_w0 s2n t15n t16 b0 b1 t17) (LO.one Ex.ret (St.mk [(6, (AV.v (TV.one (At.bool Bool.false))))] [(Blk.mk Bool.false (Body.fl FloatKind.f32 b0)), (Blk.mk Bool.false (Body.fl FloatKind.f32 b1))])) (LO.one (Ex.exit 0) (St.mk [(1, (AV.v (TV.one (At.vw 1 0 s2n 1)))), (2, (AV.v (TV.one (At.fn 101 [])))), (15, (AV.v (TV.one (At.vw 0 0 t15n 1)))), (16, (AV.v (TV.one (At.int IntKind.i64 t16)))), (17, (AV.v (TV.one (At.int IntKind.i64 (slices_EqualFunc_sf32_sf32_f32_f32_SameNumber_l4_a1_0 s2n t15n t16 b0 b1 t17))))), (18, (AV.v (TV.one (At.bool (slices_EqualFunc_sf32_sf32_f32_f32_SameNumber_l4_a1_1 s2n t15n t16 b0 b1 t17)))))] [(Blk.mk Bool.false (Body.fl FloatKind.f32 b0)), (Blk.mk Bool.false (Body.fl FloatKind.f32 b1))]))))
  | _, _ => none
def o_slices_EqualFunc_sf32_sf32_f32_f32_SameNumber_l4 (s2n : Nat) (t15n : Nat) (t16 : Int) (b0 : List Nat) (b1 : List Nat) : Option ((Unit) ⊕ (Int × Bool)) → Option (Ex × St)
  | none => none
  | some (Sum.inl r) => some (Ex.ret, (St.mk [(6, (AV.v (TV.one (At.bool Bool.false))))] [(Blk.mk Bool.false (Body.fl FloatKind.f32 b0)), (Blk.mk Bool.false (Body.fl FloatKind.f32 b1))]))
  | some (Sum.inr r) => some ((Ex.exit 0), (St.mk [(1, (AV.v (TV.one (At.vw 1 0 s2n 1)))), (2, (AV.v (TV.one (At.fn 101 [])))), (15, (AV.v (TV.one (At.vw 0 0 t15n 1)))), (16, (AV.v (TV.one (At.int IntKind.i64 t16)))), (17, (AV.v (TV.one (At.int IntKind.i64 r.1)))), (18, (AV.v (TV.one (At.bool r.2))))] [(Blk.mk Bool.false (Body.fl FloatKind.f32 b0)), (Blk.mk Bool.false (Body.fl FloatKind.f32 b1))]))
def lo_slices_EqualFunc_sf32_sf32_f32_f32_SameNumber_l4 (s2n : Nat) (t15n : Nat) (t16 : Int) (b0 : List Nat) (b1 : List Nat) (x : Option ((Unit) ⊕ (Int × Bool))) : LO := (LO.two (oL x) (LO.one Ex.ret (St.mk [(6, (AV.v (TV.one (At.bool Bool.false))))] [(Blk.mk Bool.false (Body.fl FloatKind.f32 b0)), (Blk.mk Bool.false (Body.fl FloatKind.f32 b1))])) (LO.one (Ex.exit 0) (St.mk [(1, (AV.v (TV.one (At.vw 1 0 s2n 1)))), (2, (AV.v (TV.one (At.fn 101 [])))), (15, (AV.v (TV.one (At.vw 0 0 t15n 1)))), (16, (AV.v (TV.one (At.int IntKind.i64 t16)))), (17, (AV.v (TV.one (At.int IntKind.i64 ((tR x).getD default).1)))), (18, (AV.v (TV.one (At.bool ((tR x).getD default).2))))] [(Blk.mk Bool.false (Body.fl FloatKind.f32 b0)), (Blk.mk Bool.false (Body.fl FloatKind.f32 b1))])))
theorem f_slices_EqualFunc_sf32_sf32_f32_f32_SameNumber_l4 (s2n : Nat) (t15n : Nat) (t16 : Int) (b0 : List Nat) (b1 : List Nat) : ∀ x : Option ((Unit) ⊕ (Int × Bool)), x.isSome = true → (o_slices_EqualFunc_sf32_sf32_f32_f32_SameNumber_l4 s2n t15n t16 b0 b1) x = some (pick (lo_slices_EqualFunc_sf32_sf32_f32_f32_SameNumber_l4 s2n t15n t16 b0 b1 x))
  | none, h => by cases h
  | some (Sum.inl r), _ => rfl
  | some (Sum.inr r), _ => rfl
theorem r_slices_EqualFunc_sf32_sf32_f32_f32_SameNumber_l4 (s2n : Nat) (t15n : Nat) (t16 : Int) (t17 : Int) (b0 : List Nat) (b1 : List Nat) (K : Ex → St → Option (Ex × St)) : evC (R := Ex × St) Γ3 (evFn Γ3 8 8) 100 2 fi100.nt fi100.live fi100.nl 8 (findL 4 (loopsIn fi100.code)) (St.mk [(1, (AV.v (TV.one (At.vw 1 0 s2n 1)))), (2, (AV.v (TV.one (At.fn 101 [])))), (15, (AV.v (TV.one (At.vw 0 0 t15n 1)))), (16, (AV.v (TV.one (At.int IntKind.i64 t16)))), (17, (AV.v (TV.one (At.int IntKind.i64 t17))))] [(Blk.mk Bool.false (Body.fl FloatKind.f32 b0)), (Blk.mk Bool.false (Body.fl FloatKind.f32 b1))]) K = T_slices_EqualFunc_sf32_sf32_f32_f32_SameNumber_l4 s2n t15n t16 b0 b1 t17 (fun t17' => K .normal (St.mk [(1, (AV.v (TV.one (At.vw 1 0 s2n 1)))), (2, (AV.v (TV.one (At.fn 101 [])))), (15, (AV.v (TV.one (At.vw 0 0 t15n 1)))), (16, (AV.v (TV.one (At.int IntKind.i64 t16)))), (17, (AV.v (TV.one (At.int IntKind.i64 t17'))))] [(Blk.mk Bool.false (Body.fl FloatKind.f32 b0)), (Blk.mk Bool.false (Body.fl FloatKind.f32 b1))])) (fun _ => K Ex.ret (St.mk [(6, (AV.v (TV.one (At.bool Bool.false))))] [(Blk.mk Bool.false (Body.fl FloatKind.f32 b0)), (Blk.mk Bool.false (Body.fl FloatKind.f32 b1))])) (fun c0_ c1_ => K (Ex.exit 0) (St.mk [(1, (AV.v (TV.one (At.vw 1 0 s2n 1)))), (2, (AV.v (TV.one (At.fn 101 [])))), (15, (AV.v (TV.one (At.vw 0 0 t15n 1)))), (16, (AV.v (TV.one (At.int IntKind.i64 t16)))), (17, (AV.v (TV.one (At.int IntKind.i64 c0_)))), (18, (AV.v (TV.one (At.bool c1_))))] [(Blk.mk Bool.false (Body.fl FloatKind.f32 b0)), (Blk.mk Bool.false (Body.fl FloatKind.f32 b1))])) := by kernel_rfl
theorem i_slices_EqualFunc_sf32_sf32_f32_f32_SameNumber_l4 (s2n : Nat) (t15n : Nat) (t16 : Int) (b0 : List Nat) (b1 : List Nat) : ∀ (n : Nat) (t17 : Int), iter 100 4 2 (evC (R := Ex × St) Γ3 (evFn Γ3 8 8) 100 2 fi100.nt fi100.live fi100.nl 8 (findL 4 (loopsIn fi100.code))) n (St.mk [(1, (AV.v (TV.one (At.vw 1 0 s2n 1)))), (2, (AV.v (TV.one (At.fn 101 [])))), (15, (AV.v (TV.one (At.vw 0 0 t15n 1)))), (16, (AV.v (TV.one (At.int IntKind.i64 t16)))), (17, (AV.v (TV.one (At.int IntKind.i64 t17))))] [(Blk.mk Bool.false (Body.fl FloatKind.f32 b0)), (Blk.mk Bool.false (Body.fl FloatKind.f32 b1))]) (fun e st => some (e, st)) = (o_slices_EqualFunc_sf32_sf32_f32_f32_SameNumber_l4 s2n t15n t16 b0 b1) (L_slices_EqualFunc_sf32_sf32_f32_f32_SameNumber_l4 s2n t15n t16 b0 b1 n t17) := by
  intro n
  induction n with
  | zero => intros; rfl
  | succ n ih =>
    intro t17
    refine Eq.trans (iter_succ ..) (Eq.trans (r_slices_EqualFunc_sf32_sf32_f32_f32_SameNumber_l4 s2n t15n t16 t17 b0 b1 (nextK 100 4 2 (evC (R := Ex × St) Γ3 (evFn Γ3 8 8) 100 2 fi100.nt fi100.live fi100.nl 8 (findL 4 (loopsIn fi100.code))) n (fun e st => some (e, st)))) (Eq.trans ?_ (T_slices_EqualFunc_sf32_sf32_f32_f32_SameNumber_l4_nat (o_slices_EqualFunc_sf32_sf32_f32_f32_SameNumber_l4 s2n t15n t16 b0 b1) rfl s2n t15n t16 b0 b1 t17 (fun t17' => L_slices_EqualFunc_sf32_sf32_f32_f32_SameNumber_l4 s2n t15n t16 b0 b1 n t17') (fun _ => some (Sum.inl ())) (fun c0_ c1_ => some (Sum.inr (c0_, c1_))))))
    exact congrArg (fun kn_ => T_slices_EqualFunc_sf32_sf32_f32_f32_SameNumber_l4 s2n t15n t16 b0 b1 t17 kn_ (fun _ => (o_slices_EqualFunc_sf32_sf32_f32_f32_SameNumber_l4 s2n t15n t16 b0 b1) (some (Sum.inl ()))) (fun c0_ c1_ => (o_slices_EqualFunc_sf32_sf32_f32_f32_SameNumber_l4 s2n t15n t16 b0 b1) (some (Sum.inr (c0_, c1_))))) (funext fun t17' => ih t17')
theorem l_slices_EqualFunc_sf32_sf32_f32_f32_SameNumber_l4_ok : LoopOne Try.prog fnTab 100 4 l_slices_EqualFunc_sf32_sf32_f32_f32_SameNumber_l4 := lp_of (Γ := Γ3) tyTab_ok (FnL.ok fnTab_ok _ _) (LpL.ok lt3_ok) (SumL.ok tb3_ok _) mixed (fi := fi100) (by kernel_rfl) (by kernel_rfl) (by
  intro lo st out hp
  unfold l_slices_EqualFunc_sf32_sf32_f32_f32_SameNumber_l4 at hp
  split at hp
  · rename_i s2n t15n t16 t17 b0 b1
    injection hp with hp
    injection hp with h1 h2
    subst h2
    exact ⟨8, 8, big, Eq.trans (i_slices_EqualFunc_sf32_sf32_f32_f32_SameNumber_l4 s2n t15n t16 b0 b1 big t17) (f_slices_EqualFunc_sf32_sf32_f32_f32_SameNumber_l4 s2n t15n t16 b0 b1 (L_slices_EqualFunc_sf32_sf32_f32_f32_SameNumber_l4 s2n t15n t16 b0 b1 big t17) h1)⟩
  · cases hp)
noncomputable def tb4 : List (Nat × (List PT → Option (Bool × AV × List Blk))) := [(109, s_math_Float32bits), (118, s_math_archFloor), (125, s_math_Float64frombits), (133, s_math_Float64bits), (139, s_math_archTrunc), (26, s_laws_sameFloat), (72, s_laws_szFloat32S), (85, s_spec_l01Bits), (120, s_math_Signbit), (32, s_laws_szRose), (46, s_spec_l01Same), (101, s_impl_SameNumber), (24, s_laws_toFloat32S), (27, s_laws_eqFloat32S), (34, s_laws_toRose)]
noncomputable def lt4 : List ((Nat × Nat) × (Nat → St → Option (Bool × LO))) := [((24, 3), l_laws_toFloat32S_l3), ((27, 4), l_laws_eqFloat32S_l4), ((73, 4), l_spec_l01SameAll_l4), ((100, 4), l_slices_EqualFunc_sf32_sf32_f32_f32_SameNumber_l4)]
noncomputable def Γ4 : Ctx := ⟨tyTab, fnTab, tblSum tb4, tblLp lt4⟩
theorem tb4_ok : SumL Try.prog tb4 := SumL.cons s_math_Float32bits_ok (SumL.cons s_math_archFloor_ok (SumL.cons s_math_Float64frombits_ok (SumL.cons s_math_Float64bits_ok (SumL.cons s_math_archTrunc_ok (SumL.cons s_laws_sameFloat_ok (SumL.cons s_laws_szFloat32S_ok (SumL.cons s_spec_l01Bits_ok (SumL.cons s_math_Signbit_ok (SumL.cons s_laws_szRose_ok (SumL.cons s_spec_l01Same_ok (SumL.cons s_impl_SameNumber_ok (SumL.cons s_laws_toFloat32S_ok (SumL.cons s_laws_eqFloat32S_ok (SumL.cons s_laws_toRose_ok (SumL.nil)))))))))))))))
theorem lt4_ok : LpL Try.prog fnTab lt4 := LpL.cons l_laws_toFloat32S_l3_ok (LpL.cons l_laws_eqFloat32S_l4_ok (LpL.cons l_spec_l01SameAll_l4_ok (LpL.cons l_slices_EqualFunc_sf32_sf32_f32_f32_SameNumber_l4_ok (LpL.nil))))
noncomputable def s_laws_eqRose : List PT → Option (Bool × AV × List Blk)
  | [.agg [.row 1 a_Shares_n (.fl .f32 a_Shares), .row 1 a_Speeds_n (.fl .f32 a_Speeds)], .agg [.row 1 b_Shares_n (.fl .f32 b_Shares), .row 1 b_Speeds_n (.fl .f32 b_Speeds)]] => some ((laws_eqRose_p a_Shares_n a_Shares a_Speeds_n a_Speeds b_Shares_n b_Shares b_Speeds_n b_Speeds), ((AV.v (TV.one (At.bool (laws_eqRose_v0 a_Shares_n a_Shares a_Speeds_n a_Speeds b_Shares_n b_Shares b_Speeds_n b_Speeds)))), []))
  | _ => none
def o_laws_eqRose (a_Shares_n : Nat) (a_Shares : List Nat) (a_Speeds_n : Nat) (a_Speeds : List Nat) (b_Shares_n : Nat) (b_Shares : List Nat) (b_Speeds_n : Nat) (b_Speeds : List Nat) : Option (Bool) → Option (AV × List Blk)
  | some r => some ((AV.v (TV.one (At.bool r))), [])
  | none => none
theorem e_laws_eqRose (a_Shares_n : Nat) (a_Shares : List Nat) (a_Speeds_n : Nat) (a_Speeds : List Nat) (b_Shares_n : Nat) (b_Shares : List Nat) (b_Speeds_n : Nat) (b_Speeds : List Nat) : evFn Γ4 8 8 36 (impTs 0 [.agg [.row 1 a_Shares_n (.fl .f32 a_Shares), .row 1 a_Speeds_n (.fl .f32 a_Speeds)], .agg [.row 1 b_Shares_n (.fl .f32 b_Shares), .row 1 b_Speeds_n (.fl .f32 b_Speeds)]]).1 (impTs 0 [.agg [.row 1 a_Shares_n (.fl .f32 a_Shares), .row 1 a_Speeds_n (.fl .f32 a_Speeds)], .agg [.row 1 b_Shares_n (.fl .f32 b_Shares), .row 1 b_Speeds_n (.fl .f32 b_Speeds)]]).2 (expo (impTs 0 [.agg [.row 1 a_Shares_n (.fl .f32 a_Shares), .row 1 a_Speeds_n (.fl .f32 a_Speeds)], .agg [.row 1 b_Shares_n (.fl .f32 b_Shares), .row 1 b_Speeds_n (.fl .f32 b_Speeds)]]).2.length) = T_laws_eqRose a_Shares_n a_Shares a_Speeds_n a_Speeds b_Shares_n b_Shares b_Speeds_n b_Speeds (fun c0_ => some ((AV.v (TV.one (At.bool c0_))), [])) := by kernel_rfl
theorem s_laws_eqRose_ok : SumOne Try.prog 36 s_laws_eqRose := sum_of (Γ := Γ4) (fuel := 8) (d := 8) tyTab_ok (FnL.ok fnTab_ok _ _) (LpL.ok lt4_ok) (SumL.ok tb4_ok _) mixed (by
  intro pts v news hp hc
  clear hc
  unfold s_laws_eqRose at hp
  split at hp
  · rename_i a_Shares_n a_Shares a_Speeds_n a_Speeds b_Shares_n b_Shares b_Speeds_n b_Speeds
    exact Eq.trans (Eq.trans (e_laws_eqRose a_Shares_n a_Shares a_Speeds_n a_Speeds b_Shares_n b_Shares b_Speeds_n b_Speeds) (T_laws_eqRose_nat (o_laws_eqRose a_Shares_n a_Shares a_Speeds_n a_Speeds b_Shares_n b_Shares b_Speeds_n b_Speeds) rfl a_Shares_n a_Shares a_Speeds_n a_Speeds b_Shares_n b_Shares b_Speeds_n b_Speeds (fun c0_ => some c0_))) (fin_out (o := (o_laws_eqRose a_Shares_n a_Shares a_Speeds_n a_Speeds b_Shares_n b_Shares b_Speeds_n b_Speeds)) (x := F_laws_eqRose a_Shares_n a_Shares a_Speeds_n a_Speeds b_Shares_n b_Shares b_Speeds_n b_Speeds) (d := default) (V := fun r => ((AV.v (TV.one (At.bool r))), [])) (fun r => rfl) hp)
  · cases hp)
noncomputable def s_spec_l01SameAll : List PT → Option (Bool × AV × List Blk)
  | [.one (.row 1 a_n (.fl .f32 a)), .one (.row 1 b_n (.fl .f32 b))] => some ((spec_l01SameAll_p a_n a b_n b), ((AV.v (TV.one (At.bool (spec_l01SameAll_v0 a_n a b_n b)))), []))
  | _ => none
def o_spec_l01SameAll (a_n : Nat) (a : List Nat) (b_n : Nat) (b : List Nat) : Option (Bool) → Option (AV × List Blk)
  | some r => some ((AV.v (TV.one (At.bool r))), [])
  | none => none
theorem e_spec_l01SameAll (a_n : Nat) (a : List Nat) (b_n : Nat) (b : List Nat) : evFn Γ4 8 8 73 (impTs 0 [.one (.row 1 a_n (.fl .f32 a)), .one (.row 1 b_n (.fl .f32 b))]).1 (impTs 0 [.one (.row 1 a_n (.fl .f32 a)), .one (.row 1 b_n (.fl .f32 b))]).2 (expo (impTs 0 [.one (.row 1 a_n (.fl .f32 a)), .one (.row 1 b_n (.fl .f32 b))]).2.length) = T_spec_l01SameAll a_n a b_n b (fun c0_ => some ((AV.v (TV.one (At.bool c0_))), [])) := by kernel_rfl
theorem s_spec_l01SameAll_ok : SumOne Try.prog 73 s_spec_l01SameAll := sum_of (Γ := Γ4) (fuel := 8) (d := 8) tyTab_ok (FnL.ok fnTab_ok _ _) (LpL.ok lt4_ok) (SumL.ok tb4_ok _) mixed (by
  intro pts v news hp hc
  clear hc
  unfold s_spec_l01SameAll at hp
  split at hp
  · rename_i a_n a b_n b
    exact Eq.trans (Eq.trans (e_spec_l01SameAll a_n a b_n b) (T_spec_l01SameAll_nat (o_spec_l01SameAll a_n a b_n b) rfl a_n a b_n b (fun c0_ => some c0_))) (fin_out (o := (o_spec_l01SameAll a_n a b_n b)) (x := F_spec_l01SameAll a_n a b_n b) (d := default) (V := fun r => ((AV.v (TV.one (At.bool r))), [])) (fun r => rfl) hp)
  · cases hp)
noncomputable def s_slices_EqualFunc_sf32_sf32_f32_f32_SameNumber : List PT → Option (Bool × AV × List Blk)
  | [.one (.row 1 s1_n (.fl .f32 s1)), .one (.row 1 s2_n (.fl .f32 s2)), .fn 101 []] => some ((slices_EqualFunc_sf32_sf32_f32_f32_SameNumber_p s1_n s1 s2_n s2), ((AV.v (TV.one (At.bool (slices_EqualFunc_sf32_sf32_f32_f32_SameNumber_v0 s1_n s1 s2_n s2)))), []))
  | _ => none
def o_slices_EqualFunc_sf32_sf32_f32_f32_SameNumber (s1_n : Nat) (s1 : List Nat) (s2_n : Nat) (s2 : List Nat) : Option (Bool) → Option (AV × List Blk)
  | some r => some ((AV.v (TV.one (At.bool r))), [])
  | none => none
theorem e_slices_EqualFunc_sf32_sf32_f32_f32_SameNumber (s1_n : Nat) (s1 : List Nat) (s2_n : Nat) (s2 : List Nat) : evFn Γ4 8 8 100 (impTs 0 [.one (.row 1 s1_n (.fl .f32 s1)), .one (.row 1 s2_n (.fl .f32 s2)), .fn 101 []]).1 (impTs 0 [.one (.row 1 s1_n (.fl .f32 s1)), .one (.row 1 s2_n (.fl .f32 s2)), .fn 101 []]).2 (expo (impTs 0 [.one (.row 1 s1_n (.fl .f32 s1)), .one (.row 1 s2_n (.fl .f32 s2)), .fn 101 []]).2.length) = T_slices_EqualFunc_sf32_sf32_f32_f32_SameNumber s1_n s1 s2_n s2 (fun c0_ => some ((AV.v (TV.one (At.bool c0_))), [])) := by kernel_rfl
theorem s_slices_EqualFunc_sf32_sf32_f32_f32_SameNumber_ok : SumOne Try.prog 100 s_slices_EqualFunc_sf32_sf32_f32_f32_SameNumber := sum_of (Γ := Γ4) (fuel := 8) (d := 8) tyTab_ok (FnL.ok fnTab_ok _ _) (LpL.ok lt4_ok) (SumL.ok tb4_ok _) mixed (by
  intro pts v news hp hc
  clear hc
  unfold s_slices_EqualFunc_sf32_sf32_f32_f32_SameNumber at hp
  split at hp
  · rename_i s1_n s1 s2_n s2
    exact Eq.trans (Eq.trans (e_slices_EqualFunc_sf32_sf32_f32_f32_SameNumber s1_n s1 s2_n s2) (T_slices_EqualFunc_sf32_sf32_f32_f32_SameNumber_nat (o_slices_EqualFunc_sf32_sf32_f32_f32_SameNumber s1_n s1 s2_n s2) rfl s1_n s1 s2_n s2 (fun c0_ => some c0_))) (fin_out (o := (o_slices_EqualFunc_sf32_sf32_f32_f32_SameNumber s1_n s1 s2_n s2)) (x := F_slices_EqualFunc_sf32_sf32_f32_f32_SameNumber s1_n s1 s2_n s2) (d := default) (V := fun r => ((AV.v (TV.one (At.bool r))), [])) (fun r => rfl) hp)
  · cases hp)
noncomputable def tb5 : List (Nat × (List PT → Option (Bool × AV × List Blk))) := [(109, s_math_Float32bits), (118, s_math_archFloor), (125, s_math_Float64frombits), (133, s_math_Float64bits), (139, s_math_archTrunc), (26, s_laws_sameFloat), (72, s_laws_szFloat32S), (85, s_spec_l01Bits), (120, s_math_Signbit), (32, s_laws_szRose), (46, s_spec_l01Same), (101, s_impl_SameNumber), (24, s_laws_toFloat32S), (27, s_laws_eqFloat32S), (34, s_laws_toRose), (36, s_laws_eqRose), (73, s_spec_l01SameAll), (100, s_slices_EqualFunc_sf32_sf32_f32_f32_SameNumber)]
noncomputable def lt5 : List ((Nat × Nat) × (Nat → St → Option (Bool × LO))) := [((24, 3), l_laws_toFloat32S_l3), ((27, 4), l_laws_eqFloat32S_l4), ((73, 4), l_spec_l01SameAll_l4), ((100, 4), l_slices_EqualFunc_sf32_sf32_f32_f32_SameNumber_l4)]
noncomputable def Γ5 : Ctx := ⟨tyTab, fnTab, tblSum tb5, tblLp lt5⟩
theorem tb5_ok : SumL Try.prog tb5 := SumL.cons s_math_Float32bits_ok (SumL.cons s_math_archFloor_ok (SumL.cons s_math_Float64frombits_ok (SumL.cons s_math_Float64bits_ok (SumL.cons s_math_archTrunc_ok (SumL.cons s_laws_sameFloat_ok (SumL.cons s_laws_szFloat32S_ok (SumL.cons s_spec_l01Bits_ok (SumL.cons s_math_Signbit_ok (SumL.cons s_laws_szRose_ok (SumL.cons s_spec_l01Same_ok (SumL.cons s_impl_SameNumber_ok (SumL.cons s_laws_toFloat32S_ok (SumL.cons s_laws_eqFloat32S_ok (SumL.cons s_laws_toRose_ok (SumL.cons s_laws_eqRose_ok (SumL.cons s_spec_l01SameAll_ok (SumL.cons s_slices_EqualFunc_sf32_sf32_f32_f32_SameNumber_ok (SumL.nil))))))))))))))))))
theorem lt5_ok : LpL Try.prog fnTab lt5 := LpL.cons l_laws_toFloat32S_l3_ok (LpL.cons l_laws_eqFloat32S_l4_ok (LpL.cons l_spec_l01SameAll_l4_ok (LpL.cons l_slices_EqualFunc_sf32_sf32_f32_f32_SameNumber_l4_ok (LpL.nil))))
noncomputable def s_spec_SameRose : List PT → Option (Bool × AV × List Blk)
  | [.agg [.row 1 a_Shares_n (.fl .f32 a_Shares), .row 1 a_Speeds_n (.fl .f32 a_Speeds)], .agg [.row 1 b_Shares_n (.fl .f32 b_Shares), .row 1 b_Speeds_n (.fl .f32 b_Speeds)]] => some ((spec_SameRose_p a_Shares_n a_Shares a_Speeds_n a_Speeds b_Shares_n b_Shares b_Speeds_n b_Speeds), ((AV.v (TV.one (At.bool (spec_SameRose_v0 a_Shares_n a_Shares a_Speeds_n a_Speeds b_Shares_n b_Shares b_Speeds_n b_Speeds)))), []))
  | _ => none
def o_spec_SameRose (a_Shares_n : Nat) (a_Shares : List Nat) (a_Speeds_n : Nat) (a_Speeds : List Nat) (b_Shares_n : Nat) (b_Shares : List Nat) (b_Speeds_n : Nat) (b_Speeds : List Nat) : Option (Bool) → Option (AV × List Blk)
  | some r => some ((AV.v (TV.one (At.bool r))), [])
  | none => none
theorem e_spec_SameRose (a_Shares_n : Nat) (a_Shares : List Nat) (a_Speeds_n : Nat) (a_Speeds : List Nat) (b_Shares_n : Nat) (b_Shares : List Nat) (b_Speeds_n : Nat) (b_Speeds : List Nat) : evFn Γ5 8 8 33 (impTs 0 [.agg [.row 1 a_Shares_n (.fl .f32 a_Shares), .row 1 a_Speeds_n (.fl .f32 a_Speeds)], .agg [.row 1 b_Shares_n (.fl .f32 b_Shares), .row 1 b_Speeds_n (.fl .f32 b_Speeds)]]).1 (impTs 0 [.agg [.row 1 a_Shares_n (.fl .f32 a_Shares), .row 1 a_Speeds_n (.fl .f32 a_Speeds)], .agg [.row 1 b_Shares_n (.fl .f32 b_Shares), .row 1 b_Speeds_n (.fl .f32 b_Speeds)]]).2 (expo (impTs 0 [.agg [.row 1 a_Shares_n (.fl .f32 a_Shares), .row 1 a_Speeds_n (.fl .f32 a_Speeds)], .agg [.row 1 b_Shares_n (.fl .f32 b_Shares), .row 1 b_Speeds_n (.fl .f32 b_Speeds)]]).2.length) = T_spec_SameRose a_Shares_n a_Shares a_Speeds_n a_Speeds b_Shares_n b_Shares b_Speeds_n b_Speeds (fun c0_ => some ((AV.v (TV.one (At.bool c0_))), [])) := by kernel_rfl
theorem s_spec_SameRose_ok : SumOne Try.prog 33 s_spec_SameRose := sum_of (Γ := Γ5) (fuel := 8) (d := 8) tyTab_ok (FnL.ok fnTab_ok _ _) (LpL.ok lt5_ok) (SumL.ok tb5_ok _) mixed (by
  intro pts v news hp hc
  clear hc
  unfold s_spec_SameRose at hp
  split at hp
  · rename_i a_Shares_n a_Shares a_Speeds_n a_Speeds b_Shares_n b_Shares b_Speeds_n b_Speeds
    exact Eq.trans (Eq.trans (e_spec_SameRose a_Shares_n a_Shares a_Speeds_n a_Speeds b_Shares_n b_Shares b_Speeds_n b_Speeds) (T_spec_SameRose_nat (o_spec_SameRose a_Shares_n a_Shares a_Speeds_n a_Speeds b_Shares_n b_Shares b_Speeds_n b_Speeds) rfl a_Shares_n a_Shares a_Speeds_n a_Speeds b_Shares_n b_Shares b_Speeds_n b_Speeds (fun c0_ => some c0_))) (fin_out (o := (o_spec_SameRose a_Shares_n a_Shares a_Speeds_n a_Speeds b_Shares_n b_Shares b_Speeds_n b_Speeds)) (x := F_spec_SameRose a_Shares_n a_Shares a_Speeds_n a_Speeds b_Shares_n b_Shares b_Speeds_n b_Speeds) (d := default) (V := fun r => ((AV.v (TV.one (At.bool r))), [])) (fun r => rfl) hp)
  · cases hp)
noncomputable def s_impl_sameNumbers : List PT → Option (Bool × AV × List Blk)
  | [.one (.row 1 a_n (.fl .f32 a)), .one (.row 1 b_n (.fl .f32 b))] => some ((impl_sameNumbers_p a_n a b_n b), ((AV.v (TV.one (At.bool (impl_sameNumbers_v0 a_n a b_n b)))), []))
  | _ => none
def o_impl_sameNumbers (a_n : Nat) (a : List Nat) (b_n : Nat) (b : List Nat) : Option (Bool) → Option (AV × List Blk)
  | some r => some ((AV.v (TV.one (At.bool r))), [])
  | none => none
theorem e_impl_sameNumbers (a_n : Nat) (a : List Nat) (b_n : Nat) (b : List Nat) : evFn Γ5 8 8 74 (impTs 0 [.one (.row 1 a_n (.fl .f32 a)), .one (.row 1 b_n (.fl .f32 b))]).1 (impTs 0 [.one (.row 1 a_n (.fl .f32 a)), .one (.row 1 b_n (.fl .f32 b))]).2 (expo (impTs 0 [.one (.row 1 a_n (.fl .f32 a)), .one (.row 1 b_n (.fl .f32 b))]).2.length) = T_impl_sameNumbers a_n a b_n b (fun c0_ => some ((AV.v (TV.one (At.bool c0_))), [])) := by kernel_rfl
theorem s_impl_sameNumbers_ok : SumOne Try.prog 74 s_impl_sameNumbers := sum_of (Γ := Γ5) (fuel := 8) (d := 8) tyTab_ok (FnL.ok fnTab_ok _ _) (LpL.ok lt5_ok) (SumL.ok tb5_ok _) mixed (by
  intro pts v news hp hc
  clear hc
  unfold s_impl_sameNumbers at hp
  split at hp
  · rename_i a_n a b_n b
    exact Eq.trans (Eq.trans (e_impl_sameNumbers a_n a b_n b) (T_impl_sameNumbers_nat (o_impl_sameNumbers a_n a b_n b) rfl a_n a b_n b (fun c0_ => some c0_))) (fin_out (o := (o_impl_sameNumbers a_n a b_n b)) (x := F_impl_sameNumbers a_n a b_n b) (d := default) (V := fun r => ((AV.v (TV.one (At.bool r))), [])) (fun r => rfl) hp)
  · cases hp)
noncomputable def tb6 : List (Nat × (List PT → Option (Bool × AV × List Blk))) := [(109, s_math_Float32bits), (118, s_math_archFloor), (125, s_math_Float64frombits), (133, s_math_Float64bits), (139, s_math_archTrunc), (26, s_laws_sameFloat), (72, s_laws_szFloat32S), (85, s_spec_l01Bits), (120, s_math_Signbit), (32, s_laws_szRose), (46, s_spec_l01Same), (101, s_impl_SameNumber), (24, s_laws_toFloat32S), (27, s_laws_eqFloat32S), (34, s_laws_toRose), (36, s_laws_eqRose), (73, s_spec_l01SameAll), (100, s_slices_EqualFunc_sf32_sf32_f32_f32_SameNumber), (33, s_spec_SameRose), (74, s_impl_sameNumbers)]
noncomputable def lt6 : List ((Nat × Nat) × (Nat → St → Option (Bool × LO))) := [((24, 3), l_laws_toFloat32S_l3), ((27, 4), l_laws_eqFloat32S_l4), ((73, 4), l_spec_l01SameAll_l4), ((100, 4), l_slices_EqualFunc_sf32_sf32_f32_f32_SameNumber_l4)]
noncomputable def Γ6 : Ctx := ⟨tyTab, fnTab, tblSum tb6, tblLp lt6⟩
theorem tb6_ok : SumL Try.prog tb6 := SumL.cons s_math_Float32bits_ok (SumL.cons s_math_archFloor_ok (SumL.cons s_math_Float64frombits_ok (SumL.cons s_math_Float64bits_ok (SumL.cons s_math_archTrunc_ok (SumL.cons s_laws_sameFloat_ok (SumL.cons s_laws_szFloat32S_ok (SumL.cons s_spec_l01Bits_ok (SumL.cons s_math_Signbit_ok (SumL.cons s_laws_szRose_ok (SumL.cons s_spec_l01Same_ok (SumL.cons s_impl_SameNumber_ok (SumL.cons s_laws_toFloat32S_ok (SumL.cons s_laws_eqFloat32S_ok (SumL.cons s_laws_toRose_ok (SumL.cons s_laws_eqRose_ok (SumL.cons s_spec_l01SameAll_ok (SumL.cons s_slices_EqualFunc_sf32_sf32_f32_f32_SameNumber_ok (SumL.cons s_spec_SameRose_ok (SumL.cons s_impl_sameNumbers_ok (SumL.nil))))))))))))))))))))
theorem lt6_ok : LpL Try.prog fnTab lt6 := LpL.cons l_laws_toFloat32S_l3_ok (LpL.cons l_laws_eqFloat32S_l4_ok (LpL.cons l_spec_l01SameAll_l4_ok (LpL.cons l_slices_EqualFunc_sf32_sf32_f32_f32_SameNumber_l4_ok (LpL.nil))))
noncomputable def s_impl_SameRose : List PT → Option (Bool × AV × List Blk)
  | [.agg [.row 1 a_Shares_n (.fl .f32 a_Shares), .row 1 a_Speeds_n (.fl .f32 a_Speeds)], .agg [.row 1 b_Shares_n (.fl .f32 b_Shares), .row 1 b_Speeds_n (.fl .f32 b_Speeds)]] => some ((impl_SameRose_p a_Shares_n a_Shares a_Speeds_n a_Speeds b_Shares_n b_Shares b_Speeds_n b_Speeds), ((AV.v (TV.one (At.bool (impl_SameRose_v0 a_Shares_n a_Shares a_Speeds_n a_Speeds b_Shares_n b_Shares b_Speeds_n b_Speeds)))), []))
  | _ => none
def o_impl_SameRose (a_Shares_n : Nat) (a_Shares : List Nat) (a_Speeds_n : Nat) (a_Speeds : List Nat) (b_Shares_n : Nat) (b_Shares : List Nat) (b_Speeds_n : Nat) (b_Speeds : List Nat) : Option (Bool) → Option (AV × List Blk)
  | some r => some ((AV.v (TV.one (At.bool r))), [])
  | none => none
theorem e_impl_SameRose (a_Shares_n : Nat) (a_Shares : List Nat) (a_Speeds_n : Nat) (a_Speeds : List Nat) (b_Shares_n : Nat) (b_Shares : List Nat) (b_Speeds_n : Nat) (b_Speeds : List Nat) : evFn Γ6 8 8 35 (impTs 0 [.agg [.row 1 a_Shares_n (.fl .f32 a_Shares), .row 1 a_Speeds_n (.fl .f32 a_Speeds)], .agg [.row 1 b_Shares_n (.fl .f32 b_Shares), .row 1 b_Speeds_n (.fl .f32 b_Speeds)]]).1 (impTs 0 [.agg [.row 1 a_Shares_n (.fl .f32 a_Shares), .row 1 a_Speeds_n (.fl .f32 a_Speeds)], .agg [.row 1 b_Shares_n (.fl .f32 b_Shares), .row 1 b_Speeds_n (.fl .f32 b_Speeds)]]).2 (expo (impTs 0 [.agg [.row 1 a_Shares_n (.fl .f32 a_Shares), .row 1 a_Speeds_n (.fl .f32 a_Speeds)], .agg [.row 1 b_Shares_n (.fl .f32 b_Shares), .row 1 b_Speeds_n (.fl .f32 b_Speeds)]]).2.length) = T_impl_SameRose a_Shares_n a_Shares a_Speeds_n a_Speeds b_Shares_n b_Shares b_Speeds_n b_Speeds (fun c0_ => some ((AV.v (TV.one (At.bool c0_))), [])) := by kernel_rfl
theorem s_impl_SameRose_ok : SumOne Try.prog 35 s_impl_SameRose := sum_of (Γ := Γ6) (fuel := 8) (d := 8) tyTab_ok (FnL.ok fnTab_ok _ _) (LpL.ok lt6_ok) (SumL.ok tb6_ok _) mixed (by
  intro pts v news hp hc
  clear hc
  unfold s_impl_SameRose at hp
  split at hp
  · rename_i a_Shares_n a_Shares a_Speeds_n a_Speeds b_Shares_n b_Shares b_Speeds_n b_Speeds
    exact Eq.trans (Eq.trans (e_impl_SameRose a_Shares_n a_Shares a_Speeds_n a_Speeds b_Shares_n b_Shares b_Speeds_n b_Speeds) (T_impl_SameRose_nat (o_impl_SameRose a_Shares_n a_Shares a_Speeds_n a_Speeds b_Shares_n b_Shares b_Speeds_n b_Speeds) rfl a_Shares_n a_Shares a_Speeds_n a_Speeds b_Shares_n b_Shares b_Speeds_n b_Speeds (fun c0_ => some c0_))) (fin_out (o := (o_impl_SameRose a_Shares_n a_Shares a_Speeds_n a_Speeds b_Shares_n b_Shares b_Speeds_n b_Speeds)) (x := F_impl_SameRose a_Shares_n a_Shares a_Speeds_n a_Speeds b_Shares_n b_Shares b_Speeds_n b_Speeds) (d := default) (V := fun r => ((AV.v (TV.one (At.bool r))), [])) (fun r => rfl) hp)
  · cases hp)
noncomputable def tb7 : List (Nat × (List PT → Option (Bool × AV × List Blk))) := [(109, s_math_Float32bits), (118, s_math_archFloor), (125, s_math_Float64frombits), (133, s_math_Float64bits), (139, s_math_archTrunc), (26, s_laws_sameFloat), (72, s_laws_szFloat32S), (85, s_spec_l01Bits), (120, s_math_Signbit), (32, s_laws_szRose), (46, s_spec_l01Same), (101, s_impl_SameNumber), (24, s_laws_toFloat32S), (27, s_laws_eqFloat32S), (34, s_laws_toRose), (36, s_laws_eqRose), (73, s_spec_l01SameAll), (100, s_slices_EqualFunc_sf32_sf32_f32_f32_SameNumber), (33, s_spec_SameRose), (74, s_impl_sameNumbers), (35, s_impl_SameRose)]
noncomputable def lt7 : List ((Nat × Nat) × (Nat → St → Option (Bool × LO))) := [((24, 3), l_laws_toFloat32S_l3), ((27, 4), l_laws_eqFloat32S_l4), ((73, 4), l_spec_l01SameAll_l4), ((100, 4), l_slices_EqualFunc_sf32_sf32_f32_f32_SameNumber_l4)]
noncomputable def Γ7 : Ctx := ⟨tyTab, fnTab, tblSum tb7, tblLp lt7⟩
theorem tb7_ok : SumL Try.prog tb7 := SumL.cons s_math_Float32bits_ok (SumL.cons s_math_archFloor_ok (SumL.cons s_math_Float64frombits_ok (SumL.cons s_math_Float64bits_ok (SumL.cons s_math_archTrunc_ok (SumL.cons s_laws_sameFloat_ok (SumL.cons s_laws_szFloat32S_ok (SumL.cons s_spec_l01Bits_ok (SumL.cons s_math_Signbit_ok (SumL.cons s_laws_szRose_ok (SumL.cons s_spec_l01Same_ok (SumL.cons s_impl_SameNumber_ok (SumL.cons s_laws_toFloat32S_ok (SumL.cons s_laws_eqFloat32S_ok (SumL.cons s_laws_toRose_ok (SumL.cons s_laws_eqRose_ok (SumL.cons s_spec_l01SameAll_ok (SumL.cons s_slices_EqualFunc_sf32_sf32_f32_f32_SameNumber_ok (SumL.cons s_spec_SameRose_ok (SumL.cons s_impl_sameNumbers_ok (SumL.cons s_impl_SameRose_ok (SumL.nil)))))))))))))))))))))
theorem lt7_ok : LpL Try.prog fnTab lt7 := LpL.cons l_laws_toFloat32S_l3_ok (LpL.cons l_laws_eqFloat32S_l4_ok (LpL.cons l_spec_l01SameAll_l4_ok (LpL.cons l_slices_EqualFunc_sf32_sf32_f32_f32_SameNumber_l4_ok (LpL.nil))))
noncomputable def s_laws_FnExactSameRose : List PT → Option (Bool × AV × List Blk)
  | [.agg [.row 1 aA_Shares_n (.fl .f32 aA_Shares), .row 1 aA_Speeds_n (.fl .f32 aA_Speeds)], .agg [.row 1 aB_Shares_n (.fl .f32 aB_Shares), .row 1 aB_Speeds_n (.fl .f32 aB_Speeds)]] => some ((laws_FnExactSameRose_p aA_Shares_n aA_Shares aA_Speeds_n aA_Speeds aB_Shares_n aB_Shares aB_Speeds_n aB_Speeds), ((AV.v (TV.one (At.bool (laws_FnExactSameRose_v0 aA_Shares_n aA_Shares aA_Speeds_n aA_Speeds aB_Shares_n aB_Shares aB_Speeds_n aB_Speeds)))), []))
  | _ => none
def o_laws_FnExactSameRose (aA_Shares_n : Nat) (aA_Shares : List Nat) (aA_Speeds_n : Nat) (aA_Speeds : List Nat) (aB_Shares_n : Nat) (aB_Shares : List Nat) (aB_Speeds_n : Nat) (aB_Speeds : List Nat) : Option (Bool) → Option (AV × List Blk)
  | some r => some ((AV.v (TV.one (At.bool r))), [])
  | none => none
theorem e_laws_FnExactSameRose (aA_Shares_n : Nat) (aA_Shares : List Nat) (aA_Speeds_n : Nat) (aA_Speeds : List Nat) (aB_Shares_n : Nat) (aB_Shares : List Nat) (aB_Speeds_n : Nat) (aB_Speeds : List Nat) : evFn Γ7 8 8 7 (impTs 0 [.agg [.row 1 aA_Shares_n (.fl .f32 aA_Shares), .row 1 aA_Speeds_n (.fl .f32 aA_Speeds)], .agg [.row 1 aB_Shares_n (.fl .f32 aB_Shares), .row 1 aB_Speeds_n (.fl .f32 aB_Speeds)]]).1 (impTs 0 [.agg [.row 1 aA_Shares_n (.fl .f32 aA_Shares), .row 1 aA_Speeds_n (.fl .f32 aA_Speeds)], .agg [.row 1 aB_Shares_n (.fl .f32 aB_Shares), .row 1 aB_Speeds_n (.fl .f32 aB_Speeds)]]).2 (expo (impTs 0 [.agg [.row 1 aA_Shares_n (.fl .f32 aA_Shares), .row 1 aA_Speeds_n (.fl .f32 aA_Speeds)], .agg [.row 1 aB_Shares_n (.fl .f32 aB_Shares), .row 1 aB_Speeds_n (.fl .f32 aB_Speeds)]]).2.length) = T_laws_FnExactSameRose aA_Shares_n aA_Shares aA_Speeds_n aA_Speeds aB_Shares_n aB_Shares aB_Speeds_n aB_Speeds (fun c0_ => some ((AV.v (TV.one (At.bool c0_))), [])) := by kernel_rfl
theorem s_laws_FnExactSameRose_ok : SumOne Try.prog 7 s_laws_FnExactSameRose := sum_of (Γ := Γ7) (fuel := 8) (d := 8) tyTab_ok (FnL.ok fnTab_ok _ _) (LpL.ok lt7_ok) (SumL.ok tb7_ok _) mixed (by
  intro pts v news hp hc
  clear hc
  unfold s_laws_FnExactSameRose at hp
  split at hp
  · rename_i aA_Shares_n aA_Shares aA_Speeds_n aA_Speeds aB_Shares_n aB_Shares aB_Speeds_n aB_Speeds
    exact Eq.trans (Eq.trans (e_laws_FnExactSameRose aA_Shares_n aA_Shares aA_Speeds_n aA_Speeds aB_Shares_n aB_Shares aB_Speeds_n aB_Speeds) (T_laws_FnExactSameRose_nat (o_laws_FnExactSameRose aA_Shares_n aA_Shares aA_Speeds_n aA_Speeds aB_Shares_n aB_Shares aB_Speeds_n aB_Speeds) rfl aA_Shares_n aA_Shares aA_Speeds_n aA_Speeds aB_Shares_n aB_Shares aB_Speeds_n aB_Speeds (fun c0_ => some c0_))) (fin_out (o := (o_laws_FnExactSameRose aA_Shares_n aA_Shares aA_Speeds_n aA_Speeds aB_Shares_n aB_Shares aB_Speeds_n aB_Speeds)) (x := F_laws_FnExactSameRose aA_Shares_n aA_Shares aA_Speeds_n aA_Speeds aB_Shares_n aB_Shares aB_Speeds_n aB_Speeds) (d := default) (V := fun r => ((AV.v (TV.one (At.bool r))), [])) (fun r => rfl) hp)
  · cases hp)
noncomputable def tb8 : List (Nat × (List PT → Option (Bool × AV × List Blk))) := [(109, s_math_Float32bits), (118, s_math_archFloor), (125, s_math_Float64frombits), (133, s_math_Float64bits), (139, s_math_archTrunc), (26, s_laws_sameFloat), (72, s_laws_szFloat32S), (85, s_spec_l01Bits), (120, s_math_Signbit), (32, s_laws_szRose), (46, s_spec_l01Same), (101, s_impl_SameNumber), (24, s_laws_toFloat32S), (27, s_laws_eqFloat32S), (34, s_laws_toRose), (36, s_laws_eqRose), (73, s_spec_l01SameAll), (100, s_slices_EqualFunc_sf32_sf32_f32_f32_SameNumber), (33, s_spec_SameRose), (74, s_impl_sameNumbers), (35, s_impl_SameRose), (7, s_laws_FnExactSameRose)]
noncomputable def lt8 : List ((Nat × Nat) × (Nat → St → Option (Bool × LO))) := [((24, 3), l_laws_toFloat32S_l3), ((27, 4), l_laws_eqFloat32S_l4), ((73, 4), l_spec_l01SameAll_l4), ((100, 4), l_slices_EqualFunc_sf32_sf32_f32_f32_SameNumber_l4)]
noncomputable def Γ8 : Ctx := ⟨tyTab, fnTab, tblSum tb8, tblLp lt8⟩
theorem tb8_ok : SumL Try.prog tb8 := SumL.cons s_math_Float32bits_ok (SumL.cons s_math_archFloor_ok (SumL.cons s_math_Float64frombits_ok (SumL.cons s_math_Float64bits_ok (SumL.cons s_math_archTrunc_ok (SumL.cons s_laws_sameFloat_ok (SumL.cons s_laws_szFloat32S_ok (SumL.cons s_spec_l01Bits_ok (SumL.cons s_math_Signbit_ok (SumL.cons s_laws_szRose_ok (SumL.cons s_spec_l01Same_ok (SumL.cons s_impl_SameNumber_ok (SumL.cons s_laws_toFloat32S_ok (SumL.cons s_laws_eqFloat32S_ok (SumL.cons s_laws_toRose_ok (SumL.cons s_laws_eqRose_ok (SumL.cons s_spec_l01SameAll_ok (SumL.cons s_slices_EqualFunc_sf32_sf32_f32_f32_SameNumber_ok (SumL.cons s_spec_SameRose_ok (SumL.cons s_impl_sameNumbers_ok (SumL.cons s_impl_SameRose_ok (SumL.cons s_laws_FnExactSameRose_ok (SumL.nil))))))))))))))))))))))
theorem lt8_ok : LpL Try.prog fnTab lt8 := LpL.cons l_laws_toFloat32S_l3_ok (LpL.cons l_laws_eqFloat32S_l4_ok (LpL.cons l_spec_l01SameAll_l4_ok (LpL.cons l_slices_EqualFunc_sf32_sf32_f32_f32_SameNumber_l4_ok (LpL.nil))))
noncomputable def tb9 : List (Nat × (List PT → Option (Bool × AV × List Blk))) := [(109, s_math_Float32bits), (118, s_math_archFloor), (125, s_math_Float64frombits), (133, s_math_Float64bits), (139, s_math_archTrunc), (26, s_laws_sameFloat), (72, s_laws_szFloat32S), (85, s_spec_l01Bits), (120, s_math_Signbit), (32, s_laws_szRose), (46, s_spec_l01Same), (101, s_impl_SameNumber), (24, s_laws_toFloat32S), (27, s_laws_eqFloat32S), (34, s_laws_toRose), (36, s_laws_eqRose), (73, s_spec_l01SameAll), (100, s_slices_EqualFunc_sf32_sf32_f32_f32_SameNumber), (33, s_spec_SameRose), (74, s_impl_sameNumbers), (35, s_impl_SameRose), (7, s_laws_FnExactSameRose)]
noncomputable def lt9 : List ((Nat × Nat) × (Nat → St → Option (Bool × LO))) := [((24, 3), l_laws_toFloat32S_l3), ((27, 4), l_laws_eqFloat32S_l4), ((73, 4), l_spec_l01SameAll_l4), ((100, 4), l_slices_EqualFunc_sf32_sf32_f32_f32_SameNumber_l4)]
noncomputable def Γ9 : Ctx := ⟨tyTab, fnTab, tblSum tb9, tblLp lt9⟩
theorem tb9_ok : SumL Try.prog tb9 := SumL.cons s_math_Float32bits_ok (SumL.cons s_math_archFloor_ok (SumL.cons s_math_Float64frombits_ok (SumL.cons s_math_Float64bits_ok (SumL.cons s_math_archTrunc_ok (SumL.cons s_laws_sameFloat_ok (SumL.cons s_laws_szFloat32S_ok (SumL.cons s_spec_l01Bits_ok (SumL.cons s_math_Signbit_ok (SumL.cons s_laws_szRose_ok (SumL.cons s_spec_l01Same_ok (SumL.cons s_impl_SameNumber_ok (SumL.cons s_laws_toFloat32S_ok (SumL.cons s_laws_eqFloat32S_ok (SumL.cons s_laws_toRose_ok (SumL.cons s_laws_eqRose_ok (SumL.cons s_spec_l01SameAll_ok (SumL.cons s_slices_EqualFunc_sf32_sf32_f32_f32_SameNumber_ok (SumL.cons s_spec_SameRose_ok (SumL.cons s_impl_sameNumbers_ok (SumL.cons s_impl_SameRose_ok (SumL.cons s_laws_FnExactSameRose_ok (SumL.nil))))))))))))))))))))))
theorem lt9_ok : LpL Try.prog fnTab lt9 := LpL.cons l_laws_toFloat32S_l3_ok (LpL.cons l_laws_eqFloat32S_l4_ok (LpL.cons l_spec_l01SameAll_l4_ok (LpL.cons l_slices_EqualFunc_sf32_sf32_f32_f32_SameNumber_l4_ok (LpL.nil))))
noncomputable def tb10 : List (Nat × (List PT → Option (Bool × AV × List Blk))) := [(109, s_math_Float32bits), (118, s_math_archFloor), (125, s_math_Float64frombits), (133, s_math_Float64bits), (139, s_math_archTrunc), (26, s_laws_sameFloat), (72, s_laws_szFloat32S), (85, s_spec_l01Bits), (120, s_math_Signbit), (32, s_laws_szRose), (46, s_spec_l01Same), (101, s_impl_SameNumber), (24, s_laws_toFloat32S), (27, s_laws_eqFloat32S), (34, s_laws_toRose), (36, s_laws_eqRose), (73, s_spec_l01SameAll), (100, s_slices_EqualFunc_sf32_sf32_f32_f32_SameNumber), (33, s_spec_SameRose), (74, s_impl_sameNumbers), (35, s_impl_SameRose), (7, s_laws_FnExactSameRose)]
noncomputable def lt10 : List ((Nat × Nat) × (Nat → St → Option (Bool × LO))) := [((24, 3), l_laws_toFloat32S_l3), ((27, 4), l_laws_eqFloat32S_l4), ((73, 4), l_spec_l01SameAll_l4), ((100, 4), l_slices_EqualFunc_sf32_sf32_f32_f32_SameNumber_l4)]
noncomputable def Γ10 : Ctx := ⟨tyTab, fnTab, tblSum tb10, tblLp lt10⟩
theorem tb10_ok : SumL Try.prog tb10 := SumL.cons s_math_Float32bits_ok (SumL.cons s_math_archFloor_ok (SumL.cons s_math_Float64frombits_ok (SumL.cons s_math_Float64bits_ok (SumL.cons s_math_archTrunc_ok (SumL.cons s_laws_sameFloat_ok (SumL.cons s_laws_szFloat32S_ok (SumL.cons s_spec_l01Bits_ok (SumL.cons s_math_Signbit_ok (SumL.cons s_laws_szRose_ok (SumL.cons s_spec_l01Same_ok (SumL.cons s_impl_SameNumber_ok (SumL.cons s_laws_toFloat32S_ok (SumL.cons s_laws_eqFloat32S_ok (SumL.cons s_laws_toRose_ok (SumL.cons s_laws_eqRose_ok (SumL.cons s_spec_l01SameAll_ok (SumL.cons s_slices_EqualFunc_sf32_sf32_f32_f32_SameNumber_ok (SumL.cons s_spec_SameRose_ok (SumL.cons s_impl_sameNumbers_ok (SumL.cons s_impl_SameRose_ok (SumL.cons s_laws_FnExactSameRose_ok (SumL.nil))))))))))))))))))))))
theorem lt10_ok : LpL Try.prog fnTab lt10 := LpL.cons l_laws_toFloat32S_l3_ok (LpL.cons l_laws_eqFloat32S_l4_ok (LpL.cons l_spec_l01SameAll_l4_ok (LpL.cons l_slices_EqualFunc_sf32_sf32_f32_f32_SameNumber_l4_ok (LpL.nil))))
noncomputable def tb11 : List (Nat × (List PT → Option (Bool × AV × List Blk))) := [(109, s_math_Float32bits), (118, s_math_archFloor), (125, s_math_Float64frombits), (133, s_math_Float64bits), (139, s_math_archTrunc), (26, s_laws_sameFloat), (72, s_laws_szFloat32S), (85, s_spec_l01Bits), (120, s_math_Signbit), (32, s_laws_szRose), (46, s_spec_l01Same), (101, s_impl_SameNumber), (24, s_laws_toFloat32S), (27, s_laws_eqFloat32S), (34, s_laws_toRose), (36, s_laws_eqRose), (73, s_spec_l01SameAll), (100, s_slices_EqualFunc_sf32_sf32_f32_f32_SameNumber), (33, s_spec_SameRose), (74, s_impl_sameNumbers), (35, s_impl_SameRose), (7, s_laws_FnExactSameRose)]
noncomputable def lt11 : List ((Nat × Nat) × (Nat → St → Option (Bool × LO))) := [((24, 3), l_laws_toFloat32S_l3), ((27, 4), l_laws_eqFloat32S_l4), ((73, 4), l_spec_l01SameAll_l4), ((100, 4), l_slices_EqualFunc_sf32_sf32_f32_f32_SameNumber_l4)]
noncomputable def Γ11 : Ctx := ⟨tyTab, fnTab, tblSum tb11, tblLp lt11⟩
theorem tb11_ok : SumL Try.prog tb11 := SumL.cons s_math_Float32bits_ok (SumL.cons s_math_archFloor_ok (SumL.cons s_math_Float64frombits_ok (SumL.cons s_math_Float64bits_ok (SumL.cons s_math_archTrunc_ok (SumL.cons s_laws_sameFloat_ok (SumL.cons s_laws_szFloat32S_ok (SumL.cons s_spec_l01Bits_ok (SumL.cons s_math_Signbit_ok (SumL.cons s_laws_szRose_ok (SumL.cons s_spec_l01Same_ok (SumL.cons s_impl_SameNumber_ok (SumL.cons s_laws_toFloat32S_ok (SumL.cons s_laws_eqFloat32S_ok (SumL.cons s_laws_toRose_ok (SumL.cons s_laws_eqRose_ok (SumL.cons s_spec_l01SameAll_ok (SumL.cons s_slices_EqualFunc_sf32_sf32_f32_f32_SameNumber_ok (SumL.cons s_spec_SameRose_ok (SumL.cons s_impl_sameNumbers_ok (SumL.cons s_impl_SameRose_ok (SumL.cons s_laws_FnExactSameRose_ok (SumL.nil))))))))))))))))))))))
theorem lt11_ok : LpL Try.prog fnTab lt11 := LpL.cons l_laws_toFloat32S_l3_ok (LpL.cons l_laws_eqFloat32S_l4_ok (LpL.cons l_spec_l01SameAll_l4_ok (LpL.cons l_slices_EqualFunc_sf32_sf32_f32_f32_SameNumber_l4_ok (LpL.nil))))
noncomputable def tb12 : List (Nat × (List PT → Option (Bool × AV × List Blk))) := [(109, s_math_Float32bits), (118, s_math_archFloor), (125, s_math_Float64frombits), (133, s_math_Float64bits), (139, s_math_archTrunc), (26, s_laws_sameFloat), (72, s_laws_szFloat32S), (85, s_spec_l01Bits), (120, s_math_Signbit), (32, s_laws_szRose), (46, s_spec_l01Same), (101, s_impl_SameNumber), (24, s_laws_toFloat32S), (27, s_laws_eqFloat32S), (34, s_laws_toRose), (36, s_laws_eqRose), (73, s_spec_l01SameAll), (100, s_slices_EqualFunc_sf32_sf32_f32_f32_SameNumber), (33, s_spec_SameRose), (74, s_impl_sameNumbers), (35, s_impl_SameRose), (7, s_laws_FnExactSameRose)]
noncomputable def lt12 : List ((Nat × Nat) × (Nat → St → Option (Bool × LO))) := [((24, 3), l_laws_toFloat32S_l3), ((27, 4), l_laws_eqFloat32S_l4), ((73, 4), l_spec_l01SameAll_l4), ((100, 4), l_slices_EqualFunc_sf32_sf32_f32_f32_SameNumber_l4)]
noncomputable def Γ12 : Ctx := ⟨tyTab, fnTab, tblSum tb12, tblLp lt12⟩
theorem tb12_ok : SumL Try.prog tb12 := SumL.cons s_math_Float32bits_ok (SumL.cons s_math_archFloor_ok (SumL.cons s_math_Float64frombits_ok (SumL.cons s_math_Float64bits_ok (SumL.cons s_math_archTrunc_ok (SumL.cons s_laws_sameFloat_ok (SumL.cons s_laws_szFloat32S_ok (SumL.cons s_spec_l01Bits_ok (SumL.cons s_math_Signbit_ok (SumL.cons s_laws_szRose_ok (SumL.cons s_spec_l01Same_ok (SumL.cons s_impl_SameNumber_ok (SumL.cons s_laws_toFloat32S_ok (SumL.cons s_laws_eqFloat32S_ok (SumL.cons s_laws_toRose_ok (SumL.cons s_laws_eqRose_ok (SumL.cons s_spec_l01SameAll_ok (SumL.cons s_slices_EqualFunc_sf32_sf32_f32_f32_SameNumber_ok (SumL.cons s_spec_SameRose_ok (SumL.cons s_impl_sameNumbers_ok (SumL.cons s_impl_SameRose_ok (SumL.cons s_laws_FnExactSameRose_ok (SumL.nil))))))))))))))))))))))
theorem lt12_ok : LpL Try.prog fnTab lt12 := LpL.cons l_laws_toFloat32S_l3_ok (LpL.cons l_laws_eqFloat32S_l4_ok (LpL.cons l_spec_l01SameAll_l4_ok (LpL.cons l_slices_EqualFunc_sf32_sf32_f32_f32_SameNumber_l4_ok (LpL.nil))))
noncomputable def tb13 : List (Nat × (List PT → Option (Bool × AV × List Blk))) := [(109, s_math_Float32bits), (118, s_math_archFloor), (125, s_math_Float64frombits), (133, s_math_Float64bits), (139, s_math_archTrunc), (26, s_laws_sameFloat), (72, s_laws_szFloat32S), (85, s_spec_l01Bits), (120, s_math_Signbit), (32, s_laws_szRose), (46, s_spec_l01Same), (101, s_impl_SameNumber), (24, s_laws_toFloat32S), (27, s_laws_eqFloat32S), (34, s_laws_toRose), (36, s_laws_eqRose), (73, s_spec_l01SameAll), (100, s_slices_EqualFunc_sf32_sf32_f32_f32_SameNumber), (33, s_spec_SameRose), (74, s_impl_sameNumbers), (35, s_impl_SameRose), (7, s_laws_FnExactSameRose)]
noncomputable def lt13 : List ((Nat × Nat) × (Nat → St → Option (Bool × LO))) := [((24, 3), l_laws_toFloat32S_l3), ((27, 4), l_laws_eqFloat32S_l4), ((73, 4), l_spec_l01SameAll_l4), ((100, 4), l_slices_EqualFunc_sf32_sf32_f32_f32_SameNumber_l4)]
noncomputable def Γ13 : Ctx := ⟨tyTab, fnTab, tblSum tb13, tblLp lt13⟩
theorem tb13_ok : SumL Try.prog tb13 := SumL.cons s_math_Float32bits_ok (SumL.cons s_math_archFloor_ok (SumL.cons s_math_Float64frombits_ok (SumL.cons s_math_Float64bits_ok (SumL.cons s_math_archTrunc_ok (SumL.cons s_laws_sameFloat_ok (SumL.cons s_laws_szFloat32S_ok (SumL.cons s_spec_l01Bits_ok (SumL.cons s_math_Signbit_ok (SumL.cons s_laws_szRose_ok (SumL.cons s_spec_l01Same_ok (SumL.cons s_impl_SameNumber_ok (SumL.cons s_laws_toFloat32S_ok (SumL.cons s_laws_eqFloat32S_ok (SumL.cons s_laws_toRose_ok (SumL.cons s_laws_eqRose_ok (SumL.cons s_spec_l01SameAll_ok (SumL.cons s_slices_EqualFunc_sf32_sf32_f32_f32_SameNumber_ok (SumL.cons s_spec_SameRose_ok (SumL.cons s_impl_sameNumbers_ok (SumL.cons s_impl_SameRose_ok (SumL.cons s_laws_FnExactSameRose_ok (SumL.nil))))))))))))))))))))))
theorem lt13_ok : LpL Try.prog fnTab lt13 := LpL.cons l_laws_toFloat32S_l3_ok (LpL.cons l_laws_eqFloat32S_l4_ok (LpL.cons l_spec_l01SameAll_l4_ok (LpL.cons l_slices_EqualFunc_sf32_sf32_f32_f32_SameNumber_l4_ok (LpL.nil))))
noncomputable def tb14 : List (Nat × (List PT → Option (Bool × AV × List Blk))) := [(109, s_math_Float32bits), (118, s_math_archFloor), (125, s_math_Float64frombits), (133, s_math_Float64bits), (139, s_math_archTrunc), (26, s_laws_sameFloat), (72, s_laws_szFloat32S), (85, s_spec_l01Bits), (120, s_math_Signbit), (32, s_laws_szRose), (46, s_spec_l01Same), (101, s_impl_SameNumber), (24, s_laws_toFloat32S), (27, s_laws_eqFloat32S), (34, s_laws_toRose), (36, s_laws_eqRose), (73, s_spec_l01SameAll), (100, s_slices_EqualFunc_sf32_sf32_f32_f32_SameNumber), (33, s_spec_SameRose), (74, s_impl_sameNumbers), (35, s_impl_SameRose), (7, s_laws_FnExactSameRose)]
noncomputable def lt14 : List ((Nat × Nat) × (Nat → St → Option (Bool × LO))) := [((24, 3), l_laws_toFloat32S_l3), ((27, 4), l_laws_eqFloat32S_l4), ((73, 4), l_spec_l01SameAll_l4), ((100, 4), l_slices_EqualFunc_sf32_sf32_f32_f32_SameNumber_l4)]
noncomputable def Γ14 : Ctx := ⟨tyTab, fnTab, tblSum tb14, tblLp lt14⟩
theorem tb14_ok : SumL Try.prog tb14 := SumL.cons s_math_Float32bits_ok (SumL.cons s_math_archFloor_ok (SumL.cons s_math_Float64frombits_ok (SumL.cons s_math_Float64bits_ok (SumL.cons s_math_archTrunc_ok (SumL.cons s_laws_sameFloat_ok (SumL.cons s_laws_szFloat32S_ok (SumL.cons s_spec_l01Bits_ok (SumL.cons s_math_Signbit_ok (SumL.cons s_laws_szRose_ok (SumL.cons s_spec_l01Same_ok (SumL.cons s_impl_SameNumber_ok (SumL.cons s_laws_toFloat32S_ok (SumL.cons s_laws_eqFloat32S_ok (SumL.cons s_laws_toRose_ok (SumL.cons s_laws_eqRose_ok (SumL.cons s_spec_l01SameAll_ok (SumL.cons s_slices_EqualFunc_sf32_sf32_f32_f32_SameNumber_ok (SumL.cons s_spec_SameRose_ok (SumL.cons s_impl_sameNumbers_ok (SumL.cons s_impl_SameRose_ok (SumL.cons s_laws_FnExactSameRose_ok (SumL.nil))))))))))))))))))))))
theorem lt14_ok : LpL Try.prog fnTab lt14 := LpL.cons l_laws_toFloat32S_l3_ok (LpL.cons l_laws_eqFloat32S_l4_ok (LpL.cons l_spec_l01SameAll_l4_ok (LpL.cons l_slices_EqualFunc_sf32_sf32_f32_f32_SameNumber_l4_ok (LpL.nil))))
noncomputable def tb15 : List (Nat × (List PT → Option (Bool × AV × List Blk))) := [(109, s_math_Float32bits), (118, s_math_archFloor), (125, s_math_Float64frombits), (133, s_math_Float64bits), (139, s_math_archTrunc), (26, s_laws_sameFloat), (72, s_laws_szFloat32S), (85, s_spec_l01Bits), (120, s_math_Signbit), (32, s_laws_szRose), (46, s_spec_l01Same), (101, s_impl_SameNumber), (24, s_laws_toFloat32S), (27, s_laws_eqFloat32S), (34, s_laws_toRose), (36, s_laws_eqRose), (73, s_spec_l01SameAll), (100, s_slices_EqualFunc_sf32_sf32_f32_f32_SameNumber), (33, s_spec_SameRose), (74, s_impl_sameNumbers), (35, s_impl_SameRose), (7, s_laws_FnExactSameRose)]
noncomputable def lt15 : List ((Nat × Nat) × (Nat → St → Option (Bool × LO))) := [((24, 3), l_laws_toFloat32S_l3), ((27, 4), l_laws_eqFloat32S_l4), ((73, 4), l_spec_l01SameAll_l4), ((100, 4), l_slices_EqualFunc_sf32_sf32_f32_f32_SameNumber_l4)]
noncomputable def Γ15 : Ctx := ⟨tyTab, fnTab, tblSum tb15, tblLp lt15⟩
theorem tb15_ok : SumL Try.prog tb15 := SumL.cons s_math_Float32bits_ok (SumL.cons s_math_archFloor_ok (SumL.cons s_math_Float64frombits_ok (SumL.cons s_math_Float64bits_ok (SumL.cons s_math_archTrunc_ok (SumL.cons s_laws_sameFloat_ok (SumL.cons s_laws_szFloat32S_ok (SumL.cons s_spec_l01Bits_ok (SumL.cons s_math_Signbit_ok (SumL.cons s_laws_szRose_ok (SumL.cons s_spec_l01Same_ok (SumL.cons s_impl_SameNumber_ok (SumL.cons s_laws_toFloat32S_ok (SumL.cons s_laws_eqFloat32S_ok (SumL.cons s_laws_toRose_ok (SumL.cons s_laws_eqRose_ok (SumL.cons s_spec_l01SameAll_ok (SumL.cons s_slices_EqualFunc_sf32_sf32_f32_f32_SameNumber_ok (SumL.cons s_spec_SameRose_ok (SumL.cons s_impl_sameNumbers_ok (SumL.cons s_impl_SameRose_ok (SumL.cons s_laws_FnExactSameRose_ok (SumL.nil))))))))))))))))))))))
theorem lt15_ok : LpL Try.prog fnTab lt15 := LpL.cons l_laws_toFloat32S_l3_ok (LpL.cons l_laws_eqFloat32S_l4_ok (LpL.cons l_spec_l01SameAll_l4_ok (LpL.cons l_slices_EqualFunc_sf32_sf32_f32_f32_SameNumber_l4_ok (LpL.nil))))
noncomputable def tb16 : List (Nat × (List PT → Option (Bool × AV × List Blk))) := [(109, s_math_Float32bits), (118, s_math_archFloor), (125, s_math_Float64frombits), (133, s_math_Float64bits), (139, s_math_archTrunc), (26, s_laws_sameFloat), (72, s_laws_szFloat32S), (85, s_spec_l01Bits), (120, s_math_Signbit), (32, s_laws_szRose), (46, s_spec_l01Same), (101, s_impl_SameNumber), (24, s_laws_toFloat32S), (27, s_laws_eqFloat32S), (34, s_laws_toRose), (36, s_laws_eqRose), (73, s_spec_l01SameAll), (100, s_slices_EqualFunc_sf32_sf32_f32_f32_SameNumber), (33, s_spec_SameRose), (74, s_impl_sameNumbers), (35, s_impl_SameRose), (7, s_laws_FnExactSameRose)]
noncomputable def lt16 : List ((Nat × Nat) × (Nat → St → Option (Bool × LO))) := [((24, 3), l_laws_toFloat32S_l3), ((27, 4), l_laws_eqFloat32S_l4), ((73, 4), l_spec_l01SameAll_l4), ((100, 4), l_slices_EqualFunc_sf32_sf32_f32_f32_SameNumber_l4)]
noncomputable def Γ16 : Ctx := ⟨tyTab, fnTab, tblSum tb16, tblLp lt16⟩
theorem tb16_ok : SumL Try.prog tb16 := SumL.cons s_math_Float32bits_ok (SumL.cons s_math_archFloor_ok (SumL.cons s_math_Float64frombits_ok (SumL.cons s_math_Float64bits_ok (SumL.cons s_math_archTrunc_ok (SumL.cons s_laws_sameFloat_ok (SumL.cons s_laws_szFloat32S_ok (SumL.cons s_spec_l01Bits_ok (SumL.cons s_math_Signbit_ok (SumL.cons s_laws_szRose_ok (SumL.cons s_spec_l01Same_ok (SumL.cons s_impl_SameNumber_ok (SumL.cons s_laws_toFloat32S_ok (SumL.cons s_laws_eqFloat32S_ok (SumL.cons s_laws_toRose_ok (SumL.cons s_laws_eqRose_ok (SumL.cons s_spec_l01SameAll_ok (SumL.cons s_slices_EqualFunc_sf32_sf32_f32_f32_SameNumber_ok (SumL.cons s_spec_SameRose_ok (SumL.cons s_impl_sameNumbers_ok (SumL.cons s_impl_SameRose_ok (SumL.cons s_laws_FnExactSameRose_ok (SumL.nil))))))))))))))))))))))
theorem lt16_ok : LpL Try.prog fnTab lt16 := LpL.cons l_laws_toFloat32S_l3_ok (LpL.cons l_laws_eqFloat32S_l4_ok (LpL.cons l_spec_l01SameAll_l4_ok (LpL.cons l_slices_EqualFunc_sf32_sf32_f32_f32_SameNumber_l4_ok (LpL.nil))))
noncomputable def tb17 : List (Nat × (List PT → Option (Bool × AV × List Blk))) := [(109, s_math_Float32bits), (118, s_math_archFloor), (125, s_math_Float64frombits), (133, s_math_Float64bits), (139, s_math_archTrunc), (26, s_laws_sameFloat), (72, s_laws_szFloat32S), (85, s_spec_l01Bits), (120, s_math_Signbit), (32, s_laws_szRose), (46, s_spec_l01Same), (101, s_impl_SameNumber), (24, s_laws_toFloat32S), (27, s_laws_eqFloat32S), (34, s_laws_toRose), (36, s_laws_eqRose), (73, s_spec_l01SameAll), (100, s_slices_EqualFunc_sf32_sf32_f32_f32_SameNumber), (33, s_spec_SameRose), (74, s_impl_sameNumbers), (35, s_impl_SameRose), (7, s_laws_FnExactSameRose)]
noncomputable def lt17 : List ((Nat × Nat) × (Nat → St → Option (Bool × LO))) := [((24, 3), l_laws_toFloat32S_l3), ((27, 4), l_laws_eqFloat32S_l4), ((73, 4), l_spec_l01SameAll_l4), ((100, 4), l_slices_EqualFunc_sf32_sf32_f32_f32_SameNumber_l4)]
noncomputable def Γ17 : Ctx := ⟨tyTab, fnTab, tblSum tb17, tblLp lt17⟩
theorem tb17_ok : SumL Try.prog tb17 := SumL.cons s_math_Float32bits_ok (SumL.cons s_math_archFloor_ok (SumL.cons s_math_Float64frombits_ok (SumL.cons s_math_Float64bits_ok (SumL.cons s_math_archTrunc_ok (SumL.cons s_laws_sameFloat_ok (SumL.cons s_laws_szFloat32S_ok (SumL.cons s_spec_l01Bits_ok (SumL.cons s_math_Signbit_ok (SumL.cons s_laws_szRose_ok (SumL.cons s_spec_l01Same_ok (SumL.cons s_impl_SameNumber_ok (SumL.cons s_laws_toFloat32S_ok (SumL.cons s_laws_eqFloat32S_ok (SumL.cons s_laws_toRose_ok (SumL.cons s_laws_eqRose_ok (SumL.cons s_spec_l01SameAll_ok (SumL.cons s_slices_EqualFunc_sf32_sf32_f32_f32_SameNumber_ok (SumL.cons s_spec_SameRose_ok (SumL.cons s_impl_sameNumbers_ok (SumL.cons s_impl_SameRose_ok (SumL.cons s_laws_FnExactSameRose_ok (SumL.nil))))))))))))))))))))))
theorem lt17_ok : LpL Try.prog fnTab lt17 := LpL.cons l_laws_toFloat32S_l3_ok (LpL.cons l_laws_eqFloat32S_l4_ok (LpL.cons l_spec_l01SameAll_l4_ok (LpL.cons l_slices_EqualFunc_sf32_sf32_f32_f32_SameNumber_l4_ok (LpL.nil))))
end Go.Proofs.Ytohhkgieggfpeab
