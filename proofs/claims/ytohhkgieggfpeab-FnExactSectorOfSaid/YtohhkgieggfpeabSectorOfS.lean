/-
  What functions answer: that the evaluator answers so. Printed by a program.
-/
import Derived.Test.YtohhkgieggfpeabSectorOfC
set_option linter.unusedVariables false
set_option linter.unusedSimpArgs false
set_option maxRecDepth 100000
set_option maxHeartbeats 4000000
namespace Go.Proofs.Ytohhkgieggfpeab
open Go Go.Rf
def s_math_Float32bits : List PT → Option (Bool × AV × List Blk)
  | [.one (.s (.flt .f32 x))] => some (bnot (nanQ .f32 x), A1 (.int .u32 x), [])
  | _ => none
theorem s_math_Float32bits_ok : SumOne Try.prog 109 s_math_Float32bits := by
  intro pts v news hp w vals hv
  unfold s_math_Float32bits at hp
  split at hp
  · rename_i x
    injection hp with hp
    injection hp with h1 hp
    injection hp with h2 h3
    subst h2
    subst h3
    obtain ⟨l, hl⟩ : ∃ l, l = vals.toList := ⟨_, rfl⟩
    rw [← hl] at hv
    cases hv with
    | cons a1 a2 =>
      cases a2
      obtain ⟨b, hb1, hb2, hb3⟩ := a1
      subst hb1
      rename_i hx
      have hvals : vals = #[.float .f32 b] := by rw [← Array.toList_inj, ← hl]
      subst hvals
      have hn : nanB .f32 b = false := by rw [← nanB_cn, hb3]; simpa [bnot, nanQ] using h1
      rw [cn_of_not hn] at hb3
      subst hb3
      refine .inl ⟨_, w, by (simp only [callFunc, Sem.run_bind, run_program, Result.andThen_ok, Try.func109]; rfl), NoB, ⟨⟨(fun t b' h => by cases t <;> cases h), (fun t t' b1 b2 x x' _ h => by cases t <;> cases h)⟩, (fun t x h => by cases h), Fr.refl _ w⟩, rfl⟩
  · cases hp
def s_math_archFloor : List PT → Option (Bool × AV × List Blk)
  | [.one (.s (.flt .f64 x))] => some (bnot (nanQ .f64 x), A1 (.flt .f64 (fint .down x)), [])
  | _ => none
theorem s_math_archFloor_ok : SumOne Try.prog 118 s_math_archFloor := by
  intro pts v news hp w vals hv
  unfold s_math_archFloor at hp
  split at hp
  · rename_i x
    injection hp with hp
    injection hp with h1 hp
    injection hp with h2 h3
    subst h2
    subst h3
    obtain ⟨l, hl⟩ : ∃ l, l = vals.toList := ⟨_, rfl⟩
    rw [← hl] at hv
    cases hv with
    | cons a1 a2 =>
      cases a2
      obtain ⟨b, hb1, hb2, hb3⟩ := a1
      subst hb1
      rename_i hx
      have hvals : vals = #[.float .f64 b] := by rw [← Array.toList_inj, ← hl]
      subst hvals
      have hn : nanB .f64 b = false := by rw [← nanB_cn, hb3]; simpa [bnot, nanQ] using h1
      rw [cn_of_not hn] at hb3
      subst hb3
      refine .inl ⟨_, w, by (simp only [callFunc, Sem.run_bind, run_program, Result.andThen_ok, Try.func118]; change (do let v ← Extern.MathFloor.toIntegral "math.archFloor" .down #[.float .f64 b]; pure (.value v) : Sem Next).run Try.prog w = _; rw [Sem.run_bind, run_fint hn]; rfl), NoB, ⟨⟨(fun t b' h => by cases t <;> cases h), (fun t t' b1 b2 x x' _ h => by cases t <;> cases h)⟩, (fun t x h => by cases h), Fr.refl _ w⟩, fint_rel hn⟩
  · cases hp
def s_math_Float64frombits : List PT → Option (Bool × AV × List Blk)
  | [.one (.s (.int .u64 x))] => some (okU .f64 x, A1 (.flt .f64 (cnI .f64 x)), [])
  | _ => none
theorem s_math_Float64frombits_ok : SumOne Try.prog 125 s_math_Float64frombits := by
  intro pts v news hp w vals hv
  unfold s_math_Float64frombits at hp
  split at hp
  · rename_i x
    injection hp with hp
    injection hp with h1 hp
    injection hp with h2 h3
    subst h2
    subst h3
    obtain ⟨l, hl⟩ : ∃ l, l = vals.toList := ⟨_, rfl⟩
    rw [← hl] at hv
    cases hv with
    | cons a1 a2 =>
      cases a2
      have hb1 : _ = Value.int .u64 x := a1
      subst hb1
      rename_i hx
      have hvals : vals = #[.int .u64 x] := by rw [← Array.toList_inj, ← hl]
      subst hvals
      have hw := okU_lt h1
      refine .inl ⟨_, w, by (simp only [callFunc, Sem.run_bind, run_program, Result.andThen_ok, Try.func125]; rfl), NoB, ⟨⟨(fun t b' h => by cases t <;> cases h), (fun t t' b1 b2 x x' _ h => by cases t <;> cases h)⟩, (fun t x h => by cases h), Fr.refl _ w⟩, ⟨_, rfl, hw, rfl⟩⟩
  · cases hp
def s_math_Float64bits : List PT → Option (Bool × AV × List Blk)
  | [.one (.s (.flt .f64 x))] => some (bnot (nanQ .f64 x), A1 (.int .u64 x), [])
  | _ => none
theorem s_math_Float64bits_ok : SumOne Try.prog 133 s_math_Float64bits := by
  intro pts v news hp w vals hv
  unfold s_math_Float64bits at hp
  split at hp
  · rename_i x
    injection hp with hp
    injection hp with h1 hp
    injection hp with h2 h3
    subst h2
    subst h3
    obtain ⟨l, hl⟩ : ∃ l, l = vals.toList := ⟨_, rfl⟩
    rw [← hl] at hv
    cases hv with
    | cons a1 a2 =>
      cases a2
      obtain ⟨b, hb1, hb2, hb3⟩ := a1
      subst hb1
      rename_i hx
      have hvals : vals = #[.float .f64 b] := by rw [← Array.toList_inj, ← hl]
      subst hvals
      have hn : nanB .f64 b = false := by rw [← nanB_cn, hb3]; simpa [bnot, nanQ] using h1
      rw [cn_of_not hn] at hb3
      subst hb3
      refine .inl ⟨_, w, by (simp only [callFunc, Sem.run_bind, run_program, Result.andThen_ok, Try.func133]; rfl), NoB, ⟨⟨(fun t b' h => by cases t <;> cases h), (fun t t' b1 b2 x x' _ h => by cases t <;> cases h)⟩, (fun t x h => by cases h), Fr.refl _ w⟩, rfl⟩
  · cases hp
def s_math_archTrunc : List PT → Option (Bool × AV × List Blk)
  | [.one (.s (.flt .f64 x))] => some (bnot (nanQ .f64 x), A1 (.flt .f64 (fint .zero x)), [])
  | _ => none
theorem s_math_archTrunc_ok : SumOne Try.prog 139 s_math_archTrunc := by
  intro pts v news hp w vals hv
  unfold s_math_archTrunc at hp
  split at hp
  · rename_i x
    injection hp with hp
    injection hp with h1 hp
    injection hp with h2 h3
    subst h2
    subst h3
    obtain ⟨l, hl⟩ : ∃ l, l = vals.toList := ⟨_, rfl⟩
    rw [← hl] at hv
    cases hv with
    | cons a1 a2 =>
      cases a2
      obtain ⟨b, hb1, hb2, hb3⟩ := a1
      subst hb1
      rename_i hx
      have hvals : vals = #[.float .f64 b] := by rw [← Array.toList_inj, ← hl]
      subst hvals
      have hn : nanB .f64 b = false := by rw [← nanB_cn, hb3]; simpa [bnot, nanQ] using h1
      rw [cn_of_not hn] at hb3
      subst hb3
      refine .inl ⟨_, w, by (simp only [callFunc, Sem.run_bind, run_program, Result.andThen_ok, Try.func139]; change (do let v ← Extern.MathFloor.toIntegral "math.archTrunc" .zero #[.float .f64 b]; pure (.value v) : Sem Next).run Try.prog w = _; rw [Sem.run_bind, run_fint hn]; rfl), NoB, ⟨⟨(fun t b' h => by cases t <;> cases h), (fun t t' b1 b2 x x' _ h => by cases t <;> cases h)⟩, (fun t x h => by cases h), Fr.refl _ w⟩, fint_rel hn⟩
  · cases hp
noncomputable def tb0 : List (Nat × (List PT → Option (Bool × AV × List Blk))) := [(109, s_math_Float32bits), (118, s_math_archFloor), (125, s_math_Float64frombits), (133, s_math_Float64bits), (139, s_math_archTrunc)]
noncomputable def lt0 : List ((Nat × Nat) × (Nat → St → Option (Bool × LO))) := []
noncomputable def Γ0 : Ctx := ⟨tyTab, fnTab, tblSum tb0, tblLp lt0⟩
theorem tb0_ok : SumL Try.prog tb0 := SumL.cons s_math_Float32bits_ok (SumL.cons s_math_archFloor_ok (SumL.cons s_math_Float64frombits_ok (SumL.cons s_math_Float64bits_ok (SumL.cons s_math_archTrunc_ok (SumL.nil)))))
theorem lt0_ok : LpL Try.prog fnTab lt0 := LpL.nil
noncomputable def s_spec_l04Turn : List PT → Option (Bool × AV × List Blk)
  | [.one (.s (.flt .f32 turn))] => some ((spec_l04Turn_p turn), ((AV.v (TV.one (At.bool (spec_l04Turn_v0 turn)))), []))
  | _ => none
def o_spec_l04Turn (turn : Nat) : Option (Bool) → Option (AV × List Blk)
  | some r => some ((AV.v (TV.one (At.bool r))), [])
  | none => none
theorem e_spec_l04Turn (turn : Nat) : evFn Γ0 8 8 65 (impTs 0 [.one (.s (.flt .f32 turn))]).1 (impTs 0 [.one (.s (.flt .f32 turn))]).2 (expo (impTs 0 [.one (.s (.flt .f32 turn))]).2.length) = T_spec_l04Turn turn (fun c0_ => some ((AV.v (TV.one (At.bool c0_))), [])) := by kernel_rfl
theorem s_spec_l04Turn_ok : SumOne Try.prog 65 s_spec_l04Turn := sum_of (Γ := Γ0) (fuel := 8) (d := 8) tyTab_ok (FnL.ok fnTab_ok _ _) (LpL.ok lt0_ok) (SumL.ok tb0_ok _) mixed (by
  intro pts v news hp hc
  clear hc
  unfold s_spec_l04Turn at hp
  split at hp
  · rename_i turn
    exact Eq.trans (Eq.trans (e_spec_l04Turn turn) (T_spec_l04Turn_nat (o_spec_l04Turn turn) rfl turn (fun c0_ => some c0_))) (fin_out (o := (o_spec_l04Turn turn)) (x := F_spec_l04Turn turn) (d := default) (V := fun r => ((AV.v (TV.one (At.bool r))), [])) (fun r => rfl) hp)
  · cases hp)
noncomputable def s_spec_l00In : List PT → Option (Bool × AV × List Blk)
  | [.one (.s (.int .i64 n_)), .one (.s (.int .i64 low)), .one (.s (.int .i64 high))] => some ((spec_l00In_p n_ low high), ((AV.v (TV.one (At.bool (spec_l00In_v0 n_ low high)))), []))
  | _ => none
def o_spec_l00In (n_ : Int) (low : Int) (high : Int) : Option (Bool) → Option (AV × List Blk)
  | some r => some ((AV.v (TV.one (At.bool r))), [])
  | none => none
theorem e_spec_l00In (n_ : Int) (low : Int) (high : Int) : evFn Γ0 8 8 66 (impTs 0 [.one (.s (.int .i64 n_)), .one (.s (.int .i64 low)), .one (.s (.int .i64 high))]).1 (impTs 0 [.one (.s (.int .i64 n_)), .one (.s (.int .i64 low)), .one (.s (.int .i64 high))]).2 (expo (impTs 0 [.one (.s (.int .i64 n_)), .one (.s (.int .i64 low)), .one (.s (.int .i64 high))]).2.length) = T_spec_l00In n_ low high (fun c0_ => some ((AV.v (TV.one (At.bool c0_))), [])) := by kernel_rfl
theorem s_spec_l00In_ok : SumOne Try.prog 66 s_spec_l00In := sum_of (Γ := Γ0) (fuel := 8) (d := 8) tyTab_ok (FnL.ok fnTab_ok _ _) (LpL.ok lt0_ok) (SumL.ok tb0_ok _) mixed (by
  intro pts v news hp hc
  clear hc
  unfold s_spec_l00In at hp
  split at hp
  · rename_i n_ low high
    exact Eq.trans (Eq.trans (e_spec_l00In n_ low high) (T_spec_l00In_nat (o_spec_l00In n_ low high) rfl n_ low high (fun c0_ => some c0_))) (fin_out (o := (o_spec_l00In n_ low high)) (x := F_spec_l00In n_ low high) (d := default) (V := fun r => ((AV.v (TV.one (At.bool r))), [])) (fun r => rfl) hp)
  · cases hp)
noncomputable def s_impl_within : List PT → Option (Bool × AV × List Blk)
  | [.one (.s (.int .i64 n_)), .one (.s (.int .i64 low)), .one (.s (.int .i64 high))] => some ((impl_within_p n_ low high), ((AV.v (TV.one (At.bool (impl_within_v0 n_ low high)))), []))
  | _ => none
def o_impl_within (n_ : Int) (low : Int) (high : Int) : Option (Bool) → Option (AV × List Blk)
  | some r => some ((AV.v (TV.one (At.bool r))), [])
  | none => none
theorem e_impl_within (n_ : Int) (low : Int) (high : Int) : evFn Γ0 8 8 76 (impTs 0 [.one (.s (.int .i64 n_)), .one (.s (.int .i64 low)), .one (.s (.int .i64 high))]).1 (impTs 0 [.one (.s (.int .i64 n_)), .one (.s (.int .i64 low)), .one (.s (.int .i64 high))]).2 (expo (impTs 0 [.one (.s (.int .i64 n_)), .one (.s (.int .i64 low)), .one (.s (.int .i64 high))]).2.length) = T_impl_within n_ low high (fun c0_ => some ((AV.v (TV.one (At.bool c0_))), [])) := by kernel_rfl
theorem s_impl_within_ok : SumOne Try.prog 76 s_impl_within := sum_of (Γ := Γ0) (fuel := 8) (d := 8) tyTab_ok (FnL.ok fnTab_ok _ _) (LpL.ok lt0_ok) (SumL.ok tb0_ok _) mixed (by
  intro pts v news hp hc
  clear hc
  unfold s_impl_within at hp
  split at hp
  · rename_i n_ low high
    exact Eq.trans (Eq.trans (e_impl_within n_ low high) (T_impl_within_nat (o_impl_within n_ low high) rfl n_ low high (fun c0_ => some c0_))) (fin_out (o := (o_impl_within n_ low high)) (x := F_impl_within n_ low high) (d := default) (V := fun r => ((AV.v (TV.one (At.bool r))), [])) (fun r => rfl) hp)
  · cases hp)
noncomputable def s_impl_isFromTo : List PT → Option (Bool × AV × List Blk)
  | [.one (.s (.flt .f32 x)), .one (.s (.flt .f32 low)), .one (.s (.flt .f32 high))] => some ((impl_isFromTo_p x low high), ((AV.v (TV.one (At.bool (impl_isFromTo_v0 x low high)))), []))
  | _ => none
def o_impl_isFromTo (x : Nat) (low : Nat) (high : Nat) : Option (Bool) → Option (AV × List Blk)
  | some r => some ((AV.v (TV.one (At.bool r))), [])
  | none => none
theorem e_impl_isFromTo (x : Nat) (low : Nat) (high : Nat) : evFn Γ0 8 8 86 (impTs 0 [.one (.s (.flt .f32 x)), .one (.s (.flt .f32 low)), .one (.s (.flt .f32 high))]).1 (impTs 0 [.one (.s (.flt .f32 x)), .one (.s (.flt .f32 low)), .one (.s (.flt .f32 high))]).2 (expo (impTs 0 [.one (.s (.flt .f32 x)), .one (.s (.flt .f32 low)), .one (.s (.flt .f32 high))]).2.length) = T_impl_isFromTo x low high (fun c0_ => some ((AV.v (TV.one (At.bool c0_))), [])) := by kernel_rfl
theorem s_impl_isFromTo_ok : SumOne Try.prog 86 s_impl_isFromTo := sum_of (Γ := Γ0) (fuel := 8) (d := 8) tyTab_ok (FnL.ok fnTab_ok _ _) (LpL.ok lt0_ok) (SumL.ok tb0_ok _) mixed (by
  intro pts v news hp hc
  clear hc
  unfold s_impl_isFromTo at hp
  split at hp
  · rename_i x low high
    exact Eq.trans (Eq.trans (e_impl_isFromTo x low high) (T_impl_isFromTo_nat (o_impl_isFromTo x low high) rfl x low high (fun c0_ => some c0_))) (fin_out (o := (o_impl_isFromTo x low high)) (x := F_impl_isFromTo x low high) (d := default) (V := fun r => ((AV.v (TV.one (At.bool r))), [])) (fun r => rfl) hp)
  · cases hp)
noncomputable def tb1 : List (Nat × (List PT → Option (Bool × AV × List Blk))) := [(109, s_math_Float32bits), (118, s_math_archFloor), (125, s_math_Float64frombits), (133, s_math_Float64bits), (139, s_math_archTrunc), (65, s_spec_l04Turn), (66, s_spec_l00In), (76, s_impl_within), (86, s_impl_isFromTo)]
noncomputable def lt1 : List ((Nat × Nat) × (Nat → St → Option (Bool × LO))) := []
noncomputable def Γ1 : Ctx := ⟨tyTab, fnTab, tblSum tb1, tblLp lt1⟩
theorem tb1_ok : SumL Try.prog tb1 := SumL.cons s_math_Float32bits_ok (SumL.cons s_math_archFloor_ok (SumL.cons s_math_Float64frombits_ok (SumL.cons s_math_Float64bits_ok (SumL.cons s_math_archTrunc_ok (SumL.cons s_spec_l04Turn_ok (SumL.cons s_spec_l00In_ok (SumL.cons s_impl_within_ok (SumL.cons s_impl_isFromTo_ok (SumL.nil)))))))))
theorem lt1_ok : LpL Try.prog fnTab lt1 := LpL.nil
noncomputable def s_impl_isTurn : List PT → Option (Bool × AV × List Blk)
  | [.one (.s (.flt .f32 turn))] => some ((impl_isTurn_p turn), ((AV.v (TV.one (At.bool (impl_isTurn_v0 turn)))), []))
  | _ => none
def o_impl_isTurn (turn : Nat) : Option (Bool) → Option (AV × List Blk)
  | some r => some ((AV.v (TV.one (At.bool r))), [])
  | none => none
theorem e_impl_isTurn (turn : Nat) : evFn Γ1 8 8 68 (impTs 0 [.one (.s (.flt .f32 turn))]).1 (impTs 0 [.one (.s (.flt .f32 turn))]).2 (expo (impTs 0 [.one (.s (.flt .f32 turn))]).2.length) = T_impl_isTurn turn (fun c0_ => some ((AV.v (TV.one (At.bool c0_))), [])) := by kernel_rfl
theorem s_impl_isTurn_ok : SumOne Try.prog 68 s_impl_isTurn := sum_of (Γ := Γ1) (fuel := 8) (d := 8) tyTab_ok (FnL.ok fnTab_ok _ _) (LpL.ok lt1_ok) (SumL.ok tb1_ok _) mixed (by
  intro pts v news hp hc
  clear hc
  unfold s_impl_isTurn at hp
  split at hp
  · rename_i turn
    exact Eq.trans (Eq.trans (e_impl_isTurn turn) (T_impl_isTurn_nat (o_impl_isTurn turn) rfl turn (fun c0_ => some c0_))) (fin_out (o := (o_impl_isTurn turn)) (x := F_impl_isTurn turn) (d := default) (V := fun r => ((AV.v (TV.one (At.bool r))), [])) (fun r => rfl) hp)
  · cases hp)
noncomputable def s_impl_isSectors : List PT → Option (Bool × AV × List Blk)
  | [.one (.s (.int .i64 n_))] => some ((impl_isSectors_p n_), ((AV.v (TV.one (At.bool (impl_isSectors_v0 n_)))), []))
  | _ => none
def o_impl_isSectors (n_ : Int) : Option (Bool) → Option (AV × List Blk)
  | some r => some ((AV.v (TV.one (At.bool r))), [])
  | none => none
theorem e_impl_isSectors (n_ : Int) : evFn Γ1 8 8 69 (impTs 0 [.one (.s (.int .i64 n_))]).1 (impTs 0 [.one (.s (.int .i64 n_))]).2 (expo (impTs 0 [.one (.s (.int .i64 n_))]).2.length) = T_impl_isSectors n_ (fun c0_ => some ((AV.v (TV.one (At.bool c0_))), [])) := by kernel_rfl
theorem s_impl_isSectors_ok : SumOne Try.prog 69 s_impl_isSectors := sum_of (Γ := Γ1) (fuel := 8) (d := 8) tyTab_ok (FnL.ok fnTab_ok _ _) (LpL.ok lt1_ok) (SumL.ok tb1_ok _) mixed (by
  intro pts v news hp hc
  clear hc
  unfold s_impl_isSectors at hp
  split at hp
  · rename_i n_
    exact Eq.trans (Eq.trans (e_impl_isSectors n_) (T_impl_isSectors_nat (o_impl_isSectors n_) rfl n_ (fun c0_ => some c0_))) (fin_out (o := (o_impl_isSectors n_)) (x := F_impl_isSectors n_) (d := default) (V := fun r => ((AV.v (TV.one (At.bool r))), [])) (fun r => rfl) hp)
  · cases hp)
noncomputable def tb2 : List (Nat × (List PT → Option (Bool × AV × List Blk))) := [(109, s_math_Float32bits), (118, s_math_archFloor), (125, s_math_Float64frombits), (133, s_math_Float64bits), (139, s_math_archTrunc), (65, s_spec_l04Turn), (66, s_spec_l00In), (76, s_impl_within), (86, s_impl_isFromTo), (68, s_impl_isTurn), (69, s_impl_isSectors)]
noncomputable def lt2 : List ((Nat × Nat) × (Nat → St → Option (Bool × LO))) := []
noncomputable def Γ2 : Ctx := ⟨tyTab, fnTab, tblSum tb2, tblLp lt2⟩
theorem tb2_ok : SumL Try.prog tb2 := SumL.cons s_math_Float32bits_ok (SumL.cons s_math_archFloor_ok (SumL.cons s_math_Float64frombits_ok (SumL.cons s_math_Float64bits_ok (SumL.cons s_math_archTrunc_ok (SumL.cons s_spec_l04Turn_ok (SumL.cons s_spec_l00In_ok (SumL.cons s_impl_within_ok (SumL.cons s_impl_isFromTo_ok (SumL.cons s_impl_isTurn_ok (SumL.cons s_impl_isSectors_ok (SumL.nil)))))))))))
theorem lt2_ok : LpL Try.prog fnTab lt2 := LpL.nil
noncomputable def tb3 : List (Nat × (List PT → Option (Bool × AV × List Blk))) := [(109, s_math_Float32bits), (118, s_math_archFloor), (125, s_math_Float64frombits), (133, s_math_Float64bits), (139, s_math_archTrunc), (65, s_spec_l04Turn), (66, s_spec_l00In), (76, s_impl_within), (86, s_impl_isFromTo), (68, s_impl_isTurn), (69, s_impl_isSectors)]
noncomputable def lt3 : List ((Nat × Nat) × (Nat → St → Option (Bool × LO))) := []
noncomputable def Γ3 : Ctx := ⟨tyTab, fnTab, tblSum tb3, tblLp lt3⟩
theorem tb3_ok : SumL Try.prog tb3 := SumL.cons s_math_Float32bits_ok (SumL.cons s_math_archFloor_ok (SumL.cons s_math_Float64frombits_ok (SumL.cons s_math_Float64bits_ok (SumL.cons s_math_archTrunc_ok (SumL.cons s_spec_l04Turn_ok (SumL.cons s_spec_l00In_ok (SumL.cons s_impl_within_ok (SumL.cons s_impl_isFromTo_ok (SumL.cons s_impl_isTurn_ok (SumL.cons s_impl_isSectors_ok (SumL.nil)))))))))))
theorem lt3_ok : LpL Try.prog fnTab lt3 := LpL.nil
noncomputable def tb4 : List (Nat × (List PT → Option (Bool × AV × List Blk))) := [(109, s_math_Float32bits), (118, s_math_archFloor), (125, s_math_Float64frombits), (133, s_math_Float64bits), (139, s_math_archTrunc), (65, s_spec_l04Turn), (66, s_spec_l00In), (76, s_impl_within), (86, s_impl_isFromTo), (68, s_impl_isTurn), (69, s_impl_isSectors)]
noncomputable def lt4 : List ((Nat × Nat) × (Nat → St → Option (Bool × LO))) := []
noncomputable def Γ4 : Ctx := ⟨tyTab, fnTab, tblSum tb4, tblLp lt4⟩
theorem tb4_ok : SumL Try.prog tb4 := SumL.cons s_math_Float32bits_ok (SumL.cons s_math_archFloor_ok (SumL.cons s_math_Float64frombits_ok (SumL.cons s_math_Float64bits_ok (SumL.cons s_math_archTrunc_ok (SumL.cons s_spec_l04Turn_ok (SumL.cons s_spec_l00In_ok (SumL.cons s_impl_within_ok (SumL.cons s_impl_isFromTo_ok (SumL.cons s_impl_isTurn_ok (SumL.cons s_impl_isSectors_ok (SumL.nil)))))))))))
theorem lt4_ok : LpL Try.prog fnTab lt4 := LpL.nil
noncomputable def tb5 : List (Nat × (List PT → Option (Bool × AV × List Blk))) := [(109, s_math_Float32bits), (118, s_math_archFloor), (125, s_math_Float64frombits), (133, s_math_Float64bits), (139, s_math_archTrunc), (65, s_spec_l04Turn), (66, s_spec_l00In), (76, s_impl_within), (86, s_impl_isFromTo), (68, s_impl_isTurn), (69, s_impl_isSectors)]
noncomputable def lt5 : List ((Nat × Nat) × (Nat → St → Option (Bool × LO))) := []
noncomputable def Γ5 : Ctx := ⟨tyTab, fnTab, tblSum tb5, tblLp lt5⟩
theorem tb5_ok : SumL Try.prog tb5 := SumL.cons s_math_Float32bits_ok (SumL.cons s_math_archFloor_ok (SumL.cons s_math_Float64frombits_ok (SumL.cons s_math_Float64bits_ok (SumL.cons s_math_archTrunc_ok (SumL.cons s_spec_l04Turn_ok (SumL.cons s_spec_l00In_ok (SumL.cons s_impl_within_ok (SumL.cons s_impl_isFromTo_ok (SumL.cons s_impl_isTurn_ok (SumL.cons s_impl_isSectors_ok (SumL.nil)))))))))))
theorem lt5_ok : LpL Try.prog fnTab lt5 := LpL.nil
noncomputable def s_math_Floor : List PT → Option (Bool × AV × List Blk)
  | [.one (.s (.flt .f64 x))] => some ((math_Floor_p x), ((AV.v (TV.one (At.flt FloatKind.f64 (math_Floor_v0 x)))), []))
  | _ => none
def o_math_Floor (x : Nat) : Option (Nat) → Option (AV × List Blk)
  | some r => some ((AV.v (TV.one (At.flt FloatKind.f64 r))), [])
  | none => none
theorem e_math_Floor (x : Nat) : evFn Γ5 8 8 99 (impTs 0 [.one (.s (.flt .f64 x))]).1 (impTs 0 [.one (.s (.flt .f64 x))]).2 (expo (impTs 0 [.one (.s (.flt .f64 x))]).2.length) = T_math_Floor x (fun c0_ => some ((AV.v (TV.one (At.flt FloatKind.f64 c0_))), [])) := by kernel_rfl
theorem s_math_Floor_ok : SumOne Try.prog 99 s_math_Floor := sum_of (Γ := Γ5) (fuel := 8) (d := 8) tyTab_ok (FnL.ok fnTab_ok _ _) (LpL.ok lt5_ok) (SumL.ok tb5_ok _) mixed (by
  intro pts v news hp hc
  clear hc
  unfold s_math_Floor at hp
  split at hp
  · rename_i x
    exact Eq.trans (Eq.trans (e_math_Floor x) (T_math_Floor_nat (o_math_Floor x) rfl x (fun c0_ => some c0_))) (fin_out (o := (o_math_Floor x)) (x := F_math_Floor x) (d := default) (V := fun r => ((AV.v (TV.one (At.flt FloatKind.f64 r))), [])) (fun r => rfl) hp)
  · cases hp)
noncomputable def tb6 : List (Nat × (List PT → Option (Bool × AV × List Blk))) := [(109, s_math_Float32bits), (118, s_math_archFloor), (125, s_math_Float64frombits), (133, s_math_Float64bits), (139, s_math_archTrunc), (65, s_spec_l04Turn), (66, s_spec_l00In), (76, s_impl_within), (86, s_impl_isFromTo), (68, s_impl_isTurn), (69, s_impl_isSectors), (99, s_math_Floor)]
noncomputable def lt6 : List ((Nat × Nat) × (Nat → St → Option (Bool × LO))) := []
noncomputable def Γ6 : Ctx := ⟨tyTab, fnTab, tblSum tb6, tblLp lt6⟩
theorem tb6_ok : SumL Try.prog tb6 := SumL.cons s_math_Float32bits_ok (SumL.cons s_math_archFloor_ok (SumL.cons s_math_Float64frombits_ok (SumL.cons s_math_Float64bits_ok (SumL.cons s_math_archTrunc_ok (SumL.cons s_spec_l04Turn_ok (SumL.cons s_spec_l00In_ok (SumL.cons s_impl_within_ok (SumL.cons s_impl_isFromTo_ok (SumL.cons s_impl_isTurn_ok (SumL.cons s_impl_isSectors_ok (SumL.cons s_math_Floor_ok (SumL.nil))))))))))))
theorem lt6_ok : LpL Try.prog fnTab lt6 := LpL.nil
noncomputable def s_spec_l04Sector : List PT → Option (Bool × AV × List Blk)
  | [.one (.s (.flt .f32 turn)), .one (.s (.int .i64 count))] => some ((spec_l04Sector_p turn count), ((AV.v (TV.one (At.int IntKind.i64 (spec_l04Sector_v0 turn count)))), []))
  | _ => none
def o_spec_l04Sector (turn : Nat) (count : Int) : Option (Int) → Option (AV × List Blk)
  | some r => some ((AV.v (TV.one (At.int IntKind.i64 r))), [])
  | none => none
theorem e_spec_l04Sector (turn : Nat) (count : Int) : evFn Γ6 8 8 67 (impTs 0 [.one (.s (.flt .f32 turn)), .one (.s (.int .i64 count))]).1 (impTs 0 [.one (.s (.flt .f32 turn)), .one (.s (.int .i64 count))]).2 (expo (impTs 0 [.one (.s (.flt .f32 turn)), .one (.s (.int .i64 count))]).2.length) = T_spec_l04Sector turn count (fun c0_ => some ((AV.v (TV.one (At.int IntKind.i64 c0_))), [])) := by kernel_rfl
theorem s_spec_l04Sector_ok : SumOne Try.prog 67 s_spec_l04Sector := sum_of (Γ := Γ6) (fuel := 8) (d := 8) tyTab_ok (FnL.ok fnTab_ok _ _) (LpL.ok lt6_ok) (SumL.ok tb6_ok _) mixed (by
  intro pts v news hp hc
  clear hc
  unfold s_spec_l04Sector at hp
  split at hp
  · rename_i turn count
    exact Eq.trans (Eq.trans (e_spec_l04Sector turn count) (T_spec_l04Sector_nat (o_spec_l04Sector turn count) rfl turn count (fun c0_ => some c0_))) (fin_out (o := (o_spec_l04Sector turn count)) (x := F_spec_l04Sector turn count) (d := default) (V := fun r => ((AV.v (TV.one (At.int IntKind.i64 r))), [])) (fun r => rfl) hp)
  · cases hp)
noncomputable def s_impl_sectorOf : List PT → Option (Bool × AV × List Blk)
  | [.one (.s (.flt .f32 turn)), .one (.s (.int .i64 count))] => some ((impl_sectorOf_p turn count), ((AV.v (TV.one (At.int IntKind.i64 (impl_sectorOf_v0 turn count)))), []))
  | _ => none
def o_impl_sectorOf (turn : Nat) (count : Int) : Option (Int) → Option (AV × List Blk)
  | some r => some ((AV.v (TV.one (At.int IntKind.i64 r))), [])
  | none => none
theorem e_impl_sectorOf (turn : Nat) (count : Int) : evFn Γ6 8 8 70 (impTs 0 [.one (.s (.flt .f32 turn)), .one (.s (.int .i64 count))]).1 (impTs 0 [.one (.s (.flt .f32 turn)), .one (.s (.int .i64 count))]).2 (expo (impTs 0 [.one (.s (.flt .f32 turn)), .one (.s (.int .i64 count))]).2.length) = T_impl_sectorOf turn count (fun c0_ => some ((AV.v (TV.one (At.int IntKind.i64 c0_))), [])) := by kernel_rfl
theorem s_impl_sectorOf_ok : SumOne Try.prog 70 s_impl_sectorOf := sum_of (Γ := Γ6) (fuel := 8) (d := 8) tyTab_ok (FnL.ok fnTab_ok _ _) (LpL.ok lt6_ok) (SumL.ok tb6_ok _) mixed (by
  intro pts v news hp hc
  clear hc
  unfold s_impl_sectorOf at hp
  split at hp
  · rename_i turn count
    exact Eq.trans (Eq.trans (e_impl_sectorOf turn count) (T_impl_sectorOf_nat (o_impl_sectorOf turn count) rfl turn count (fun c0_ => some c0_))) (fin_out (o := (o_impl_sectorOf turn count)) (x := F_impl_sectorOf turn count) (d := default) (V := fun r => ((AV.v (TV.one (At.int IntKind.i64 r))), [])) (fun r => rfl) hp)
  · cases hp)
noncomputable def tb7 : List (Nat × (List PT → Option (Bool × AV × List Blk))) := [(109, s_math_Float32bits), (118, s_math_archFloor), (125, s_math_Float64frombits), (133, s_math_Float64bits), (139, s_math_archTrunc), (65, s_spec_l04Turn), (66, s_spec_l00In), (76, s_impl_within), (86, s_impl_isFromTo), (68, s_impl_isTurn), (69, s_impl_isSectors), (99, s_math_Floor), (67, s_spec_l04Sector), (70, s_impl_sectorOf)]
noncomputable def lt7 : List ((Nat × Nat) × (Nat → St → Option (Bool × LO))) := []
noncomputable def Γ7 : Ctx := ⟨tyTab, fnTab, tblSum tb7, tblLp lt7⟩
theorem tb7_ok : SumL Try.prog tb7 := SumL.cons s_math_Float32bits_ok (SumL.cons s_math_archFloor_ok (SumL.cons s_math_Float64frombits_ok (SumL.cons s_math_Float64bits_ok (SumL.cons s_math_archTrunc_ok (SumL.cons s_spec_l04Turn_ok (SumL.cons s_spec_l00In_ok (SumL.cons s_impl_within_ok (SumL.cons s_impl_isFromTo_ok (SumL.cons s_impl_isTurn_ok (SumL.cons s_impl_isSectors_ok (SumL.cons s_math_Floor_ok (SumL.cons s_spec_l04Sector_ok (SumL.cons s_impl_sectorOf_ok (SumL.nil))))))))))))))
theorem lt7_ok : LpL Try.prog fnTab lt7 := LpL.nil
noncomputable def s_spec_SectorOf : List PT → Option (Bool × AV × List Blk)
  | [.one (.s (.flt .f32 turn)), .one (.s (.int .i64 count))] => some ((spec_SectorOf_p turn count), ((AV.tup [(TV.one (At.int IntKind.i64 (spec_SectorOf_v0 turn count))), (TV.one (At.bool (spec_SectorOf_v1 turn count)))]), []))
  | _ => none
def o_spec_SectorOf (turn : Nat) (count : Int) : Option (Int × Bool) → Option (AV × List Blk)
  | some r => some ((AV.tup [(TV.one (At.int IntKind.i64 r.1)), (TV.one (At.bool r.2))]), [])
  | none => none
theorem e_spec_SectorOf (turn : Nat) (count : Int) : evFn Γ7 8 8 28 (impTs 0 [.one (.s (.flt .f32 turn)), .one (.s (.int .i64 count))]).1 (impTs 0 [.one (.s (.flt .f32 turn)), .one (.s (.int .i64 count))]).2 (expo (impTs 0 [.one (.s (.flt .f32 turn)), .one (.s (.int .i64 count))]).2.length) = T_spec_SectorOf turn count (fun c0_ c1_ => some ((AV.tup [(TV.one (At.int IntKind.i64 c0_)), (TV.one (At.bool c1_))]), [])) := by kernel_rfl
theorem s_spec_SectorOf_ok : SumOne Try.prog 28 s_spec_SectorOf := sum_of (Γ := Γ7) (fuel := 8) (d := 8) tyTab_ok (FnL.ok fnTab_ok _ _) (LpL.ok lt7_ok) (SumL.ok tb7_ok _) mixed (by
  intro pts v news hp hc
  clear hc
  unfold s_spec_SectorOf at hp
  split at hp
  · rename_i turn count
    exact Eq.trans (Eq.trans (e_spec_SectorOf turn count) (T_spec_SectorOf_nat (o_spec_SectorOf turn count) rfl turn count (fun c0_ c1_ => some (c0_, c1_)))) (fin_out (o := (o_spec_SectorOf turn count)) (x := F_spec_SectorOf turn count) (d := default) (V := fun r => ((AV.tup [(TV.one (At.int IntKind.i64 r.1)), (TV.one (At.bool r.2))]), [])) (fun r => rfl) hp)
  · cases hp)
noncomputable def s_impl_SectorOf : List PT → Option (Bool × AV × List Blk)
  | [.one (.s (.flt .f32 turn)), .one (.s (.int .i64 count))] => some ((impl_SectorOf_p turn count), ((AV.tup [(TV.one (At.int IntKind.i64 (impl_SectorOf_v0 turn count))), (TV.one (At.bool (impl_SectorOf_v1 turn count)))]), []))
  | _ => none
def o_impl_SectorOf (turn : Nat) (count : Int) : Option (Int × Bool) → Option (AV × List Blk)
  | some r => some ((AV.tup [(TV.one (At.int IntKind.i64 r.1)), (TV.one (At.bool r.2))]), [])
  | none => none
theorem e_impl_SectorOf (turn : Nat) (count : Int) : evFn Γ7 8 8 29 (impTs 0 [.one (.s (.flt .f32 turn)), .one (.s (.int .i64 count))]).1 (impTs 0 [.one (.s (.flt .f32 turn)), .one (.s (.int .i64 count))]).2 (expo (impTs 0 [.one (.s (.flt .f32 turn)), .one (.s (.int .i64 count))]).2.length) = T_impl_SectorOf turn count (fun c0_ c1_ => some ((AV.tup [(TV.one (At.int IntKind.i64 c0_)), (TV.one (At.bool c1_))]), [])) := by kernel_rfl
theorem s_impl_SectorOf_ok : SumOne Try.prog 29 s_impl_SectorOf := sum_of (Γ := Γ7) (fuel := 8) (d := 8) tyTab_ok (FnL.ok fnTab_ok _ _) (LpL.ok lt7_ok) (SumL.ok tb7_ok _) mixed (by
  intro pts v news hp hc
  clear hc
  unfold s_impl_SectorOf at hp
  split at hp
  · rename_i turn count
    exact Eq.trans (Eq.trans (e_impl_SectorOf turn count) (T_impl_SectorOf_nat (o_impl_SectorOf turn count) rfl turn count (fun c0_ c1_ => some (c0_, c1_)))) (fin_out (o := (o_impl_SectorOf turn count)) (x := F_impl_SectorOf turn count) (d := default) (V := fun r => ((AV.tup [(TV.one (At.int IntKind.i64 r.1)), (TV.one (At.bool r.2))]), [])) (fun r => rfl) hp)
  · cases hp)
noncomputable def tb8 : List (Nat × (List PT → Option (Bool × AV × List Blk))) := [(109, s_math_Float32bits), (118, s_math_archFloor), (125, s_math_Float64frombits), (133, s_math_Float64bits), (139, s_math_archTrunc), (65, s_spec_l04Turn), (66, s_spec_l00In), (76, s_impl_within), (86, s_impl_isFromTo), (68, s_impl_isTurn), (69, s_impl_isSectors), (99, s_math_Floor), (67, s_spec_l04Sector), (70, s_impl_sectorOf), (28, s_spec_SectorOf), (29, s_impl_SectorOf)]
noncomputable def lt8 : List ((Nat × Nat) × (Nat → St → Option (Bool × LO))) := []
noncomputable def Γ8 : Ctx := ⟨tyTab, fnTab, tblSum tb8, tblLp lt8⟩
theorem tb8_ok : SumL Try.prog tb8 := SumL.cons s_math_Float32bits_ok (SumL.cons s_math_archFloor_ok (SumL.cons s_math_Float64frombits_ok (SumL.cons s_math_Float64bits_ok (SumL.cons s_math_archTrunc_ok (SumL.cons s_spec_l04Turn_ok (SumL.cons s_spec_l00In_ok (SumL.cons s_impl_within_ok (SumL.cons s_impl_isFromTo_ok (SumL.cons s_impl_isTurn_ok (SumL.cons s_impl_isSectors_ok (SumL.cons s_math_Floor_ok (SumL.cons s_spec_l04Sector_ok (SumL.cons s_impl_sectorOf_ok (SumL.cons s_spec_SectorOf_ok (SumL.cons s_impl_SectorOf_ok (SumL.nil))))))))))))))))
theorem lt8_ok : LpL Try.prog fnTab lt8 := LpL.nil
noncomputable def s_laws_FnExactSectorOf : List PT → Option (Bool × AV × List Blk)
  | [.one (.s (.flt .f32 aTurn)), .one (.s (.int .i64 aCount))] => some ((laws_FnExactSectorOf_p aTurn aCount), ((AV.v (TV.one (At.bool (laws_FnExactSectorOf_v0 aTurn aCount)))), []))
  | _ => none
def o_laws_FnExactSectorOf (aTurn : Nat) (aCount : Int) : Option (Bool) → Option (AV × List Blk)
  | some r => some ((AV.v (TV.one (At.bool r))), [])
  | none => none
theorem e_laws_FnExactSectorOf (aTurn : Nat) (aCount : Int) : evFn Γ8 8 8 5 (impTs 0 [.one (.s (.flt .f32 aTurn)), .one (.s (.int .i64 aCount))]).1 (impTs 0 [.one (.s (.flt .f32 aTurn)), .one (.s (.int .i64 aCount))]).2 (expo (impTs 0 [.one (.s (.flt .f32 aTurn)), .one (.s (.int .i64 aCount))]).2.length) = T_laws_FnExactSectorOf aTurn aCount (fun c0_ => some ((AV.v (TV.one (At.bool c0_))), [])) := by kernel_rfl
theorem s_laws_FnExactSectorOf_ok : SumOne Try.prog 5 s_laws_FnExactSectorOf := sum_of (Γ := Γ8) (fuel := 8) (d := 8) tyTab_ok (FnL.ok fnTab_ok _ _) (LpL.ok lt8_ok) (SumL.ok tb8_ok _) mixed (by
  intro pts v news hp hc
  clear hc
  unfold s_laws_FnExactSectorOf at hp
  split at hp
  · rename_i aTurn aCount
    exact Eq.trans (Eq.trans (e_laws_FnExactSectorOf aTurn aCount) (T_laws_FnExactSectorOf_nat (o_laws_FnExactSectorOf aTurn aCount) rfl aTurn aCount (fun c0_ => some c0_))) (fin_out (o := (o_laws_FnExactSectorOf aTurn aCount)) (x := F_laws_FnExactSectorOf aTurn aCount) (d := default) (V := fun r => ((AV.v (TV.one (At.bool r))), [])) (fun r => rfl) hp)
  · cases hp)
noncomputable def tb9 : List (Nat × (List PT → Option (Bool × AV × List Blk))) := [(109, s_math_Float32bits), (118, s_math_archFloor), (125, s_math_Float64frombits), (133, s_math_Float64bits), (139, s_math_archTrunc), (65, s_spec_l04Turn), (66, s_spec_l00In), (76, s_impl_within), (86, s_impl_isFromTo), (68, s_impl_isTurn), (69, s_impl_isSectors), (99, s_math_Floor), (67, s_spec_l04Sector), (70, s_impl_sectorOf), (28, s_spec_SectorOf), (29, s_impl_SectorOf), (5, s_laws_FnExactSectorOf)]
noncomputable def lt9 : List ((Nat × Nat) × (Nat → St → Option (Bool × LO))) := []
noncomputable def Γ9 : Ctx := ⟨tyTab, fnTab, tblSum tb9, tblLp lt9⟩
theorem tb9_ok : SumL Try.prog tb9 := SumL.cons s_math_Float32bits_ok (SumL.cons s_math_archFloor_ok (SumL.cons s_math_Float64frombits_ok (SumL.cons s_math_Float64bits_ok (SumL.cons s_math_archTrunc_ok (SumL.cons s_spec_l04Turn_ok (SumL.cons s_spec_l00In_ok (SumL.cons s_impl_within_ok (SumL.cons s_impl_isFromTo_ok (SumL.cons s_impl_isTurn_ok (SumL.cons s_impl_isSectors_ok (SumL.cons s_math_Floor_ok (SumL.cons s_spec_l04Sector_ok (SumL.cons s_impl_sectorOf_ok (SumL.cons s_spec_SectorOf_ok (SumL.cons s_impl_SectorOf_ok (SumL.cons s_laws_FnExactSectorOf_ok (SumL.nil)))))))))))))))))
theorem lt9_ok : LpL Try.prog fnTab lt9 := LpL.nil
noncomputable def tb10 : List (Nat × (List PT → Option (Bool × AV × List Blk))) := [(109, s_math_Float32bits), (118, s_math_archFloor), (125, s_math_Float64frombits), (133, s_math_Float64bits), (139, s_math_archTrunc), (65, s_spec_l04Turn), (66, s_spec_l00In), (76, s_impl_within), (86, s_impl_isFromTo), (68, s_impl_isTurn), (69, s_impl_isSectors), (99, s_math_Floor), (67, s_spec_l04Sector), (70, s_impl_sectorOf), (28, s_spec_SectorOf), (29, s_impl_SectorOf), (5, s_laws_FnExactSectorOf)]
noncomputable def lt10 : List ((Nat × Nat) × (Nat → St → Option (Bool × LO))) := []
noncomputable def Γ10 : Ctx := ⟨tyTab, fnTab, tblSum tb10, tblLp lt10⟩
theorem tb10_ok : SumL Try.prog tb10 := SumL.cons s_math_Float32bits_ok (SumL.cons s_math_archFloor_ok (SumL.cons s_math_Float64frombits_ok (SumL.cons s_math_Float64bits_ok (SumL.cons s_math_archTrunc_ok (SumL.cons s_spec_l04Turn_ok (SumL.cons s_spec_l00In_ok (SumL.cons s_impl_within_ok (SumL.cons s_impl_isFromTo_ok (SumL.cons s_impl_isTurn_ok (SumL.cons s_impl_isSectors_ok (SumL.cons s_math_Floor_ok (SumL.cons s_spec_l04Sector_ok (SumL.cons s_impl_sectorOf_ok (SumL.cons s_spec_SectorOf_ok (SumL.cons s_impl_SectorOf_ok (SumL.cons s_laws_FnExactSectorOf_ok (SumL.nil)))))))))))))))))
theorem lt10_ok : LpL Try.prog fnTab lt10 := LpL.nil
noncomputable def tb11 : List (Nat × (List PT → Option (Bool × AV × List Blk))) := [(109, s_math_Float32bits), (118, s_math_archFloor), (125, s_math_Float64frombits), (133, s_math_Float64bits), (139, s_math_archTrunc), (65, s_spec_l04Turn), (66, s_spec_l00In), (76, s_impl_within), (86, s_impl_isFromTo), (68, s_impl_isTurn), (69, s_impl_isSectors), (99, s_math_Floor), (67, s_spec_l04Sector), (70, s_impl_sectorOf), (28, s_spec_SectorOf), (29, s_impl_SectorOf), (5, s_laws_FnExactSectorOf)]
noncomputable def lt11 : List ((Nat × Nat) × (Nat → St → Option (Bool × LO))) := []
noncomputable def Γ11 : Ctx := ⟨tyTab, fnTab, tblSum tb11, tblLp lt11⟩
theorem tb11_ok : SumL Try.prog tb11 := SumL.cons s_math_Float32bits_ok (SumL.cons s_math_archFloor_ok (SumL.cons s_math_Float64frombits_ok (SumL.cons s_math_Float64bits_ok (SumL.cons s_math_archTrunc_ok (SumL.cons s_spec_l04Turn_ok (SumL.cons s_spec_l00In_ok (SumL.cons s_impl_within_ok (SumL.cons s_impl_isFromTo_ok (SumL.cons s_impl_isTurn_ok (SumL.cons s_impl_isSectors_ok (SumL.cons s_math_Floor_ok (SumL.cons s_spec_l04Sector_ok (SumL.cons s_impl_sectorOf_ok (SumL.cons s_spec_SectorOf_ok (SumL.cons s_impl_SectorOf_ok (SumL.cons s_laws_FnExactSectorOf_ok (SumL.nil)))))))))))))))))
theorem lt11_ok : LpL Try.prog fnTab lt11 := LpL.nil
noncomputable def tb12 : List (Nat × (List PT → Option (Bool × AV × List Blk))) := [(109, s_math_Float32bits), (118, s_math_archFloor), (125, s_math_Float64frombits), (133, s_math_Float64bits), (139, s_math_archTrunc), (65, s_spec_l04Turn), (66, s_spec_l00In), (76, s_impl_within), (86, s_impl_isFromTo), (68, s_impl_isTurn), (69, s_impl_isSectors), (99, s_math_Floor), (67, s_spec_l04Sector), (70, s_impl_sectorOf), (28, s_spec_SectorOf), (29, s_impl_SectorOf), (5, s_laws_FnExactSectorOf)]
noncomputable def lt12 : List ((Nat × Nat) × (Nat → St → Option (Bool × LO))) := []
noncomputable def Γ12 : Ctx := ⟨tyTab, fnTab, tblSum tb12, tblLp lt12⟩
theorem tb12_ok : SumL Try.prog tb12 := SumL.cons s_math_Float32bits_ok (SumL.cons s_math_archFloor_ok (SumL.cons s_math_Float64frombits_ok (SumL.cons s_math_Float64bits_ok (SumL.cons s_math_archTrunc_ok (SumL.cons s_spec_l04Turn_ok (SumL.cons s_spec_l00In_ok (SumL.cons s_impl_within_ok (SumL.cons s_impl_isFromTo_ok (SumL.cons s_impl_isTurn_ok (SumL.cons s_impl_isSectors_ok (SumL.cons s_math_Floor_ok (SumL.cons s_spec_l04Sector_ok (SumL.cons s_impl_sectorOf_ok (SumL.cons s_spec_SectorOf_ok (SumL.cons s_impl_SectorOf_ok (SumL.cons s_laws_FnExactSectorOf_ok (SumL.nil)))))))))))))))))
theorem lt12_ok : LpL Try.prog fnTab lt12 := LpL.nil
noncomputable def tb13 : List (Nat × (List PT → Option (Bool × AV × List Blk))) := [(109, s_math_Float32bits), (118, s_math_archFloor), (125, s_math_Float64frombits), (133, s_math_Float64bits), (139, s_math_archTrunc), (65, s_spec_l04Turn), (66, s_spec_l00In), (76, s_impl_within), (86, s_impl_isFromTo), (68, s_impl_isTurn), (69, s_impl_isSectors), (99, s_math_Floor), (67, s_spec_l04Sector), (70, s_impl_sectorOf), (28, s_spec_SectorOf), (29, s_impl_SectorOf), (5, s_laws_FnExactSectorOf)]
noncomputable def lt13 : List ((Nat × Nat) × (Nat → St → Option (Bool × LO))) := []
noncomputable def Γ13 : Ctx := ⟨tyTab, fnTab, tblSum tb13, tblLp lt13⟩
theorem tb13_ok : SumL Try.prog tb13 := SumL.cons s_math_Float32bits_ok (SumL.cons s_math_archFloor_ok (SumL.cons s_math_Float64frombits_ok (SumL.cons s_math_Float64bits_ok (SumL.cons s_math_archTrunc_ok (SumL.cons s_spec_l04Turn_ok (SumL.cons s_spec_l00In_ok (SumL.cons s_impl_within_ok (SumL.cons s_impl_isFromTo_ok (SumL.cons s_impl_isTurn_ok (SumL.cons s_impl_isSectors_ok (SumL.cons s_math_Floor_ok (SumL.cons s_spec_l04Sector_ok (SumL.cons s_impl_sectorOf_ok (SumL.cons s_spec_SectorOf_ok (SumL.cons s_impl_SectorOf_ok (SumL.cons s_laws_FnExactSectorOf_ok (SumL.nil)))))))))))))))))
theorem lt13_ok : LpL Try.prog fnTab lt13 := LpL.nil
noncomputable def tb14 : List (Nat × (List PT → Option (Bool × AV × List Blk))) := [(109, s_math_Float32bits), (118, s_math_archFloor), (125, s_math_Float64frombits), (133, s_math_Float64bits), (139, s_math_archTrunc), (65, s_spec_l04Turn), (66, s_spec_l00In), (76, s_impl_within), (86, s_impl_isFromTo), (68, s_impl_isTurn), (69, s_impl_isSectors), (99, s_math_Floor), (67, s_spec_l04Sector), (70, s_impl_sectorOf), (28, s_spec_SectorOf), (29, s_impl_SectorOf), (5, s_laws_FnExactSectorOf)]
noncomputable def lt14 : List ((Nat × Nat) × (Nat → St → Option (Bool × LO))) := []
noncomputable def Γ14 : Ctx := ⟨tyTab, fnTab, tblSum tb14, tblLp lt14⟩
theorem tb14_ok : SumL Try.prog tb14 := SumL.cons s_math_Float32bits_ok (SumL.cons s_math_archFloor_ok (SumL.cons s_math_Float64frombits_ok (SumL.cons s_math_Float64bits_ok (SumL.cons s_math_archTrunc_ok (SumL.cons s_spec_l04Turn_ok (SumL.cons s_spec_l00In_ok (SumL.cons s_impl_within_ok (SumL.cons s_impl_isFromTo_ok (SumL.cons s_impl_isTurn_ok (SumL.cons s_impl_isSectors_ok (SumL.cons s_math_Floor_ok (SumL.cons s_spec_l04Sector_ok (SumL.cons s_impl_sectorOf_ok (SumL.cons s_spec_SectorOf_ok (SumL.cons s_impl_SectorOf_ok (SumL.cons s_laws_FnExactSectorOf_ok (SumL.nil)))))))))))))))))
theorem lt14_ok : LpL Try.prog fnTab lt14 := LpL.nil
noncomputable def tb15 : List (Nat × (List PT → Option (Bool × AV × List Blk))) := [(109, s_math_Float32bits), (118, s_math_archFloor), (125, s_math_Float64frombits), (133, s_math_Float64bits), (139, s_math_archTrunc), (65, s_spec_l04Turn), (66, s_spec_l00In), (76, s_impl_within), (86, s_impl_isFromTo), (68, s_impl_isTurn), (69, s_impl_isSectors), (99, s_math_Floor), (67, s_spec_l04Sector), (70, s_impl_sectorOf), (28, s_spec_SectorOf), (29, s_impl_SectorOf), (5, s_laws_FnExactSectorOf)]
noncomputable def lt15 : List ((Nat × Nat) × (Nat → St → Option (Bool × LO))) := []
noncomputable def Γ15 : Ctx := ⟨tyTab, fnTab, tblSum tb15, tblLp lt15⟩
theorem tb15_ok : SumL Try.prog tb15 := SumL.cons s_math_Float32bits_ok (SumL.cons s_math_archFloor_ok (SumL.cons s_math_Float64frombits_ok (SumL.cons s_math_Float64bits_ok (SumL.cons s_math_archTrunc_ok (SumL.cons s_spec_l04Turn_ok (SumL.cons s_spec_l00In_ok (SumL.cons s_impl_within_ok (SumL.cons s_impl_isFromTo_ok (SumL.cons s_impl_isTurn_ok (SumL.cons s_impl_isSectors_ok (SumL.cons s_math_Floor_ok (SumL.cons s_spec_l04Sector_ok (SumL.cons s_impl_sectorOf_ok (SumL.cons s_spec_SectorOf_ok (SumL.cons s_impl_SectorOf_ok (SumL.cons s_laws_FnExactSectorOf_ok (SumL.nil)))))))))))))))))
theorem lt15_ok : LpL Try.prog fnTab lt15 := LpL.nil
noncomputable def tb16 : List (Nat × (List PT → Option (Bool × AV × List Blk))) := [(109, s_math_Float32bits), (118, s_math_archFloor), (125, s_math_Float64frombits), (133, s_math_Float64bits), (139, s_math_archTrunc), (65, s_spec_l04Turn), (66, s_spec_l00In), (76, s_impl_within), (86, s_impl_isFromTo), (68, s_impl_isTurn), (69, s_impl_isSectors), (99, s_math_Floor), (67, s_spec_l04Sector), (70, s_impl_sectorOf), (28, s_spec_SectorOf), (29, s_impl_SectorOf), (5, s_laws_FnExactSectorOf)]
noncomputable def lt16 : List ((Nat × Nat) × (Nat → St → Option (Bool × LO))) := []
noncomputable def Γ16 : Ctx := ⟨tyTab, fnTab, tblSum tb16, tblLp lt16⟩
theorem tb16_ok : SumL Try.prog tb16 := SumL.cons s_math_Float32bits_ok (SumL.cons s_math_archFloor_ok (SumL.cons s_math_Float64frombits_ok (SumL.cons s_math_Float64bits_ok (SumL.cons s_math_archTrunc_ok (SumL.cons s_spec_l04Turn_ok (SumL.cons s_spec_l00In_ok (SumL.cons s_impl_within_ok (SumL.cons s_impl_isFromTo_ok (SumL.cons s_impl_isTurn_ok (SumL.cons s_impl_isSectors_ok (SumL.cons s_math_Floor_ok (SumL.cons s_spec_l04Sector_ok (SumL.cons s_impl_sectorOf_ok (SumL.cons s_spec_SectorOf_ok (SumL.cons s_impl_SectorOf_ok (SumL.cons s_laws_FnExactSectorOf_ok (SumL.nil)))))))))))))))))
theorem lt16_ok : LpL Try.prog fnTab lt16 := LpL.nil
noncomputable def tb17 : List (Nat × (List PT → Option (Bool × AV × List Blk))) := [(109, s_math_Float32bits), (118, s_math_archFloor), (125, s_math_Float64frombits), (133, s_math_Float64bits), (139, s_math_archTrunc), (65, s_spec_l04Turn), (66, s_spec_l00In), (76, s_impl_within), (86, s_impl_isFromTo), (68, s_impl_isTurn), (69, s_impl_isSectors), (99, s_math_Floor), (67, s_spec_l04Sector), (70, s_impl_sectorOf), (28, s_spec_SectorOf), (29, s_impl_SectorOf), (5, s_laws_FnExactSectorOf)]
noncomputable def lt17 : List ((Nat × Nat) × (Nat → St → Option (Bool × LO))) := []
noncomputable def Γ17 : Ctx := ⟨tyTab, fnTab, tblSum tb17, tblLp lt17⟩
theorem tb17_ok : SumL Try.prog tb17 := SumL.cons s_math_Float32bits_ok (SumL.cons s_math_archFloor_ok (SumL.cons s_math_Float64frombits_ok (SumL.cons s_math_Float64bits_ok (SumL.cons s_math_archTrunc_ok (SumL.cons s_spec_l04Turn_ok (SumL.cons s_spec_l00In_ok (SumL.cons s_impl_within_ok (SumL.cons s_impl_isFromTo_ok (SumL.cons s_impl_isTurn_ok (SumL.cons s_impl_isSectors_ok (SumL.cons s_math_Floor_ok (SumL.cons s_spec_l04Sector_ok (SumL.cons s_impl_sectorOf_ok (SumL.cons s_spec_SectorOf_ok (SumL.cons s_impl_SectorOf_ok (SumL.cons s_laws_FnExactSectorOf_ok (SumL.nil)))))))))))))))))
theorem lt17_ok : LpL Try.prog fnTab lt17 := LpL.nil
end Go.Proofs.Ytohhkgieggfpeab
