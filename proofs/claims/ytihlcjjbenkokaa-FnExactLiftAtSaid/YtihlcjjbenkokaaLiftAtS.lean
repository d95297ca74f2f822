/-
  What functions answer: that the evaluator answers so. Printed by a program.
-/
import Derived.Test.YtihlcjjbenkokaaLiftAtC
set_option linter.unusedVariables false
set_option linter.unusedSimpArgs false
set_option maxRecDepth 100000
set_option maxHeartbeats 4000000
namespace Go.Proofs.Ytihlcjjbenkokaa
open Go Go.Rf
def z1c : List PT → Option (Bool × AV × List Blk)
  | [.one (.s (.flt .f64 x))] => some (bnot (nanQ .f64 x), A1 (.flt .f64 (fint .down x)), [])
  | _ => none
theorem z0q : SumOne Try.prog 125 z1c := by
  intro pts v news hp w vals hv
  unfold z1c at hp
  split at hp
  · rename_i x
    injection hp with hp
    injection hp with h1 hp
    injection hp with h2 h3
    subst h2
    subst h3
    obtain ⟨l, hl⟩ : ∃ l, l = vals.toList := ⟨_, rfl⟩
    rw [← hl] at hv
    cases hv with
    | cons a1 a2 =>
      cases a2
      obtain ⟨b, hb1, hb2, hb3⟩ := a1
      subst hb1
      rename_i hx
      have hvals : vals = #[.float .f64 b] := by rw [← Array.toList_inj, ← hl]
      subst hvals
      have hn : nanB .f64 b = false := by rw [← nanB_cn, hb3]; simpa [bnot, nanQ] using h1
      rw [cn_of_not hn] at hb3
      subst hb3
      refine .inl ⟨_, w, by (simp only [callFunc, Sem.run_bind, run_program, Result.andThen_ok, Try.func125]; change (do let v ← Extern.MathFloor.toIntegral "math.archFloor" .down #[.float .f64 b]; pure (.value v) : Sem Next).run Try.prog w = _; rw [Sem.run_bind, run_fint hn]; rfl), NoB, ⟨⟨(fun t b' h => by cases t <;> cases h), (fun t t' b1 b2 x x' _ h => by cases t <;> cases h)⟩, (fun t x h => by cases h), Fr.refl _ w⟩, fint_rel hn⟩
  · cases hp
def z0h : List PT → Option (Bool × AV × List Blk)
  | [.one (.s (.int .u64 x))] => some (okU .f64 x, A1 (.flt .f64 (cnI .f64 x)), [])
  | _ => none
theorem z0g : SumOne Try.prog 128 z0h := by
  intro pts v news hp w vals hv
  unfold z0h at hp
  split at hp
  · rename_i x
    injection hp with hp
    injection hp with h1 hp
    injection hp with h2 h3
    subst h2
    subst h3
    obtain ⟨l, hl⟩ : ∃ l, l = vals.toList := ⟨_, rfl⟩
    rw [← hl] at hv
    cases hv with
    | cons a1 a2 =>
      cases a2
      have hb1 : _ = Value.int .u64 x := a1
      subst hb1
      rename_i hx
      have hvals : vals = #[.int .u64 x] := by rw [← Array.toList_inj, ← hl]
      subst hvals
      have hw := okU_lt h1
      refine .inl ⟨_, w, by (simp only [callFunc, Sem.run_bind, run_program, Result.andThen_ok, Try.func128]; rfl), NoB, ⟨⟨(fun t b' h => by cases t <;> cases h), (fun t t' b1 b2 x x' _ h => by cases t <;> cases h)⟩, (fun t x h => by cases h), Fr.refl _ w⟩, ⟨_, rfl, hw, rfl⟩⟩
  · cases hp
def z0r : List PT → Option (Bool × AV × List Blk)
  | [.one (.s (.flt .f64 x))] => some (bnot (nanQ .f64 x), A1 (.int .u64 x), [])
  | _ => none
theorem z0k : SumOne Try.prog 134 z0r := by
  intro pts v news hp w vals hv
  unfold z0r at hp
  split at hp
  · rename_i x
    injection hp with hp
    injection hp with h1 hp
    injection hp with h2 h3
    subst h2
    subst h3
    obtain ⟨l, hl⟩ : ∃ l, l = vals.toList := ⟨_, rfl⟩
    rw [← hl] at hv
    cases hv with
    | cons a1 a2 =>
      cases a2
      obtain ⟨b, hb1, hb2, hb3⟩ := a1
      subst hb1
      rename_i hx
      have hvals : vals = #[.float .f64 b] := by rw [← Array.toList_inj, ← hl]
      subst hvals
      have hn : nanB .f64 b = false := by rw [← nanB_cn, hb3]; simpa [bnot, nanQ] using h1
      rw [cn_of_not hn] at hb3
      subst hb3
      refine .inl ⟨_, w, by (simp only [callFunc, Sem.run_bind, run_program, Result.andThen_ok, Try.func134]; rfl), NoB, ⟨⟨(fun t b' h => by cases t <;> cases h), (fun t t' b1 b2 x x' _ h => by cases t <;> cases h)⟩, (fun t x h => by cases h), Fr.refl _ w⟩, rfl⟩
  · cases hp
def z1b : List PT → Option (Bool × AV × List Blk)
  | [.one (.s (.flt .f64 x))] => some (bnot (nanQ .f64 x), A1 (.flt .f64 (fint .zero x)), [])
  | _ => none
theorem z0p : SumOne Try.prog 137 z1b := by
  intro pts v news hp w vals hv
  unfold z1b at hp
  split at hp
  · rename_i x
    injection hp with hp
    injection hp with h1 hp
    injection hp with h2 h3
    subst h2
    subst h3
    obtain ⟨l, hl⟩ : ∃ l, l = vals.toList := ⟨_, rfl⟩
    rw [← hl] at hv
    cases hv with
    | cons a1 a2 =>
      cases a2
      obtain ⟨b, hb1, hb2, hb3⟩ := a1
      subst hb1
      rename_i hx
      have hvals : vals = #[.float .f64 b] := by rw [← Array.toList_inj, ← hl]
      subst hvals
      have hn : nanB .f64 b = false := by rw [← nanB_cn, hb3]; simpa [bnot, nanQ] using h1
      rw [cn_of_not hn] at hb3
      subst hb3
      refine .inl ⟨_, w, by (simp only [callFunc, Sem.run_bind, run_program, Result.andThen_ok, Try.func137]; change (do let v ← Extern.MathFloor.toIntegral "math.archTrunc" .zero #[.float .f64 b]; pure (.value v) : Sem Next).run Try.prog w = _; rw [Sem.run_bind, run_fint hn]; rfl), NoB, ⟨⟨(fun t b' h => by cases t <;> cases h), (fun t t' b1 b2 x x' _ h => by cases t <;> cases h)⟩, (fun t x h => by cases h), Fr.refl _ w⟩, fint_rel hn⟩
  · cases hp
noncomputable def tb0 : List (Nat × (List PT → Option (Bool × AV × List Blk))) := [(125, z1c), (128, z0h), (134, z0r), (137, z1b)]
noncomputable def lt0 : List ((Nat × Nat) × (Nat → St → Option (Bool × LO))) := []
noncomputable def Γ0 : Ctx := ⟨tyTab, fnTab, tblSum tb0, tblLp lt0⟩
theorem tb0_ok : SumL Try.prog tb0 := SumL.cons z0q (SumL.cons z0g (SumL.cons z0k (SumL.cons z0p (SumL.nil))))
theorem lt0_ok : LpL Try.prog fnTab lt0 := LpL.nil
noncomputable def z1i : List PT → Option (Bool × AV × List Blk)
  | [.one (.s (.flt .f64 a)), .one (.s (.flt .f64 b))] => some ((z7f a b), ((AV.v (TV.one (At.bool (z6v a b)))), []))
  | _ => none
def zb3 (a : Nat) (b : Nat) : Option (Bool) → Option (AV × List Blk)
  | some r => some ((AV.v (TV.one (At.bool r))), [])
  | none => none
theorem ze7 (a : Nat) (b : Nat) : evFn Γ0 8 8 18 (impTs 0 [.one (.s (.flt .f64 a)), .one (.s (.flt .f64 b))]).1 (impTs 0 [.one (.s (.flt .f64 a)), .one (.s (.flt .f64 b))]).2 (expo (impTs 0 [.one (.s (.flt .f64 a)), .one (.s (.flt .f64 b))]).2.length) = z68 a b (fun c0_ => some ((AV.v (TV.one (At.bool c0_))), [])) := by kernel_rfl
theorem z0v : SumOne Try.prog 18 z1i := sum_of (Γ := Γ0) (fuel := 8) (d := 8) tyTab_ok (FnL.ok fnTab_ok _ _) (LpL.ok lt0_ok) (SumL.ok tb0_ok _) mixed (by
  intro pts v news hp hc
  clear hc
  unfold z1i at hp
  split at hp
  · rename_i a b
    exact Eq.trans (Eq.trans (ze7 a b) (zch (zb3 a b) rfl a b (fun c0_ => some c0_))) (fin_out (o := (zb3 a b)) (x := z6c a b) (d := default) (V := fun r => ((AV.v (TV.one (At.bool r))), [])) (fun r => rfl) hp)
  · cases hp)
noncomputable def z16 : List PT → Option (Bool × AV × List Blk)
  | [.one (.row 1 a_n (.fl .f32 a)), .one (.s (.int .i64 q0x))] => some ((z5s a_n a q0x), ((AV.v (TV.one (At.int IntKind.i64 (z3g a_n a q0x)))), []))
  | _ => none
def zay (a_n : Nat) (a : List Nat) (q0x : Int) : Option (Int) → Option (AV × List Blk)
  | some r => some ((AV.v (TV.one (At.int IntKind.i64 r))), [])
  | none => none
theorem zdf (a_n : Nat) (a : List Nat) (q0x : Int) : evFn Γ0 8 8 48 (impTs 0 [.one (.row 1 a_n (.fl .f32 a)), .one (.s (.int .i64 q0x))]).1 (impTs 0 [.one (.row 1 a_n (.fl .f32 a)), .one (.s (.int .i64 q0x))]).2 (expo (impTs 0 [.one (.row 1 a_n (.fl .f32 a)), .one (.s (.int .i64 q0x))]).2.length) = z5q a_n a q0x (fun c0_ => some ((AV.v (TV.one (At.int IntKind.i64 c0_))), [])) := by kernel_rfl
theorem z0n : SumOne Try.prog 48 z16 := sum_of (Γ := Γ0) (fuel := 8) (d := 8) tyTab_ok (FnL.ok fnTab_ok _ _) (LpL.ok lt0_ok) (SumL.ok tb0_ok _) mixed (by
  intro pts v news hp hc
  clear hc
  unfold z16 at hp
  split at hp
  · rename_i a_n a q0x
    exact Eq.trans (Eq.trans (zdf a_n a q0x) (zby (zay a_n a q0x) rfl a_n a q0x (fun c0_ => some c0_))) (fin_out (o := (zay a_n a q0x)) (x := z5u a_n a q0x) (d := default) (V := fun r => ((AV.v (TV.one (At.int IntKind.i64 r))), [])) (fun r => rfl) hp)
  · cases hp)
noncomputable def z1v : List PT → Option (Bool × AV × List Blk)
  | [.one (.s (.flt .f32 x))] => some ((z5p x), ((AV.v (TV.one (At.bool (z5b x)))), []))
  | _ => none
def zbj (x : Nat) : Option (Bool) → Option (AV × List Blk)
  | some r => some ((AV.v (TV.one (At.bool r))), [])
  | none => none
theorem zef (x : Nat) : evFn Γ0 8 8 54 (impTs 0 [.one (.s (.flt .f32 x))]).1 (impTs 0 [.one (.s (.flt .f32 x))]).2 (expo (impTs 0 [.one (.s (.flt .f32 x))]).2.length) = z7z x (fun c0_ => some ((AV.v (TV.one (At.bool c0_))), [])) := by kernel_rfl
theorem z14 : SumOne Try.prog 54 z1v := sum_of (Γ := Γ0) (fuel := 8) (d := 8) tyTab_ok (FnL.ok fnTab_ok _ _) (LpL.ok lt0_ok) (SumL.ok tb0_ok _) mixed (by
  intro pts v news hp hc
  clear hc
  unfold z1v at hp
  split at hp
  · rename_i x
    exact Eq.trans (Eq.trans (zef x) (zcv (zbj x) rfl x (fun c0_ => some c0_))) (fin_out (o := (zbj x)) (x := z81 x) (d := default) (V := fun r => ((AV.v (TV.one (At.bool r))), [])) (fun r => rfl) hp)
  · cases hp)
noncomputable def z1k : List PT → Option (Bool × AV × List Blk)
  | [.one (.s (.flt .f32 x))] => some ((z4j x), ((AV.v (TV.one (At.bool (z4f x)))), []))
  | _ => none
def zb4 (x : Nat) : Option (Bool) → Option (AV × List Blk)
  | some r => some ((AV.v (TV.one (At.bool r))), [])
  | none => none
theorem zeb (x : Nat) : evFn Γ0 8 8 61 (impTs 0 [.one (.s (.flt .f32 x))]).1 (impTs 0 [.one (.s (.flt .f32 x))]).2 (expo (impTs 0 [.one (.s (.flt .f32 x))]).2.length) = z7d x (fun c0_ => some ((AV.v (TV.one (At.bool c0_))), [])) := by kernel_rfl
theorem z0u : SumOne Try.prog 61 z1k := sum_of (Γ := Γ0) (fuel := 8) (d := 8) tyTab_ok (FnL.ok fnTab_ok _ _) (LpL.ok lt0_ok) (SumL.ok tb0_ok _) mixed (by
  intro pts v news hp hc
  clear hc
  unfold z1k at hp
  split at hp
  · rename_i x
    exact Eq.trans (Eq.trans (zeb x) (zcn (zb4 x) rfl x (fun c0_ => some c0_))) (fin_out (o := (zb4 x)) (x := z7c x) (d := default) (V := fun r => ((AV.v (TV.one (At.bool r))), [])) (fun r => rfl) hp)
  · cases hp)
noncomputable def z1u : List PT → Option (Bool × AV × List Blk)
  | [.one (.s (.flt .f32 x)), .one (.s (.flt .f32 low)), .one (.s (.flt .f32 q15))] => some ((z9r x low q15), ((AV.v (TV.one (At.bool (z9e x low q15)))), []))
  | _ => none
def zbl (x : Nat) (low : Nat) (q15 : Nat) : Option (Bool) → Option (AV × List Blk)
  | some r => some ((AV.v (TV.one (At.bool r))), [])
  | none => none
theorem zem (x : Nat) (low : Nat) (q15 : Nat) : evFn Γ0 8 8 97 (impTs 0 [.one (.s (.flt .f32 x)), .one (.s (.flt .f32 low)), .one (.s (.flt .f32 q15))]).1 (impTs 0 [.one (.s (.flt .f32 x)), .one (.s (.flt .f32 low)), .one (.s (.flt .f32 q15))]).2 (expo (impTs 0 [.one (.s (.flt .f32 x)), .one (.s (.flt .f32 low)), .one (.s (.flt .f32 q15))]).2.length) = z6t x low q15 (fun c0_ => some ((AV.v (TV.one (At.bool c0_))), [])) := by kernel_rfl
theorem z15 : SumOne Try.prog 97 z1u := sum_of (Γ := Γ0) (fuel := 8) (d := 8) tyTab_ok (FnL.ok fnTab_ok _ _) (LpL.ok lt0_ok) (SumL.ok tb0_ok _) mixed (by
  intro pts v news hp hc
  clear hc
  unfold z1u at hp
  split at hp
  · rename_i x low q15
    exact Eq.trans (Eq.trans (zem x low q15) (zcw (zbl x low q15) rfl x low q15 (fun c0_ => some c0_))) (fin_out (o := (zbl x low q15)) (x := z6p x low q15) (d := default) (V := fun r => ((AV.v (TV.one (At.bool r))), [])) (fun r => rfl) hp)
  · cases hp)
noncomputable def z2n : List PT → Option (Bool × AV × List Blk)
  | [.one (.s (.flt .f32 a)), .one (.s (.flt .f32 b)), .one (.s (.flt .f32 q14))] => some ((z9w a b q14), ((AV.v (TV.one (At.flt FloatKind.f32 (z9j a b q14)))), []))
  | _ => none
def zd1 (a : Nat) (b : Nat) (q14 : Nat) : Option (Nat) → Option (AV × List Blk)
  | some r => some ((AV.v (TV.one (At.flt FloatKind.f32 r))), [])
  | none => none
theorem zf6 (a : Nat) (b : Nat) (q14 : Nat) : evFn Γ0 8 8 102 (impTs 0 [.one (.s (.flt .f32 a)), .one (.s (.flt .f32 b)), .one (.s (.flt .f32 q14))]).1 (impTs 0 [.one (.s (.flt .f32 a)), .one (.s (.flt .f32 b)), .one (.s (.flt .f32 q14))]).2 (expo (impTs 0 [.one (.s (.flt .f32 a)), .one (.s (.flt .f32 b)), .one (.s (.flt .f32 q14))]).2.length) = z9t a b q14 (fun c0_ => some ((AV.v (TV.one (At.flt FloatKind.f32 c0_))), [])) := by kernel_rfl
theorem z22 : SumOne Try.prog 102 z2n := sum_of (Γ := Γ0) (fuel := 8) (d := 8) tyTab_ok (FnL.ok fnTab_ok _ _) (LpL.ok lt0_ok) (SumL.ok tb0_ok _) mixed (by
  intro pts v news hp hc
  clear hc
  unfold z2n at hp
  split at hp
  · rename_i a b q14
    exact Eq.trans (Eq.trans (zf6 a b q14) (zed (zd1 a b q14) rfl a b q14 (fun c0_ => some c0_))) (fin_out (o := (zd1 a b q14)) (x := z9x a b q14) (d := default) (V := fun r => ((AV.v (TV.one (At.flt FloatKind.f32 r))), [])) (fun r => rfl) hp)
  · cases hp)
noncomputable def z1j : List PT → Option (Bool × AV × List Blk)
  | [.one (.s (.flt .f64 x))] => some ((z97 x), ((AV.v (TV.one (At.flt FloatKind.f32 (z6y x)))), []))
  | _ => none
def zb5 (x : Nat) : Option (Nat) → Option (AV × List Blk)
  | some r => some ((AV.v (TV.one (At.flt FloatKind.f32 r))), [])
  | none => none
theorem zec (x : Nat) : evFn Γ0 8 8 109 (impTs 0 [.one (.s (.flt .f64 x))]).1 (impTs 0 [.one (.s (.flt .f64 x))]).2 (expo (impTs 0 [.one (.s (.flt .f64 x))]).2.length) = z67 x (fun c0_ => some ((AV.v (TV.one (At.flt FloatKind.f32 c0_))), [])) := by kernel_rfl
theorem z0t : SumOne Try.prog 109 z1j := sum_of (Γ := Γ0) (fuel := 8) (d := 8) tyTab_ok (FnL.ok fnTab_ok _ _) (LpL.ok lt0_ok) (SumL.ok tb0_ok _) mixed (by
  intro pts v news hp hc
  clear hc
  unfold z1j at hp
  split at hp
  · rename_i x
    exact Eq.trans (Eq.trans (zec x) (zco (zb5 x) rfl x (fun c0_ => some c0_))) (fin_out (o := (zb5 x)) (x := z6b x) (d := default) (V := fun r => ((AV.v (TV.one (At.flt FloatKind.f32 r))), [])) (fun r => rfl) hp)
  · cases hp)
noncomputable def tb1 : List (Nat × (List PT → Option (Bool × AV × List Blk))) := [(125, z1c), (128, z0h), (134, z0r), (137, z1b), (18, z1i), (48, z16), (54, z1v), (61, z1k), (97, z1u), (102, z2n), (109, z1j)]
noncomputable def lt1 : List ((Nat × Nat) × (Nat → St → Option (Bool × LO))) := []
noncomputable def Γ1 : Ctx := ⟨tyTab, fnTab, tblSum tb1, tblLp lt1⟩
theorem tb1_ok : SumL Try.prog tb1 := SumL.cons z0q (SumL.cons z0g (SumL.cons z0k (SumL.cons z0p (SumL.cons z0v (SumL.cons z0n (SumL.cons z14 (SumL.cons z0u (SumL.cons z15 (SumL.cons z22 (SumL.cons z0t (SumL.nil)))))))))))
theorem lt1_ok : LpL Try.prog fnTab lt1 := LpL.nil
noncomputable def z1p : List PT → Option (Bool × AV × List Blk)
  | [.agg [.row 1 q0f (.fl .f32 q0n), .row 1 q0i (.fl .f32 q0o), .row 1 q0l (.fl .f32 q0p)], .one (.s (.int .i64 q0x))] => some ((z7g q0f q0n q0i q0o q0l q0p q0x), ((AV.v (TV.one (At.int IntKind.i64 (z6w q0f q0n q0i q0o q0l q0p q0x)))), []))
  | _ => none
def zba (q0f : Nat) (q0n : List Nat) (q0i : Nat) (q0o : List Nat) (q0l : Nat) (q0p : List Nat) (q0x : Int) : Option (Int) → Option (AV × List Blk)
  | some r => some ((AV.v (TV.one (At.int IntKind.i64 r))), [])
  | none => none
theorem zdy (q0f : Nat) (q0n : List Nat) (q0i : Nat) (q0o : List Nat) (q0l : Nat) (q0p : List Nat) (q0x : Int) : evFn Γ1 8 8 14 (impTs 0 [.agg [.row 1 q0f (.fl .f32 q0n), .row 1 q0i (.fl .f32 q0o), .row 1 q0l (.fl .f32 q0p)], .one (.s (.int .i64 q0x))]).1 (impTs 0 [.agg [.row 1 q0f (.fl .f32 q0n), .row 1 q0i (.fl .f32 q0o), .row 1 q0l (.fl .f32 q0p)], .one (.s (.int .i64 q0x))]).2 (expo (impTs 0 [.agg [.row 1 q0f (.fl .f32 q0n), .row 1 q0i (.fl .f32 q0o), .row 1 q0l (.fl .f32 q0p)], .one (.s (.int .i64 q0x))]).2.length) = z6j q0f q0n q0i q0o q0l q0p q0x (fun c0_ => some ((AV.v (TV.one (At.int IntKind.i64 c0_))), [])) := by kernel_rfl
theorem z12 : SumOne Try.prog 14 z1p := sum_of (Γ := Γ1) (fuel := 8) (d := 8) tyTab_ok (FnL.ok fnTab_ok _ _) (LpL.ok lt1_ok) (SumL.ok tb1_ok _) mixed (by
  intro pts v news hp hc
  clear hc
  unfold z1p at hp
  split at hp
  · rename_i q0f q0n q0i q0o q0l q0p q0x
    exact Eq.trans (Eq.trans (zdy q0f q0n q0i q0o q0l q0p q0x) (zcc (zba q0f q0n q0i q0o q0l q0p q0x) rfl q0f q0n q0i q0o q0l q0p q0x (fun c0_ => some c0_))) (fin_out (o := (zba q0f q0n q0i q0o q0l q0p q0x)) (x := z6g q0f q0n q0i q0o q0l q0p q0x) (d := default) (V := fun r => ((AV.v (TV.one (At.int IntKind.i64 r))), [])) (fun r => rfl) hp)
  · cases hp)
noncomputable def z1q : List PT → Option (Bool × AV × List Blk)
  | [.one (.s (.flt .f32 x))] => some ((z99 x), ((AV.tup [(TV.one (At.flt FloatKind.f32 (z8k x))), (TV.one (At.bool (z8g x)))]), []))
  | _ => none
def zbe (x : Nat) : Option (Nat × Bool) → Option (AV × List Blk)
  | some r => some ((AV.tup [(TV.one (At.flt FloatKind.f32 r.1)), (TV.one (At.bool r.2))]), [])
  | none => none
theorem ze5 (x : Nat) : evFn Γ1 8 8 51 (impTs 0 [.one (.s (.flt .f32 x))]).1 (impTs 0 [.one (.s (.flt .f32 x))]).2 (expo (impTs 0 [.one (.s (.flt .f32 x))]).2.length) = z6i x (fun c0_ c1_ => some ((AV.tup [(TV.one (At.flt FloatKind.f32 c0_)), (TV.one (At.bool c1_))]), [])) := by kernel_rfl
theorem z11 : SumOne Try.prog 51 z1q := sum_of (Γ := Γ1) (fuel := 8) (d := 8) tyTab_ok (FnL.ok fnTab_ok _ _) (LpL.ok lt1_ok) (SumL.ok tb1_ok _) mixed (by
  intro pts v news hp hc
  clear hc
  unfold z1q at hp
  split at hp
  · rename_i x
    exact Eq.trans (Eq.trans (ze5 x) (zcm (zbe x) rfl x (fun c0_ c1_ => some (c0_, c1_)))) (fin_out (o := (zbe x)) (x := z59 x) (d := default) (V := fun r => ((AV.tup [(TV.one (At.flt FloatKind.f32 r.1)), (TV.one (At.bool r.2))]), [])) (fun r => rfl) hp)
  · cases hp)
noncomputable def z27 : List PT → Option (Bool × AV × List Blk)
  | [.one (.s (.flt .f32 x))] => some ((zaa x), ((AV.tup [(TV.one (At.flt FloatKind.f32 (z9m x))), (TV.one (At.bool (z9o x)))]), []))
  | _ => none
def zbx (x : Nat) : Option (Nat × Bool) → Option (AV × List Blk)
  | some r => some ((AV.tup [(TV.one (At.flt FloatKind.f32 r.1)), (TV.one (At.bool r.2))]), [])
  | none => none
theorem zeq (x : Nat) : evFn Γ1 8 8 56 (impTs 0 [.one (.s (.flt .f32 x))]).1 (impTs 0 [.one (.s (.flt .f32 x))]).2 (expo (impTs 0 [.one (.s (.flt .f32 x))]).2.length) = z7b x (fun c0_ c1_ => some ((AV.tup [(TV.one (At.flt FloatKind.f32 c0_)), (TV.one (At.bool c1_))]), [])) := by kernel_rfl
theorem z1m : SumOne Try.prog 56 z27 := sum_of (Γ := Γ1) (fuel := 8) (d := 8) tyTab_ok (FnL.ok fnTab_ok _ _) (LpL.ok lt1_ok) (SumL.ok tb1_ok _) mixed (by
  intro pts v news hp hc
  clear hc
  unfold z27 at hp
  split at hp
  · rename_i x
    exact Eq.trans (Eq.trans (zeq x) (zd0 (zbx x) rfl x (fun c0_ c1_ => some (c0_, c1_)))) (fin_out (o := (zbx x)) (x := z66 x) (d := default) (V := fun r => ((AV.tup [(TV.one (At.flt FloatKind.f32 r.1)), (TV.one (At.bool r.2))]), [])) (fun r => rfl) hp)
  · cases hp)
noncomputable def z1y : List PT → Option (Bool × AV × List Blk)
  | [.one (.s (.flt .f32 x))] => some ((z5m x), ((AV.v (TV.one (At.bool (z5a x)))), []))
  | _ => none
def zbm (x : Nat) : Option (Bool) → Option (AV × List Blk)
  | some r => some ((AV.v (TV.one (At.bool r))), [])
  | none => none
theorem zeg (x : Nat) : evFn Γ1 8 8 103 (impTs 0 [.one (.s (.flt .f32 x))]).1 (impTs 0 [.one (.s (.flt .f32 x))]).2 (expo (impTs 0 [.one (.s (.flt .f32 x))]).2.length) = z6o x (fun c0_ => some ((AV.v (TV.one (At.bool c0_))), [])) := by kernel_rfl
theorem z19 : SumOne Try.prog 103 z1y := sum_of (Γ := Γ1) (fuel := 8) (d := 8) tyTab_ok (FnL.ok fnTab_ok _ _) (LpL.ok lt1_ok) (SumL.ok tb1_ok _) mixed (by
  intro pts v news hp hc
  clear hc
  unfold z1y at hp
  split at hp
  · rename_i x
    exact Eq.trans (Eq.trans (zeg x) (zcz (zbm x) rfl x (fun c0_ => some c0_))) (fin_out (o := (zbm x)) (x := z6r x) (d := default) (V := fun r => ((AV.v (TV.one (At.bool r))), [])) (fun r => rfl) hp)
  · cases hp)
noncomputable def z28 : List PT → Option (Bool × AV × List Blk)
  | [.one (.s (.flt .f32 x))] => some ((za5 x), ((AV.v (TV.one (At.bool (z9q x)))), []))
  | _ => none
def zc7 (x : Nat) : Option (Bool) → Option (AV × List Blk)
  | some r => some ((AV.v (TV.one (At.bool r))), [])
  | none => none
theorem zeu (x : Nat) : evFn Γ1 8 8 111 (impTs 0 [.one (.s (.flt .f32 x))]).1 (impTs 0 [.one (.s (.flt .f32 x))]).2 (expo (impTs 0 [.one (.s (.flt .f32 x))]).2.length) = z77 x (fun c0_ => some ((AV.v (TV.one (At.bool c0_))), [])) := by kernel_rfl
theorem z1n : SumOne Try.prog 111 z28 := sum_of (Γ := Γ1) (fuel := 8) (d := 8) tyTab_ok (FnL.ok fnTab_ok _ _) (LpL.ok lt1_ok) (SumL.ok tb1_ok _) mixed (by
  intro pts v news hp hc
  clear hc
  unfold z28 at hp
  split at hp
  · rename_i x
    exact Eq.trans (Eq.trans (zeu x) (zd5 (zc7 x) rfl x (fun c0_ => some c0_))) (fin_out (o := (zc7 x)) (x := z75 x) (d := default) (V := fun r => ((AV.v (TV.one (At.bool r))), [])) (fun r => rfl) hp)
  · cases hp)
noncomputable def z10 : List PT → Option (Bool × AV × List Blk)
  | [.one (.s (.flt .f32 x))] => some ((z7w x), ((AV.v (TV.one (At.bool (z7h x)))), []))
  | _ => none
def zas (x : Nat) : Option (Bool) → Option (AV × List Blk)
  | some r => some ((AV.v (TV.one (At.bool r))), [])
  | none => none
theorem zdc (x : Nat) : evFn Γ1 8 8 118 (impTs 0 [.one (.s (.flt .f32 x))]).1 (impTs 0 [.one (.s (.flt .f32 x))]).2 (expo (impTs 0 [.one (.s (.flt .f32 x))]).2.length) = z5j x (fun c0_ => some ((AV.v (TV.one (At.bool c0_))), [])) := by kernel_rfl
theorem z0m : SumOne Try.prog 118 z10 := sum_of (Γ := Γ1) (fuel := 8) (d := 8) tyTab_ok (FnL.ok fnTab_ok _ _) (LpL.ok lt1_ok) (SumL.ok tb1_ok _) mixed (by
  intro pts v news hp hc
  clear hc
  unfold z10 at hp
  split at hp
  · rename_i x
    exact Eq.trans (Eq.trans (zdc x) (zbr (zas x) rfl x (fun c0_ => some c0_))) (fin_out (o := (zas x)) (x := z5e x) (d := default) (V := fun r => ((AV.v (TV.one (At.bool r))), [])) (fun r => rfl) hp)
  · cases hp)
noncomputable def zad (an : Nat) (q13 : Nat) (i : Int) (b0 : List Nat) (b1 : List Nat) : Bool × LO := ((z5o an q13 b0 i b1), (LO.one (Ex.exit 0) (St.mk [(0, (AV.v (TV.one (At.vw 0 0 an 1)))), (3, (AV.v (TV.one (At.sl 1 0 q13 1)))), (4, (AV.v (TV.one (At.int IntKind.i64 (z7n an q13 b0 i b1))))), (11, (AV.v (TV.one (At.bool (z7m an q13 b0 i b1)))))] [(Blk.mk Bool.false (Body.fl FloatKind.f32 b0)), (Blk.mk Bool.true (Body.fl FloatKind.f32 (z4y an q13 b0 i b1)))])))
noncomputable def z0o : Nat → St → Option (Bool × LO) := lpT 1 (pSt [(pTm 0 (pV (pOne (pVw 0 (liN 0) 1)))), (pTm 3 (pV (pOne (pSl 1 (liN 0) 1)))), (pTm 4 (pV (pOne (pInt IntKind.i64))))] [(pBlk Bool.false (pFl FloatKind.f32)), (pBlk Bool.true (pFl FloatKind.f32))]) (fun hs => zad (hvN (hGet hs 0)) (hvN (hGet hs 1)) (hvI (hGet hs 2)) (hvLn (hGet hs 3)) (hvLn (hGet hs 4)))
def z71 (an : Nat) (q13 : Nat) (b0 : List Nat) : Option ((Int × Bool × (List Nat))) → Option (Ex × St)
  | none => none
  | some r => some ((Ex.exit 0), (St.mk [(0, (AV.v (TV.one (At.vw 0 0 an 1)))), (3, (AV.v (TV.one (At.sl 1 0 q13 1)))), (4, (AV.v (TV.one (At.int IntKind.i64 r.1)))), (11, (AV.v (TV.one (At.bool r.2.1))))] [(Blk.mk Bool.false (Body.fl FloatKind.f32 b0)), (Blk.mk Bool.true (Body.fl FloatKind.f32 r.2.2))]))
def zc3 (an : Nat) (q13 : Nat) (b0 : List Nat) (x : Option ((Int × Bool × (List Nat)))) : LO := (LO.one (Ex.exit 0) (St.mk [(0, (AV.v (TV.one (At.vw 0 0 an 1)))), (3, (AV.v (TV.one (At.sl 1 0 q13 1)))), (4, (AV.v (TV.one (At.int IntKind.i64 (x.getD default).1)))), (11, (AV.v (TV.one (At.bool (x.getD default).2.1))))] [(Blk.mk Bool.false (Body.fl FloatKind.f32 b0)), (Blk.mk Bool.true (Body.fl FloatKind.f32 (x.getD default).2.2))]))
theorem zcj (an : Nat) (q13 : Nat) (b0 : List Nat) : ∀ x : Option ((Int × Bool × (List Nat))), x.isSome = true → (z71 an q13 b0) x = some (pick (zc3 an q13 b0 x))
  | none, h => by cases h
  | some r, _ => rfl
theorem zc8 (an : Nat) (q13 : Nat) (i : Int) (b0 : List Nat) (b1 : List Nat) (K : Ex → St → Option (Ex × St)) : evC (R := Ex × St) Γ1 (evFn Γ1 8 8) 52 1 fi52.nt fi52.live fi52.nl 8 (findL 3 (loopsIn fi52.code)) (St.mk [(0, (AV.v (TV.one (At.vw 0 0 an 1)))), (3, (AV.v (TV.one (At.sl 1 0 q13 1)))), (4, (AV.v (TV.one (At.int IntKind.i64 i))))] [(Blk.mk Bool.false (Body.fl FloatKind.f32 b0)), (Blk.mk Bool.true (Body.fl FloatKind.f32 b1))]) K = z46 an q13 b0 i b1 (fun i' b1' => K .normal (St.mk [(0, (AV.v (TV.one (At.vw 0 0 an 1)))), (3, (AV.v (TV.one (At.sl 1 0 q13 1)))), (4, (AV.v (TV.one (At.int IntKind.i64 i'))))] [(Blk.mk Bool.false (Body.fl FloatKind.f32 b0)), (Blk.mk Bool.true (Body.fl FloatKind.f32 b1'))])) (fun c0_ c1_ c2_ => K (Ex.exit 0) (St.mk [(0, (AV.v (TV.one (At.vw 0 0 an 1)))), (3, (AV.v (TV.one (At.sl 1 0 q13 1)))), (4, (AV.v (TV.one (At.int IntKind.i64 c0_)))), (11, (AV.v (TV.one (At.bool c1_))))] [(Blk.mk Bool.false (Body.fl FloatKind.f32 b0)), (Blk.mk Bool.true (Body.fl FloatKind.f32 c2_))])) := by kernel_rfl
theorem zc9 (an : Nat) (q13 : Nat) (b0 : List Nat) : ∀ (n : Nat) (i : Int) (b1 : List Nat), iter 52 3 1 (evC (R := Ex × St) Γ1 (evFn Γ1 8 8) 52 1 fi52.nt fi52.live fi52.nl 8 (findL 3 (loopsIn fi52.code))) n (St.mk [(0, (AV.v (TV.one (At.vw 0 0 an 1)))), (3, (AV.v (TV.one (At.sl 1 0 q13 1)))), (4, (AV.v (TV.one (At.int IntKind.i64 i))))] [(Blk.mk Bool.false (Body.fl FloatKind.f32 b0)), (Blk.mk Bool.true (Body.fl FloatKind.f32 b1))]) (fun e st => some (e, st)) = (z71 an q13 b0) (z3r an q13 b0 n i b1) := by
  intro n
  induction n with
  | zero => intros; rfl
  | succ n ih =>
    intro i b1
    refine Eq.trans (iter_succ ..) (Eq.trans (zc8 an q13 i b0 b1 (nextK 52 3 1 (evC (R := Ex × St) Γ1 (evFn Γ1 8 8) 52 1 fi52.nt fi52.live fi52.nl 8 (findL 3 (loopsIn fi52.code))) n (fun e st => some (e, st)))) (Eq.trans ?_ (zbd (z71 an q13 b0) rfl an q13 b0 i b1 (fun i' b1' => z3r an q13 b0 n i' b1') (fun c0_ c1_ c2_ => some (c0_, c1_, c2_)))))
    exact congrArg (fun kn_ => z46 an q13 b0 i b1 kn_ (fun c0_ c1_ c2_ => (z71 an q13 b0) (some (c0_, c1_, c2_)))) (funext fun i' => funext fun b1' => ih i' b1')
theorem z0i : LoopOne Try.prog fnTab 52 3 z0o := lp_of (Γ := Γ1) tyTab_ok (FnL.ok fnTab_ok _ _) (LpL.ok lt1_ok) (SumL.ok tb1_ok _) mixed (fi := fi52) (by kernel_rfl) (by kernel_rfl) (by
  intro lo st out hp
  obtain ⟨hs, e1, e2, e3⟩ := lpT_inv hp
  clear hp
  obtain rfl : st = (St.mk [(0, (AV.v (TV.one (At.vw 0 0 (hvN (hGet hs 0)) 1)))), (3, (AV.v (TV.one (At.sl 1 0 (hvN (hGet hs 1)) 1)))), (4, (AV.v (TV.one (At.int IntKind.i64 (hvI (hGet hs 2))))))] [(Blk.mk Bool.false (Body.fl FloatKind.f32 (hvLn (hGet hs 3)))), (Blk.mk Bool.true (Body.fl FloatKind.f32 (hvLn (hGet hs 4))))]) := e2.trans (by kernel_rfl)
  clear e2
  subst e1
  unfold zad at e3
  injection e3 with h1 h2
  subst h2
  exact ⟨8, 8, big, Eq.trans (zc9 (hvN (hGet hs 0)) (hvN (hGet hs 1)) (hvLn (hGet hs 3)) big (hvI (hGet hs 2)) (hvLn (hGet hs 4))) (zcj (hvN (hGet hs 0)) (hvN (hGet hs 1)) (hvLn (hGet hs 3)) (z3r (hvN (hGet hs 0)) (hvN (hGet hs 1)) (hvLn (hGet hs 3)) big (hvI (hGet hs 2)) (hvLn (hGet hs 4))) h1)⟩)
noncomputable def tb2 : List (Nat × (List PT → Option (Bool × AV × List Blk))) := [(125, z1c), (128, z0h), (134, z0r), (137, z1b), (18, z1i), (48, z16), (54, z1v), (61, z1k), (97, z1u), (102, z2n), (109, z1j), (14, z1p), (51, z1q), (56, z27), (103, z1y), (111, z28), (118, z10)]
noncomputable def lt2 : List ((Nat × Nat) × (Nat → St → Option (Bool × LO))) := [((52, 3), z0o)]
noncomputable def Γ2 : Ctx := ⟨tyTab, fnTab, tblSum tb2, tblLp lt2⟩
theorem tb2_ok : SumL Try.prog tb2 := SumL.cons z0q (SumL.cons z0g (SumL.cons z0k (SumL.cons z0p (SumL.cons z0v (SumL.cons z0n (SumL.cons z14 (SumL.cons z0u (SumL.cons z15 (SumL.cons z22 (SumL.cons z0t (SumL.cons z12 (SumL.cons z11 (SumL.cons z1m (SumL.cons z19 (SumL.cons z1n (SumL.cons z0m (SumL.nil)))))))))))))))))
theorem lt2_ok : LpL Try.prog fnTab lt2 := LpL.cons z0i (LpL.nil)
noncomputable def z1g : List PT → Option (Bool × AV × List Blk)
  | [.one (.row 1 a_n (.fl .f32 a))] => some ((z5y a_n a), ((AV.v (TV.one (At.sl 0 0 (z5d a_n a) 1))), [(Blk.mk Bool.true (Body.fl FloatKind.f32 (z5g a_n a)))]))
  | _ => none
def zb1 (a_n : Nat) (a : List Nat) : Option (Nat × (List Nat)) → Option (AV × List Blk)
  | some r => some ((AV.v (TV.one (At.sl 0 0 r.1 1))), [(Blk.mk Bool.true (Body.fl FloatKind.f32 r.2))])
  | none => none
theorem zdu (a_n : Nat) (a : List Nat) : evFn Γ2 8 8 52 (impTs 0 [.one (.row 1 a_n (.fl .f32 a))]).1 (impTs 0 [.one (.row 1 a_n (.fl .f32 a))]).2 (expo (impTs 0 [.one (.row 1 a_n (.fl .f32 a))]).2.length) = z5r a_n a (fun c0_ c1_ => some ((AV.v (TV.one (At.sl 0 0 c0_ 1))), [(Blk.mk Bool.true (Body.fl FloatKind.f32 c1_))])) := by kernel_rfl
theorem z0x : SumOne Try.prog 52 z1g := sum_of (Γ := Γ2) (fuel := 8) (d := 8) tyTab_ok (FnL.ok fnTab_ok _ _) (LpL.ok lt2_ok) (SumL.ok tb2_ok _) mixed (by
  intro pts v news hp hc
  clear hc
  unfold z1g at hp
  split at hp
  · rename_i a_n a
    exact Eq.trans (Eq.trans (zdu a_n a) (zbu (zb1 a_n a) rfl a_n a (fun c0_ c1_ => some (c0_, c1_)))) (fin_out (o := (zb1 a_n a)) (x := z51 a_n a) (d := default) (V := fun r => ((AV.v (TV.one (At.sl 0 0 r.1 1))), [(Blk.mk Bool.true (Body.fl FloatKind.f32 r.2))])) (fun r => rfl) hp)
  · cases hp)
noncomputable def z1f : List PT → Option (Bool × AV × List Blk)
  | [.one (.s (.flt .f32 x))] => some ((z8l x), ((AV.v (TV.one (At.bool (z7y x)))), []))
  | _ => none
def zaw (x : Nat) : Option (Bool) → Option (AV × List Blk)
  | some r => some ((AV.v (TV.one (At.bool r))), [])
  | none => none
theorem zdr (x : Nat) : evFn Γ2 8 8 119 (impTs 0 [.one (.s (.flt .f32 x))]).1 (impTs 0 [.one (.s (.flt .f32 x))]).2 (expo (impTs 0 [.one (.s (.flt .f32 x))]).2.length) = z5t x (fun c0_ => some ((AV.v (TV.one (At.bool c0_))), [])) := by kernel_rfl
theorem z0w : SumOne Try.prog 119 z1f := sum_of (Γ := Γ2) (fuel := 8) (d := 8) tyTab_ok (FnL.ok fnTab_ok _ _) (LpL.ok lt2_ok) (SumL.ok tb2_ok _) mixed (by
  intro pts v news hp hc
  clear hc
  unfold z1f at hp
  split at hp
  · rename_i x
    exact Eq.trans (Eq.trans (zdr x) (zbz (zaw x) rfl x (fun c0_ => some c0_))) (fin_out (o := (zaw x)) (x := z5z x) (d := default) (V := fun r => ((AV.v (TV.one (At.bool r))), [])) (fun r => rfl) hp)
  · cases hp)
noncomputable def zac (an : Nat) (bn : Nat) (i : Int) (b0 : List Nat) (b1 : List Nat) : Bool × LO := ((z72 an bn b0 b1 i), (LO.two (z6s an bn b0 b1 i) (LO.one Ex.ret (St.mk [(4, (AV.v (TV.one (At.bool Bool.false))))] [(Blk.mk Bool.false (Body.fl FloatKind.f32 b0)), (Blk.mk Bool.false (Body.fl FloatKind.f32 b1))])) (LO.one (Ex.exit 0) (St.mk [(0, (AV.v (TV.one (At.vw 0 0 an 1)))), (1, (AV.v (TV.one (At.vw 1 0 bn 1)))), (5, (AV.v (TV.one (At.int IntKind.i64 (z7p an bn b0 b1 i))))), (14, (AV.v (TV.one (At.bool (z7o an bn b0 b1 i)))))] [(Blk.mk Bool.false (Body.fl FloatKind.f32 b0)), (Blk.mk Bool.false (Body.fl FloatKind.f32 b1))]))))
noncomputable def z0s : Nat → St → Option (Bool × LO) := lpT 2 (pSt [(pTm 0 (pV (pOne (pVw 0 (liN 0) 1)))), (pTm 1 (pV (pOne (pVw 1 (liN 0) 1)))), (pTm 5 (pV (pOne (pInt IntKind.i64))))] [(pBlk Bool.false (pFl FloatKind.f32)), (pBlk Bool.false (pFl FloatKind.f32))]) (fun hs => zac (hvN (hGet hs 0)) (hvN (hGet hs 1)) (hvI (hGet hs 2)) (hvLn (hGet hs 3)) (hvLn (hGet hs 4)))
def z5n (an : Nat) (bn : Nat) (b0 : List Nat) (b1 : List Nat) : Option ((Unit) ⊕ (Int × Bool)) → Option (Ex × St)
  | none => none
  | some (Sum.inl r) => some (Ex.ret, (St.mk [(4, (AV.v (TV.one (At.bool Bool.false))))] [(Blk.mk Bool.false (Body.fl FloatKind.f32 b0)), (Blk.mk Bool.false (Body.fl FloatKind.f32 b1))]))
  | some (Sum.inr r) => some ((Ex.exit 0), (St.mk [(0, (AV.v (TV.one (At.vw 0 0 an 1)))), (1, (AV.v (TV.one (At.vw 1 0 bn 1)))), (5, (AV.v (TV.one (At.int IntKind.i64 r.1)))), (14, (AV.v (TV.one (At.bool r.2))))] [(Blk.mk Bool.false (Body.fl FloatKind.f32 b0)), (Blk.mk Bool.false (Body.fl FloatKind.f32 b1))]))
def zc0 (an : Nat) (bn : Nat) (b0 : List Nat) (b1 : List Nat) (x : Option ((Unit) ⊕ (Int × Bool))) : LO := (LO.two (oL x) (LO.one Ex.ret (St.mk [(4, (AV.v (TV.one (At.bool Bool.false))))] [(Blk.mk Bool.false (Body.fl FloatKind.f32 b0)), (Blk.mk Bool.false (Body.fl FloatKind.f32 b1))])) (LO.one (Ex.exit 0) (St.mk [(0, (AV.v (TV.one (At.vw 0 0 an 1)))), (1, (AV.v (TV.one (At.vw 1 0 bn 1)))), (5, (AV.v (TV.one (At.int IntKind.i64 ((tR x).getD default).1)))), (14, (AV.v (TV.one (At.bool ((tR x).getD default).2))))] [(Blk.mk Bool.false (Body.fl FloatKind.f32 b0)), (Blk.mk Bool.false (Body.fl FloatKind.f32 b1))])))
theorem zca (an : Nat) (bn : Nat) (b0 : List Nat) (b1 : List Nat) : ∀ x : Option ((Unit) ⊕ (Int × Bool)), x.isSome = true → (z5n an bn b0 b1) x = some (pick (zc0 an bn b0 b1 x))
  | none, h => by cases h
  | some (Sum.inl r), _ => rfl
  | some (Sum.inr r), _ => rfl
theorem zcf (an : Nat) (bn : Nat) (i : Int) (b0 : List Nat) (b1 : List Nat) (K : Ex → St → Option (Ex × St)) : evC (R := Ex × St) Γ2 (evFn Γ2 8 8) 57 2 fi57.nt fi57.live fi57.nl 8 (findL 4 (loopsIn fi57.code)) (St.mk [(0, (AV.v (TV.one (At.vw 0 0 an 1)))), (1, (AV.v (TV.one (At.vw 1 0 bn 1)))), (5, (AV.v (TV.one (At.int IntKind.i64 i))))] [(Blk.mk Bool.false (Body.fl FloatKind.f32 b0)), (Blk.mk Bool.false (Body.fl FloatKind.f32 b1))]) K = z48 an bn b0 b1 i (fun i' => K .normal (St.mk [(0, (AV.v (TV.one (At.vw 0 0 an 1)))), (1, (AV.v (TV.one (At.vw 1 0 bn 1)))), (5, (AV.v (TV.one (At.int IntKind.i64 i'))))] [(Blk.mk Bool.false (Body.fl FloatKind.f32 b0)), (Blk.mk Bool.false (Body.fl FloatKind.f32 b1))])) (fun _ => K Ex.ret (St.mk [(4, (AV.v (TV.one (At.bool Bool.false))))] [(Blk.mk Bool.false (Body.fl FloatKind.f32 b0)), (Blk.mk Bool.false (Body.fl FloatKind.f32 b1))])) (fun c0_ c1_ => K (Ex.exit 0) (St.mk [(0, (AV.v (TV.one (At.vw 0 0 an 1)))), (1, (AV.v (TV.one (At.vw 1 0 bn 1)))), (5, (AV.v (TV.one (At.int IntKind.i64 c0_)))), (14, (AV.v (TV.one (At.bool c1_))))] [(Blk.mk Bool.false (Body.fl FloatKind.f32 b0)), (Blk.mk Bool.false (Body.fl FloatKind.f32 b1))])) := by kernel_rfl
theorem zcd (an : Nat) (bn : Nat) (b0 : List Nat) (b1 : List Nat) : ∀ (n : Nat) (i : Int), iter 57 4 2 (evC (R := Ex × St) Γ2 (evFn Γ2 8 8) 57 2 fi57.nt fi57.live fi57.nl 8 (findL 4 (loopsIn fi57.code))) n (St.mk [(0, (AV.v (TV.one (At.vw 0 0 an 1)))), (1, (AV.v (TV.one (At.vw 1 0 bn 1)))), (5, (AV.v (TV.one (At.int IntKind.i64 i))))] [(Blk.mk Bool.false (Body.fl FloatKind.f32 b0)), (Blk.mk Bool.false (Body.fl FloatKind.f32 b1))]) (fun e st => some (e, st)) = (z5n an bn b0 b1) (z3q an bn b0 b1 n i) := by
  intro n
  induction n with
  | zero => intros; rfl
  | succ n ih =>
    intro i
    refine Eq.trans (iter_succ ..) (Eq.trans (zcf an bn i b0 b1 (nextK 57 4 2 (evC (R := Ex × St) Γ2 (evFn Γ2 8 8) 57 2 fi57.nt fi57.live fi57.nl 8 (findL 4 (loopsIn fi57.code))) n (fun e st => some (e, st)))) (Eq.trans ?_ (zbf (z5n an bn b0 b1) rfl an bn b0 b1 i (fun i' => z3q an bn b0 b1 n i') (fun _ => some (Sum.inl ())) (fun c0_ c1_ => some (Sum.inr (c0_, c1_))))))
    exact congrArg (fun kn_ => z48 an bn b0 b1 i kn_ (fun _ => (z5n an bn b0 b1) (some (Sum.inl ()))) (fun c0_ c1_ => (z5n an bn b0 b1) (some (Sum.inr (c0_, c1_))))) (funext fun i' => ih i')
theorem z0j : LoopOne Try.prog fnTab 57 4 z0s := lp_of (Γ := Γ2) tyTab_ok (FnL.ok fnTab_ok _ _) (LpL.ok lt2_ok) (SumL.ok tb2_ok _) mixed (fi := fi57) (by kernel_rfl) (by kernel_rfl) (by
  intro lo st out hp
  obtain ⟨hs, e1, e2, e3⟩ := lpT_inv hp
  clear hp
  obtain rfl : st = (St.mk [(0, (AV.v (TV.one (At.vw 0 0 (hvN (hGet hs 0)) 1)))), (1, (AV.v (TV.one (At.vw 1 0 (hvN (hGet hs 1)) 1)))), (5, (AV.v (TV.one (At.int IntKind.i64 (hvI (hGet hs 2))))))] [(Blk.mk Bool.false (Body.fl FloatKind.f32 (hvLn (hGet hs 3)))), (Blk.mk Bool.false (Body.fl FloatKind.f32 (hvLn (hGet hs 4))))]) := e2.trans (by kernel_rfl)
  clear e2
  subst e1
  unfold zac at e3
  injection e3 with h1 h2
  subst h2
  exact ⟨8, 8, big, Eq.trans (zcd (hvN (hGet hs 0)) (hvN (hGet hs 1)) (hvLn (hGet hs 3)) (hvLn (hGet hs 4)) big (hvI (hGet hs 2))) (zca (hvN (hGet hs 0)) (hvN (hGet hs 1)) (hvLn (hGet hs 3)) (hvLn (hGet hs 4)) (z3q (hvN (hGet hs 0)) (hvN (hGet hs 1)) (hvLn (hGet hs 3)) (hvLn (hGet hs 4)) big (hvI (hGet hs 2))) h1)⟩)
noncomputable def tb3 : List (Nat × (List PT → Option (Bool × AV × List Blk))) := [(125, z1c), (128, z0h), (134, z0r), (137, z1b), (18, z1i), (48, z16), (54, z1v), (61, z1k), (97, z1u), (102, z2n), (109, z1j), (14, z1p), (51, z1q), (56, z27), (103, z1y), (111, z28), (118, z10), (52, z1g), (119, z1f)]
noncomputable def lt3 : List ((Nat × Nat) × (Nat → St → Option (Bool × LO))) := [((52, 3), z0o), ((57, 4), z0s)]
noncomputable def Γ3 : Ctx := ⟨tyTab, fnTab, tblSum tb3, tblLp lt3⟩
theorem tb3_ok : SumL Try.prog tb3 := SumL.cons z0q (SumL.cons z0g (SumL.cons z0k (SumL.cons z0p (SumL.cons z0v (SumL.cons z0n (SumL.cons z14 (SumL.cons z0u (SumL.cons z15 (SumL.cons z22 (SumL.cons z0t (SumL.cons z12 (SumL.cons z11 (SumL.cons z1m (SumL.cons z19 (SumL.cons z1n (SumL.cons z0m (SumL.cons z0x (SumL.cons z0w (SumL.nil)))))))))))))))))))
theorem lt3_ok : LpL Try.prog fnTab lt3 := LpL.cons z0i (LpL.cons z0j (LpL.nil))
noncomputable def z1x : List PT → Option (Bool × AV × List Blk)
  | [.agg [.row 1 q0f (.fl .f32 q0n), .row 1 q0i (.fl .f32 q0o), .row 1 q0l (.fl .f32 q0p)]] => some ((z5c q0f q0n q0i q0o q0l q0p), ((AV.v (TV.agg [(At.sl 0 0 (z2f q0f q0n q0i q0o q0l q0p) 1), (At.sl 1 0 (z2h q0f q0n q0i q0o q0l q0p) 1), (At.sl 2 0 (z2e q0f q0n q0i q0o q0l q0p) 1)])), [(Blk.mk Bool.true (Body.fl FloatKind.f32 (z3f q0f q0n q0i q0o q0l q0p))), (Blk.mk Bool.true (Body.fl FloatKind.f32 (z3d q0f q0n q0i q0o q0l q0p))), (Blk.mk Bool.true (Body.fl FloatKind.f32 (z3e q0f q0n q0i q0o q0l q0p)))]))
  | _ => none
def zbc (q0f : Nat) (q0n : List Nat) (q0i : Nat) (q0o : List Nat) (q0l : Nat) (q0p : List Nat) : Option (Nat × Nat × Nat × (List Nat) × (List Nat) × (List Nat)) → Option (AV × List Blk)
  | some r => some ((AV.v (TV.agg [(At.sl 0 0 r.1 1), (At.sl 1 0 r.2.1 1), (At.sl 2 0 r.2.2.1 1)])), [(Blk.mk Bool.true (Body.fl FloatKind.f32 r.2.2.2.1)), (Blk.mk Bool.true (Body.fl FloatKind.f32 r.2.2.2.2.1)), (Blk.mk Bool.true (Body.fl FloatKind.f32 r.2.2.2.2.2))])
  | none => none
theorem ze6 (q0f : Nat) (q0n : List Nat) (q0i : Nat) (q0o : List Nat) (q0l : Nat) (q0p : List Nat) : evFn Γ3 8 8 16 (impTs 0 [.agg [.row 1 q0f (.fl .f32 q0n), .row 1 q0i (.fl .f32 q0o), .row 1 q0l (.fl .f32 q0p)]]).1 (impTs 0 [.agg [.row 1 q0f (.fl .f32 q0n), .row 1 q0i (.fl .f32 q0o), .row 1 q0l (.fl .f32 q0p)]]).2 (expo (impTs 0 [.agg [.row 1 q0f (.fl .f32 q0n), .row 1 q0i (.fl .f32 q0o), .row 1 q0l (.fl .f32 q0p)]]).2.length) = z6a q0f q0n q0i q0o q0l q0p (fun c0_ c1_ c2_ c3_ c4_ c5_ => some ((AV.v (TV.agg [(At.sl 0 0 c0_ 1), (At.sl 1 0 c1_ 1), (At.sl 2 0 c2_ 1)])), [(Blk.mk Bool.true (Body.fl FloatKind.f32 c3_)), (Blk.mk Bool.true (Body.fl FloatKind.f32 c4_)), (Blk.mk Bool.true (Body.fl FloatKind.f32 c5_))])) := by kernel_rfl
theorem z1a : SumOne Try.prog 16 z1x := sum_of (Γ := Γ3) (fuel := 8) (d := 8) tyTab_ok (FnL.ok fnTab_ok _ _) (LpL.ok lt3_ok) (SumL.ok tb3_ok _) mixed (by
  intro pts v news hp hc
  clear hc
  unfold z1x at hp
  split at hp
  · rename_i q0f q0n q0i q0o q0l q0p
    exact Eq.trans (Eq.trans (ze6 q0f q0n q0i q0o q0l q0p) (zcb (zbc q0f q0n q0i q0o q0l q0p) rfl q0f q0n q0i q0o q0l q0p (fun c0_ c1_ c2_ c3_ c4_ c5_ => some (c0_, c1_, c2_, c3_, c4_, c5_)))) (fin_out (o := (zbc q0f q0n q0i q0o q0l q0p)) (x := z4c q0f q0n q0i q0o q0l q0p) (d := default) (V := fun r => ((AV.v (TV.agg [(At.sl 0 0 r.1 1), (At.sl 1 0 r.2.1 1), (At.sl 2 0 r.2.2.1 1)])), [(Blk.mk Bool.true (Body.fl FloatKind.f32 r.2.2.2.1)), (Blk.mk Bool.true (Body.fl FloatKind.f32 r.2.2.2.2.1)), (Blk.mk Bool.true (Body.fl FloatKind.f32 r.2.2.2.2.2))])) (fun r => rfl) hp)
  · cases hp)
noncomputable def z1l : List PT → Option (Bool × AV × List Blk)
  | [.one (.row 1 a_n (.fl .f32 a)), .one (.row 1 b_n (.fl .f32 b))] => some ((z5w a_n a b_n b), ((AV.v (TV.one (At.bool (z5h a_n a b_n b)))), []))
  | _ => none
def zav (a_n : Nat) (a : List Nat) (b_n : Nat) (b : List Nat) : Option (Bool) → Option (AV × List Blk)
  | some r => some ((AV.v (TV.one (At.bool r))), [])
  | none => none
theorem zdj (a_n : Nat) (a : List Nat) (b_n : Nat) (b : List Nat) : evFn Γ3 8 8 57 (impTs 0 [.one (.row 1 a_n (.fl .f32 a)), .one (.row 1 b_n (.fl .f32 b))]).1 (impTs 0 [.one (.row 1 a_n (.fl .f32 a)), .one (.row 1 b_n (.fl .f32 b))]).2 (expo (impTs 0 [.one (.row 1 a_n (.fl .f32 a)), .one (.row 1 b_n (.fl .f32 b))]).2.length) = z5v a_n a b_n b (fun c0_ => some ((AV.v (TV.one (At.bool c0_))), [])) := by kernel_rfl
theorem z13 : SumOne Try.prog 57 z1l := sum_of (Γ := Γ3) (fuel := 8) (d := 8) tyTab_ok (FnL.ok fnTab_ok _ _) (LpL.ok lt3_ok) (SumL.ok tb3_ok _) mixed (by
  intro pts v news hp hc
  clear hc
  unfold z1l at hp
  split at hp
  · rename_i a_n a b_n b
    exact Eq.trans (Eq.trans (zdj a_n a b_n b) (zbv (zav a_n a b_n b) rfl a_n a b_n b (fun c0_ => some c0_))) (fin_out (o := (zav a_n a b_n b)) (x := z5x a_n a b_n b) (d := default) (V := fun r => ((AV.v (TV.one (At.bool r))), [])) (fun r => rfl) hp)
  · cases hp)
noncomputable def zaz (t3 : Int) (t4 : Int) (b0 : List Nat) (b1 : List Nat) (b2 : List Nat) (q0m : Nat) (q0r : Nat) (q0s : Nat) : Bool × LO := ((z52 t3 b0 b1 b2 q0m q0r q0s t4), (LO.two (z4t t3 b0 b1 b2 q0m q0r q0s t4) (LO.one Ex.ret (St.mk [(2, (AV.v (TV.one (At.bool Bool.false))))] [(Blk.mk Bool.false (Body.fl FloatKind.f32 b0)), (Blk.mk Bool.false (Body.fl FloatKind.f32 b1)), (Blk.mk Bool.false (Body.fl FloatKind.f32 b2)), (Blk.mk Bool.false (Body.cells [(At.vw 0 0 q0m 1), (At.vw 1 0 q0r 1), (At.vw 2 0 q0s 1)]))])) (LO.one (Ex.exit 0) (St.mk [(0, (AV.v (TV.one (At.ptr 3 0 3)))), (3, (AV.v (TV.one (At.int IntKind.i64 t3)))), (4, (AV.v (TV.one (At.int IntKind.i64 (z9y t3 b0 b1 b2 q0m q0r q0s t4))))), (36, (AV.v (TV.one (At.bool (za2 t3 b0 b1 b2 q0m q0r q0s t4)))))] [(Blk.mk Bool.false (Body.fl FloatKind.f32 b0)), (Blk.mk Bool.false (Body.fl FloatKind.f32 b1)), (Blk.mk Bool.false (Body.fl FloatKind.f32 b2)), (Blk.mk Bool.false (Body.cells [(At.vw 0 0 q0m 1), (At.vw 1 0 q0r 1), (At.vw 2 0 q0s 1)]))]))))
noncomputable def z2a : Nat → St → Option (Bool × LO) := lpT 4 (pSt [(pTm 0 (pV (pOne (pPtr 3 (liN 0) 3)))), (pTm 3 (pV (pOne (pInt IntKind.i64)))), (pTm 4 (pV (pOne (pInt IntKind.i64))))] [(pBlk Bool.false (pFl FloatKind.f32)), (pBlk Bool.false (pFl FloatKind.f32)), (pBlk Bool.false (pFl FloatKind.f32)), (pBlk Bool.false (pCells [(pVw 0 (liN 0) 1), (pVw 1 (liN 0) 1), (pVw 2 (liN 0) 1)]))]) (fun hs => zaz (hvI (hGet hs 0)) (hvI (hGet hs 1)) (hvLn (hGet hs 2)) (hvLn (hGet hs 3)) (hvLn (hGet hs 4)) (hvN (hGet hs 5)) (hvN (hGet hs 6)) (hvN (hGet hs 7)))
def z80 (t3 : Int) (b0 : List Nat) (b1 : List Nat) (b2 : List Nat) (q0m : Nat) (q0r : Nat) (q0s : Nat) : Option ((Unit) ⊕ (Int × Bool)) → Option (Ex × St)
  | none => none
  | some (Sum.inl r) => some (Ex.ret, (St.mk [(2, (AV.v (TV.one (At.bool Bool.false))))] [(Blk.mk Bool.false (Body.fl FloatKind.f32 b0)), (Blk.mk Bool.false (Body.fl FloatKind.f32 b1)), (Blk.mk Bool.false (Body.fl FloatKind.f32 b2)), (Blk.mk Bool.false (Body.cells [(At.vw 0 0 q0m 1), (At.vw 1 0 q0r 1), (At.vw 2 0 q0s 1)]))]))
  | some (Sum.inr r) => some ((Ex.exit 0), (St.mk [(0, (AV.v (TV.one (At.ptr 3 0 3)))), (3, (AV.v (TV.one (At.int IntKind.i64 t3)))), (4, (AV.v (TV.one (At.int IntKind.i64 r.1)))), (36, (AV.v (TV.one (At.bool r.2))))] [(Blk.mk Bool.false (Body.fl FloatKind.f32 b0)), (Blk.mk Bool.false (Body.fl FloatKind.f32 b1)), (Blk.mk Bool.false (Body.fl FloatKind.f32 b2)), (Blk.mk Bool.false (Body.cells [(At.vw 0 0 q0m 1), (At.vw 1 0 q0r 1), (At.vw 2 0 q0s 1)]))]))
def zdx (t3 : Int) (b0 : List Nat) (b1 : List Nat) (b2 : List Nat) (q0m : Nat) (q0r : Nat) (q0s : Nat) (x : Option ((Unit) ⊕ (Int × Bool))) : LO := (LO.two (oL x) (LO.one Ex.ret (St.mk [(2, (AV.v (TV.one (At.bool Bool.false))))] [(Blk.mk Bool.false (Body.fl FloatKind.f32 b0)), (Blk.mk Bool.false (Body.fl FloatKind.f32 b1)), (Blk.mk Bool.false (Body.fl FloatKind.f32 b2)), (Blk.mk Bool.false (Body.cells [(At.vw 0 0 q0m 1), (At.vw 1 0 q0r 1), (At.vw 2 0 q0s 1)]))])) (LO.one (Ex.exit 0) (St.mk [(0, (AV.v (TV.one (At.ptr 3 0 3)))), (3, (AV.v (TV.one (At.int IntKind.i64 t3)))), (4, (AV.v (TV.one (At.int IntKind.i64 ((tR x).getD default).1)))), (36, (AV.v (TV.one (At.bool ((tR x).getD default).2))))] [(Blk.mk Bool.false (Body.fl FloatKind.f32 b0)), (Blk.mk Bool.false (Body.fl FloatKind.f32 b1)), (Blk.mk Bool.false (Body.fl FloatKind.f32 b2)), (Blk.mk Bool.false (Body.cells [(At.vw 0 0 q0m 1), (At.vw 1 0 q0r 1), (At.vw 2 0 q0s 1)]))])))
theorem zen (t3 : Int) (b0 : List Nat) (b1 : List Nat) (b2 : List Nat) (q0m : Nat) (q0r : Nat) (q0s : Nat) : ∀ x : Option ((Unit) ⊕ (Int × Bool)), x.isSome = true → (z80 t3 b0 b1 b2 q0m q0r q0s) x = some (pick (zdx t3 b0 b1 b2 q0m q0r q0s x))
  | none, h => by cases h
  | some (Sum.inl r), _ => rfl
  | some (Sum.inr r), _ => rfl
theorem zei (t3 : Int) (t4 : Int) (b0 : List Nat) (b1 : List Nat) (b2 : List Nat) (q0m : Nat) (q0r : Nat) (q0s : Nat) (K : Ex → St → Option (Ex × St)) : evC (R := Ex × St) Γ3 (evFn Γ3 8 8) 62 4 fi62.nt fi62.live fi62.nl 8 (findL 5 (loopsIn fi62.code)) (St.mk [(0, (AV.v (TV.one (At.ptr 3 0 3)))), (3, (AV.v (TV.one (At.int IntKind.i64 t3)))), (4, (AV.v (TV.one (At.int IntKind.i64 t4))))] [(Blk.mk Bool.false (Body.fl FloatKind.f32 b0)), (Blk.mk Bool.false (Body.fl FloatKind.f32 b1)), (Blk.mk Bool.false (Body.fl FloatKind.f32 b2)), (Blk.mk Bool.false (Body.cells [(At.vw 0 0 q0m 1), (At.vw 1 0 q0r 1), (At.vw 2 0 q0s 1)]))]) K = z4s t3 b0 b1 b2 q0m q0r q0s t4 (fun t4' => K .normal (St.mk [(0, (AV.v (TV.one (At.ptr 3 0 3)))), (3, (AV.v (TV.one (At.int IntKind.i64 t3)))), (4, (AV.v (TV.one (At.int IntKind.i64 t4'))))] [(Blk.mk Bool.false (Body.fl FloatKind.f32 b0)), (Blk.mk Bool.false (Body.fl FloatKind.f32 b1)), (Blk.mk Bool.false (Body.fl FloatKind.f32 b2)), (Blk.mk Bool.false (Body.cells [(At.vw 0 0 q0m 1), (At.vw 1 0 q0r 1), (At.vw 2 0 q0s 1)]))])) (fun _ => K Ex.ret (St.mk [(2, (AV.v (TV.one (At.bool Bool.false))))] [(Blk.mk Bool.false (Body.fl FloatKind.f32 b0)), (Blk.mk Bool.false (Body.fl FloatKind.f32 b1)), (Blk.mk Bool.false (Body.fl FloatKind.f32 b2)), (Blk.mk Bool.false (Body.cells [(At.vw 0 0 q0m 1), (At.vw 1 0 q0r 1), (At.vw 2 0 q0s 1)]))])) (fun c0_ c1_ => K (Ex.exit 0) (St.mk [(0, (AV.v (TV.one (At.ptr 3 0 3)))), (3, (AV.v (TV.one (At.int IntKind.i64 t3)))), (4, (AV.v (TV.one (At.int IntKind.i64 c0_)))), (36, (AV.v (TV.one (At.bool c1_))))] [(Blk.mk Bool.false (Body.fl FloatKind.f32 b0)), (Blk.mk Bool.false (Body.fl FloatKind.f32 b1)), (Blk.mk Bool.false (Body.fl FloatKind.f32 b2)), (Blk.mk Bool.false (Body.cells [(At.vw 0 0 q0m 1), (At.vw 1 0 q0r 1), (At.vw 2 0 q0s 1)]))])) := by kernel_rfl
theorem zek (t3 : Int) (b0 : List Nat) (b1 : List Nat) (b2 : List Nat) (q0m : Nat) (q0r : Nat) (q0s : Nat) : ∀ (n : Nat) (t4 : Int), iter 62 5 4 (evC (R := Ex × St) Γ3 (evFn Γ3 8 8) 62 4 fi62.nt fi62.live fi62.nl 8 (findL 5 (loopsIn fi62.code))) n (St.mk [(0, (AV.v (TV.one (At.ptr 3 0 3)))), (3, (AV.v (TV.one (At.int IntKind.i64 t3)))), (4, (AV.v (TV.one (At.int IntKind.i64 t4))))] [(Blk.mk Bool.false (Body.fl FloatKind.f32 b0)), (Blk.mk Bool.false (Body.fl FloatKind.f32 b1)), (Blk.mk Bool.false (Body.fl FloatKind.f32 b2)), (Blk.mk Bool.false (Body.cells [(At.vw 0 0 q0m 1), (At.vw 1 0 q0r 1), (At.vw 2 0 q0s 1)]))]) (fun e st => some (e, st)) = (z80 t3 b0 b1 b2 q0m q0r q0s) (z43 t3 b0 b1 b2 q0m q0r q0s n t4) := by
  intro n
  induction n with
  | zero => intros; rfl
  | succ n ih =>
    intro t4
    refine Eq.trans (iter_succ ..) (Eq.trans (zei t3 t4 b0 b1 b2 q0m q0r q0s (nextK 62 5 4 (evC (R := Ex × St) Γ3 (evFn Γ3 8 8) 62 4 fi62.nt fi62.live fi62.nl 8 (findL 5 (loopsIn fi62.code))) n (fun e st => some (e, st)))) (Eq.trans ?_ (zct (z80 t3 b0 b1 b2 q0m q0r q0s) rfl t3 b0 b1 b2 q0m q0r q0s t4 (fun t4' => z43 t3 b0 b1 b2 q0m q0r q0s n t4') (fun _ => some (Sum.inl ())) (fun c0_ c1_ => some (Sum.inr (c0_, c1_))))))
    exact congrArg (fun kn_ => z4s t3 b0 b1 b2 q0m q0r q0s t4 kn_ (fun _ => (z80 t3 b0 b1 b2 q0m q0r q0s) (some (Sum.inl ()))) (fun c0_ c1_ => (z80 t3 b0 b1 b2 q0m q0r q0s) (some (Sum.inr (c0_, c1_))))) (funext fun t4' => ih t4')
theorem z1o : LoopOne Try.prog fnTab 62 5 z2a := lp_of (Γ := Γ3) tyTab_ok (FnL.ok fnTab_ok _ _) (LpL.ok lt3_ok) (SumL.ok tb3_ok _) mixed (fi := fi62) (by kernel_rfl) (by kernel_rfl) (by
  intro lo st out hp
  obtain ⟨hs, e1, e2, e3⟩ := lpT_inv hp
  clear hp
  obtain rfl : st = (St.mk [(0, (AV.v (TV.one (At.ptr 3 0 3)))), (3, (AV.v (TV.one (At.int IntKind.i64 (hvI (hGet hs 0)))))), (4, (AV.v (TV.one (At.int IntKind.i64 (hvI (hGet hs 1))))))] [(Blk.mk Bool.false (Body.fl FloatKind.f32 (hvLn (hGet hs 2)))), (Blk.mk Bool.false (Body.fl FloatKind.f32 (hvLn (hGet hs 3)))), (Blk.mk Bool.false (Body.fl FloatKind.f32 (hvLn (hGet hs 4)))), (Blk.mk Bool.false (Body.cells [(At.vw 0 0 (hvN (hGet hs 5)) 1), (At.vw 1 0 (hvN (hGet hs 6)) 1), (At.vw 2 0 (hvN (hGet hs 7)) 1)]))]) := e2.trans (by kernel_rfl)
  clear e2
  subst e1
  unfold zaz at e3
  injection e3 with h1 h2
  subst h2
  exact ⟨8, 8, big, Eq.trans (zek (hvI (hGet hs 0)) (hvLn (hGet hs 2)) (hvLn (hGet hs 3)) (hvLn (hGet hs 4)) (hvN (hGet hs 5)) (hvN (hGet hs 6)) (hvN (hGet hs 7)) big (hvI (hGet hs 1))) (zen (hvI (hGet hs 0)) (hvLn (hGet hs 2)) (hvLn (hGet hs 3)) (hvLn (hGet hs 4)) (hvN (hGet hs 5)) (hvN (hGet hs 6)) (hvN (hGet hs 7)) (z43 (hvI (hGet hs 0)) (hvLn (hGet hs 2)) (hvLn (hGet hs 3)) (hvLn (hGet hs 4)) (hvN (hGet hs 5)) (hvN (hGet hs 6)) (hvN (hGet hs 7)) big (hvI (hGet hs 1))) h1)⟩)
noncomputable def z55 (sn : Nat) (t7 : Int) (t8 : Int) (b0 : List Nat) : Bool × LO := ((z39 sn t7 b0 t8), (LO.two (z38 sn t7 b0 t8) (LO.one Ex.ret (St.mk [(4, (AV.v (TV.one (At.int IntKind.i64 (z3w sn t7 b0 t8)))))] [(Blk.mk Bool.false (Body.fl FloatKind.f32 b0))])) (LO.one (Ex.exit 0) (St.mk [(0, (AV.v (TV.one (At.vw 0 0 sn 1)))), (1, (AV.v (TV.one (At.fn 118 [])))), (7, (AV.v (TV.one (At.int IntKind.i64 t7)))), (8, (AV.v (TV.one (At.int IntKind.i64 (z4h sn t7 b0 t8))))), (9, (AV.v (TV.one (At.bool (z4i sn t7 b0 t8)))))] [(Blk.mk Bool.false (Body.fl FloatKind.f32 b0))]))))
noncomputable def z03 : Nat → St → Option (Bool × LO) := lpT 1 (pSt [(pTm 0 (pV (pOne (pVw 0 (liN 0) 1)))), (pTm 1 (pV (pOne (pFn 118 [])))), (pTm 7 (pV (pOne (pInt IntKind.i64)))), (pTm 8 (pV (pOne (pInt IntKind.i64))))] [(pBlk Bool.false (pFl FloatKind.f32))]) (fun hs => z55 (hvN (hGet hs 0)) (hvI (hGet hs 1)) (hvI (hGet hs 2)) (hvLn (hGet hs 3)))
def z3s (sn : Nat) (t7 : Int) (b0 : List Nat) : Option ((Int) ⊕ (Int × Bool)) → Option (Ex × St)
  | none => none
  | some (Sum.inl r) => some (Ex.ret, (St.mk [(4, (AV.v (TV.one (At.int IntKind.i64 r))))] [(Blk.mk Bool.false (Body.fl FloatKind.f32 b0))]))
  | some (Sum.inr r) => some ((Ex.exit 0), (St.mk [(0, (AV.v (TV.one (At.vw 0 0 sn 1)))), (1, (AV.v (TV.one (At.fn 118 [])))), (7, (AV.v (TV.one (At.int IntKind.i64 t7)))), (8, (AV.v (TV.one (At.int IntKind.i64 r.1)))), (9, (AV.v (TV.one (At.bool r.2))))] [(Blk.mk Bool.false (Body.fl FloatKind.f32 b0))]))
def z8a (sn : Nat) (t7 : Int) (b0 : List Nat) (x : Option ((Int) ⊕ (Int × Bool))) : LO := (LO.two (oL x) (LO.one Ex.ret (St.mk [(4, (AV.v (TV.one (At.int IntKind.i64 ((tL x).getD default)))))] [(Blk.mk Bool.false (Body.fl FloatKind.f32 b0))])) (LO.one (Ex.exit 0) (St.mk [(0, (AV.v (TV.one (At.vw 0 0 sn 1)))), (1, (AV.v (TV.one (At.fn 118 [])))), (7, (AV.v (TV.one (At.int IntKind.i64 t7)))), (8, (AV.v (TV.one (At.int IntKind.i64 ((tR x).getD default).1)))), (9, (AV.v (TV.one (At.bool ((tR x).getD default).2))))] [(Blk.mk Bool.false (Body.fl FloatKind.f32 b0))])))
theorem z8u (sn : Nat) (t7 : Int) (b0 : List Nat) : ∀ x : Option ((Int) ⊕ (Int × Bool)), x.isSome = true → (z3s sn t7 b0) x = some (pick (z8a sn t7 b0 x))
  | none, h => by cases h
  | some (Sum.inl r), _ => rfl
  | some (Sum.inr r), _ => rfl
theorem z8x (sn : Nat) (t7 : Int) (t8 : Int) (b0 : List Nat) (K : Ex → St → Option (Ex × St)) : evC (R := Ex × St) Γ3 (evFn Γ3 8 8) 99 1 fi99.nt fi99.live fi99.nl 8 (findL 2 (loopsIn fi99.code)) (St.mk [(0, (AV.v (TV.one (At.vw 0 0 sn 1)))), (1, (AV.v (TV.one (At.fn 118 [])))), (7, (AV.v (TV.one (At.int IntKind.i64 t7)))), (8, (AV.v (TV.one (At.int IntKind.i64 t8))))] [(Blk.mk Bool.false (Body.fl FloatKind.f32 b0))]) K = z2s sn t7 b0 t8 (fun t8' => K .normal (St.mk [(0, (AV.v (TV.one (At.vw 0 0 sn 1)))), (1, (AV.v (TV.one (At.fn 118 [])))), (7, (AV.v (TV.one (At.int IntKind.i64 t7)))), (8, (AV.v (TV.one (At.int IntKind.i64 t8'))))] [(Blk.mk Bool.false (Body.fl FloatKind.f32 b0))])) (fun c0_ => K Ex.ret (St.mk [(4, (AV.v (TV.one (At.int IntKind.i64 c0_))))] [(Blk.mk Bool.false (Body.fl FloatKind.f32 b0))])) (fun c0_ c1_ => K (Ex.exit 0) (St.mk [(0, (AV.v (TV.one (At.vw 0 0 sn 1)))), (1, (AV.v (TV.one (At.fn 118 [])))), (7, (AV.v (TV.one (At.int IntKind.i64 t7)))), (8, (AV.v (TV.one (At.int IntKind.i64 c0_)))), (9, (AV.v (TV.one (At.bool c1_))))] [(Blk.mk Bool.false (Body.fl FloatKind.f32 b0))])) := by kernel_rfl
theorem z8z (sn : Nat) (t7 : Int) (b0 : List Nat) : ∀ (n : Nat) (t8 : Int), iter 99 2 1 (evC (R := Ex × St) Γ3 (evFn Γ3 8 8) 99 1 fi99.nt fi99.live fi99.nl 8 (findL 2 (loopsIn fi99.code))) n (St.mk [(0, (AV.v (TV.one (At.vw 0 0 sn 1)))), (1, (AV.v (TV.one (At.fn 118 [])))), (7, (AV.v (TV.one (At.int IntKind.i64 t7)))), (8, (AV.v (TV.one (At.int IntKind.i64 t8))))] [(Blk.mk Bool.false (Body.fl FloatKind.f32 b0))]) (fun e st => some (e, st)) = (z3s sn t7 b0) (z18 sn t7 b0 n t8) := by
  intro n
  induction n with
  | zero => intros; rfl
  | succ n ih =>
    intro t8
    refine Eq.trans (iter_succ ..) (Eq.trans (z8x sn t7 t8 b0 (nextK 99 2 1 (evC (R := Ex × St) Γ3 (evFn Γ3 8 8) 99 1 fi99.nt fi99.live fi99.nl 8 (findL 2 (loopsIn fi99.code))) n (fun e st => some (e, st)))) (Eq.trans ?_ (z7l (z3s sn t7 b0) rfl sn t7 b0 t8 (fun t8' => z18 sn t7 b0 n t8') (fun c0_ => some (Sum.inl c0_)) (fun c0_ c1_ => some (Sum.inr (c0_, c1_))))))
    exact congrArg (fun kn_ => z2s sn t7 b0 t8 kn_ (fun c0_ => (z3s sn t7 b0) (some (Sum.inl c0_))) (fun c0_ c1_ => (z3s sn t7 b0) (some (Sum.inr (c0_, c1_))))) (funext fun t8' => ih t8')
theorem z02 : LoopOne Try.prog fnTab 99 2 z03 := lp_of (Γ := Γ3) tyTab_ok (FnL.ok fnTab_ok _ _) (LpL.ok lt3_ok) (SumL.ok tb3_ok _) mixed (fi := fi99) (by kernel_rfl) (by kernel_rfl) (by
  intro lo st out hp
  obtain ⟨hs, e1, e2, e3⟩ := lpT_inv hp
  clear hp
  obtain rfl : st = (St.mk [(0, (AV.v (TV.one (At.vw 0 0 (hvN (hGet hs 0)) 1)))), (1, (AV.v (TV.one (At.fn 118 [])))), (7, (AV.v (TV.one (At.int IntKind.i64 (hvI (hGet hs 1)))))), (8, (AV.v (TV.one (At.int IntKind.i64 (hvI (hGet hs 2))))))] [(Blk.mk Bool.false (Body.fl FloatKind.f32 (hvLn (hGet hs 3))))]) := e2.trans (by kernel_rfl)
  clear e2
  subst e1
  unfold z55 at e3
  injection e3 with h1 h2
  subst h2
  exact ⟨8, 8, big, Eq.trans (z8z (hvN (hGet hs 0)) (hvI (hGet hs 1)) (hvLn (hGet hs 3)) big (hvI (hGet hs 2))) (z8u (hvN (hGet hs 0)) (hvI (hGet hs 1)) (hvLn (hGet hs 3)) (z18 (hvN (hGet hs 0)) (hvI (hGet hs 1)) (hvLn (hGet hs 3)) big (hvI (hGet hs 2))) h1)⟩)
noncomputable def tb4 : List (Nat × (List PT → Option (Bool × AV × List Blk))) := [(125, z1c), (128, z0h), (134, z0r), (137, z1b), (18, z1i), (48, z16), (54, z1v), (61, z1k), (97, z1u), (102, z2n), (109, z1j), (14, z1p), (51, z1q), (56, z27), (103, z1y), (111, z28), (118, z10), (52, z1g), (119, z1f), (16, z1x), (57, z1l)]
noncomputable def lt4 : List ((Nat × Nat) × (Nat → St → Option (Bool × LO))) := [((52, 3), z0o), ((57, 4), z0s), ((62, 5), z2a), ((99, 2), z03)]
noncomputable def Γ4 : Ctx := ⟨tyTab, fnTab, tblSum tb4, tblLp lt4⟩
theorem tb4_ok : SumL Try.prog tb4 := SumL.cons z0q (SumL.cons z0g (SumL.cons z0k (SumL.cons z0p (SumL.cons z0v (SumL.cons z0n (SumL.cons z14 (SumL.cons z0u (SumL.cons z15 (SumL.cons z22 (SumL.cons z0t (SumL.cons z12 (SumL.cons z11 (SumL.cons z1m (SumL.cons z19 (SumL.cons z1n (SumL.cons z0m (SumL.cons z0x (SumL.cons z0w (SumL.cons z1a (SumL.cons z13 (SumL.nil)))))))))))))))))))))
theorem lt4_ok : LpL Try.prog fnTab lt4 := LpL.cons z0i (LpL.cons z0j (LpL.cons z1o (LpL.cons z02 (LpL.nil))))
noncomputable def z21 : List PT → Option (Bool × AV × List Blk)
  | [.agg [.row 1 q0f (.fl .f32 q0n), .row 1 q0i (.fl .f32 q0o), .row 1 q0l (.fl .f32 q0p)], .agg [.row 1 q0u (.fl .f32 q0y), .row 1 q0v (.fl .f32 q11), .row 1 q0w (.fl .f32 q12)]] => some ((z7e q0f q0n q0i q0o q0l q0p q0u q0y q0v q11 q0w q12), ((AV.v (TV.one (At.bool (z6x q0f q0n q0i q0o q0l q0p q0u q0y q0v q11 q0w q12)))), []))
  | _ => none
def zb8 (q0f : Nat) (q0n : List Nat) (q0i : Nat) (q0o : List Nat) (q0l : Nat) (q0p : List Nat) (q0u : Nat) (q0y : List Nat) (q0v : Nat) (q11 : List Nat) (q0w : Nat) (q12 : List Nat) : Option (Bool) → Option (AV × List Blk)
  | some r => some ((AV.v (TV.one (At.bool r))), [])
  | none => none
theorem ze3 (q0f : Nat) (q0n : List Nat) (q0i : Nat) (q0o : List Nat) (q0l : Nat) (q0p : List Nat) (q0u : Nat) (q0y : List Nat) (q0v : Nat) (q11 : List Nat) (q0w : Nat) (q12 : List Nat) : evFn Γ4 8 8 19 (impTs 0 [.agg [.row 1 q0f (.fl .f32 q0n), .row 1 q0i (.fl .f32 q0o), .row 1 q0l (.fl .f32 q0p)], .agg [.row 1 q0u (.fl .f32 q0y), .row 1 q0v (.fl .f32 q11), .row 1 q0w (.fl .f32 q12)]]).1 (impTs 0 [.agg [.row 1 q0f (.fl .f32 q0n), .row 1 q0i (.fl .f32 q0o), .row 1 q0l (.fl .f32 q0p)], .agg [.row 1 q0u (.fl .f32 q0y), .row 1 q0v (.fl .f32 q11), .row 1 q0w (.fl .f32 q12)]]).2 (expo (impTs 0 [.agg [.row 1 q0f (.fl .f32 q0n), .row 1 q0i (.fl .f32 q0o), .row 1 q0l (.fl .f32 q0p)], .agg [.row 1 q0u (.fl .f32 q0y), .row 1 q0v (.fl .f32 q11), .row 1 q0w (.fl .f32 q12)]]).2.length) = z69 q0f q0n q0i q0o q0l q0p q0u q0y q0v q11 q0w q12 (fun c0_ => some ((AV.v (TV.one (At.bool c0_))), [])) := by kernel_rfl
theorem z1h : SumOne Try.prog 19 z21 := sum_of (Γ := Γ4) (fuel := 8) (d := 8) tyTab_ok (FnL.ok fnTab_ok _ _) (LpL.ok lt4_ok) (SumL.ok tb4_ok _) mixed (by
  intro pts v news hp hc
  clear hc
  unfold z21 at hp
  split at hp
  · rename_i q0f q0n q0i q0o q0l q0p q0u q0y q0v q11 q0w q12
    exact Eq.trans (Eq.trans (ze3 q0f q0n q0i q0o q0l q0p q0u q0y q0v q11 q0w q12) (zcl (zb8 q0f q0n q0i q0o q0l q0p q0u q0y q0v q11 q0w q12) rfl q0f q0n q0i q0o q0l q0p q0u q0y q0v q11 q0w q12 (fun c0_ => some c0_))) (fin_out (o := (zb8 q0f q0n q0i q0o q0l q0p q0u q0y q0v q11 q0w q12)) (x := z6e q0f q0n q0i q0o q0l q0p q0u q0y q0v q11 q0w q12) (d := default) (V := fun r => ((AV.v (TV.one (At.bool r))), [])) (fun r => rfl) hp)
  · cases hp)
noncomputable def z2u : List PT → Option (Bool × AV × List Blk)
  | [.ptr [.row 1 q00 (.fl .f32 q01), .row 1 q09 (.fl .f32 q0b), .row 1 q08 (.fl .f32 q0a)]] => some ((zam q00 q01 q09 q0b q08 q0a), ((AV.v (TV.one (At.bool (zag q00 q01 q09 q0b q08 q0a)))), []))
  | _ => none
def zd2 (q00 : Nat) (q01 : List Nat) (q09 : Nat) (q0b : List Nat) (q08 : Nat) (q0a : List Nat) : Option (Bool) → Option (AV × List Blk)
  | some r => some ((AV.v (TV.one (At.bool r))), [])
  | none => none
theorem zf5 (q00 : Nat) (q01 : List Nat) (q09 : Nat) (q0b : List Nat) (q08 : Nat) (q0a : List Nat) : evFn Γ4 8 8 62 (impTs 0 [.ptr [.row 1 q00 (.fl .f32 q01), .row 1 q09 (.fl .f32 q0b), .row 1 q08 (.fl .f32 q0a)]]).1 (impTs 0 [.ptr [.row 1 q00 (.fl .f32 q01), .row 1 q09 (.fl .f32 q0b), .row 1 q08 (.fl .f32 q0a)]]).2 (expo (impTs 0 [.ptr [.row 1 q00 (.fl .f32 q01), .row 1 q09 (.fl .f32 q0b), .row 1 q08 (.fl .f32 q0a)]]).2.length) = z8v q00 q01 q09 q0b q08 q0a (fun c0_ => some ((AV.v (TV.one (At.bool c0_))), [])) := by kernel_rfl
theorem z2i : SumOne Try.prog 62 z2u := sum_of (Γ := Γ4) (fuel := 8) (d := 8) tyTab_ok (FnL.ok fnTab_ok _ _) (LpL.ok lt4_ok) (SumL.ok tb4_ok _) mixed (by
  intro pts v news hp hc
  clear hc
  unfold z2u at hp
  split at hp
  · rename_i q00 q01 q09 q0b q08 q0a
    exact Eq.trans (Eq.trans (zf5 q00 q01 q09 q0b q08 q0a) (ze4 (zd2 q00 q01 q09 q0b q08 q0a) rfl q00 q01 q09 q0b q08 q0a (fun c0_ => some c0_))) (fin_out (o := (zd2 q00 q01 q09 q0b q08 q0a)) (x := z8t q00 q01 q09 q0b q08 q0a) (d := default) (V := fun r => ((AV.v (TV.one (At.bool r))), [])) (fun r => rfl) hp)
  · cases hp)
noncomputable def z0a : List PT → Option (Bool × AV × List Blk)
  | [.one (.row 1 s_n (.fl .f32 s)), .fn 118 []] => some ((z4a s_n s), ((AV.v (TV.one (At.int IntKind.i64 (z47 s_n s)))), []))
  | _ => none
def z62 (s_n : Nat) (s : List Nat) : Option (Int) → Option (AV × List Blk)
  | some r => some ((AV.v (TV.one (At.int IntKind.i64 r))), [])
  | none => none
theorem z9h (s_n : Nat) (s : List Nat) : evFn Γ4 8 8 99 (impTs 0 [.one (.row 1 s_n (.fl .f32 s)), .fn 118 []]).1 (impTs 0 [.one (.row 1 s_n (.fl .f32 s)), .fn 118 []]).2 (expo (impTs 0 [.one (.row 1 s_n (.fl .f32 s)), .fn 118 []]).2.length) = z3k s_n s (fun c0_ => some ((AV.v (TV.one (At.int IntKind.i64 c0_))), [])) := by kernel_rfl
theorem z08 : SumOne Try.prog 99 z0a := sum_of (Γ := Γ4) (fuel := 8) (d := 8) tyTab_ok (FnL.ok fnTab_ok _ _) (LpL.ok lt4_ok) (SumL.ok tb4_ok _) mixed (by
  intro pts v news hp hc
  clear hc
  unfold z0a at hp
  split at hp
  · rename_i s_n s
    exact Eq.trans (Eq.trans (z9h s_n s) (z8b (z62 s_n s) rfl s_n s (fun c0_ => some c0_))) (fin_out (o := (z62 s_n s)) (x := z3l s_n s) (d := default) (V := fun r => ((AV.v (TV.one (At.int IntKind.i64 r))), [])) (fun r => rfl) hp)
  · cases hp)
noncomputable def z58 (sn : Nat) (t7 : Int) (t8 : Int) (b0 : List Nat) : Bool × LO := ((z3h sn t7 b0 t8), (LO.two (z3c sn t7 b0 t8) (LO.one Ex.ret (St.mk [(4, (AV.v (TV.one (At.int IntKind.i64 (z3z sn t7 b0 t8)))))] [(Blk.mk Bool.false (Body.fl FloatKind.f32 b0))])) (LO.one (Ex.exit 0) (St.mk [(0, (AV.v (TV.one (At.vw 0 0 sn 1)))), (1, (AV.v (TV.one (At.fn 119 [])))), (7, (AV.v (TV.one (At.int IntKind.i64 t7)))), (8, (AV.v (TV.one (At.int IntKind.i64 (z4l sn t7 b0 t8))))), (9, (AV.v (TV.one (At.bool (z4k sn t7 b0 t8)))))] [(Blk.mk Bool.false (Body.fl FloatKind.f32 b0))]))))
noncomputable def z05 : Nat → St → Option (Bool × LO) := lpT 1 (pSt [(pTm 0 (pV (pOne (pVw 0 (liN 0) 1)))), (pTm 1 (pV (pOne (pFn 119 [])))), (pTm 7 (pV (pOne (pInt IntKind.i64)))), (pTm 8 (pV (pOne (pInt IntKind.i64))))] [(pBlk Bool.false (pFl FloatKind.f32))]) (fun hs => z58 (hvN (hGet hs 0)) (hvI (hGet hs 1)) (hvI (hGet hs 2)) (hvLn (hGet hs 3)))
def z3t (sn : Nat) (t7 : Int) (b0 : List Nat) : Option ((Int) ⊕ (Int × Bool)) → Option (Ex × St)
  | none => none
  | some (Sum.inl r) => some (Ex.ret, (St.mk [(4, (AV.v (TV.one (At.int IntKind.i64 r))))] [(Blk.mk Bool.false (Body.fl FloatKind.f32 b0))]))
  | some (Sum.inr r) => some ((Ex.exit 0), (St.mk [(0, (AV.v (TV.one (At.vw 0 0 sn 1)))), (1, (AV.v (TV.one (At.fn 119 [])))), (7, (AV.v (TV.one (At.int IntKind.i64 t7)))), (8, (AV.v (TV.one (At.int IntKind.i64 r.1)))), (9, (AV.v (TV.one (At.bool r.2))))] [(Blk.mk Bool.false (Body.fl FloatKind.f32 b0))]))
def z8r (sn : Nat) (t7 : Int) (b0 : List Nat) (x : Option ((Int) ⊕ (Int × Bool))) : LO := (LO.two (oL x) (LO.one Ex.ret (St.mk [(4, (AV.v (TV.one (At.int IntKind.i64 ((tL x).getD default)))))] [(Blk.mk Bool.false (Body.fl FloatKind.f32 b0))])) (LO.one (Ex.exit 0) (St.mk [(0, (AV.v (TV.one (At.vw 0 0 sn 1)))), (1, (AV.v (TV.one (At.fn 119 [])))), (7, (AV.v (TV.one (At.int IntKind.i64 t7)))), (8, (AV.v (TV.one (At.int IntKind.i64 ((tR x).getD default).1)))), (9, (AV.v (TV.one (At.bool ((tR x).getD default).2))))] [(Blk.mk Bool.false (Body.fl FloatKind.f32 b0))])))
theorem z94 (sn : Nat) (t7 : Int) (b0 : List Nat) : ∀ x : Option ((Int) ⊕ (Int × Bool)), x.isSome = true → (z3t sn t7 b0) x = some (pick (z8r sn t7 b0 x))
  | none, h => by cases h
  | some (Sum.inl r), _ => rfl
  | some (Sum.inr r), _ => rfl
theorem z95 (sn : Nat) (t7 : Int) (t8 : Int) (b0 : List Nat) (K : Ex → St → Option (Ex × St)) : evC (R := Ex × St) Γ4 (evFn Γ4 8 8) 99 1 fi99.nt fi99.live fi99.nl 8 (findL 2 (loopsIn fi99.code)) (St.mk [(0, (AV.v (TV.one (At.vw 0 0 sn 1)))), (1, (AV.v (TV.one (At.fn 119 [])))), (7, (AV.v (TV.one (At.int IntKind.i64 t7)))), (8, (AV.v (TV.one (At.int IntKind.i64 t8))))] [(Blk.mk Bool.false (Body.fl FloatKind.f32 b0))]) K = z2t sn t7 b0 t8 (fun t8' => K .normal (St.mk [(0, (AV.v (TV.one (At.vw 0 0 sn 1)))), (1, (AV.v (TV.one (At.fn 119 [])))), (7, (AV.v (TV.one (At.int IntKind.i64 t7)))), (8, (AV.v (TV.one (At.int IntKind.i64 t8'))))] [(Blk.mk Bool.false (Body.fl FloatKind.f32 b0))])) (fun c0_ => K Ex.ret (St.mk [(4, (AV.v (TV.one (At.int IntKind.i64 c0_))))] [(Blk.mk Bool.false (Body.fl FloatKind.f32 b0))])) (fun c0_ c1_ => K (Ex.exit 0) (St.mk [(0, (AV.v (TV.one (At.vw 0 0 sn 1)))), (1, (AV.v (TV.one (At.fn 119 [])))), (7, (AV.v (TV.one (At.int IntKind.i64 t7)))), (8, (AV.v (TV.one (At.int IntKind.i64 c0_)))), (9, (AV.v (TV.one (At.bool c1_))))] [(Blk.mk Bool.false (Body.fl FloatKind.f32 b0))])) := by kernel_rfl
theorem z93 (sn : Nat) (t7 : Int) (b0 : List Nat) : ∀ (n : Nat) (t8 : Int), iter 99 2 1 (evC (R := Ex × St) Γ4 (evFn Γ4 8 8) 99 1 fi99.nt fi99.live fi99.nl 8 (findL 2 (loopsIn fi99.code))) n (St.mk [(0, (AV.v (TV.one (At.vw 0 0 sn 1)))), (1, (AV.v (TV.one (At.fn 119 [])))), (7, (AV.v (TV.one (At.int IntKind.i64 t7)))), (8, (AV.v (TV.one (At.int IntKind.i64 t8))))] [(Blk.mk Bool.false (Body.fl FloatKind.f32 b0))]) (fun e st => some (e, st)) = (z3t sn t7 b0) (z1e sn t7 b0 n t8) := by
  intro n
  induction n with
  | zero => intros; rfl
  | succ n ih =>
    intro t8
    refine Eq.trans (iter_succ ..) (Eq.trans (z95 sn t7 t8 b0 (nextK 99 2 1 (evC (R := Ex × St) Γ4 (evFn Γ4 8 8) 99 1 fi99.nt fi99.live fi99.nl 8 (findL 2 (loopsIn fi99.code))) n (fun e st => some (e, st)))) (Eq.trans ?_ (z7x (z3t sn t7 b0) rfl sn t7 b0 t8 (fun t8' => z1e sn t7 b0 n t8') (fun c0_ => some (Sum.inl c0_)) (fun c0_ c1_ => some (Sum.inr (c0_, c1_))))))
    exact congrArg (fun kn_ => z2t sn t7 b0 t8 kn_ (fun c0_ => (z3t sn t7 b0) (some (Sum.inl c0_))) (fun c0_ c1_ => (z3t sn t7 b0) (some (Sum.inr (c0_, c1_))))) (funext fun t8' => ih t8')
theorem z04 : LoopOne Try.prog fnTab 99 2 z05 := lp_of (Γ := Γ4) tyTab_ok (FnL.ok fnTab_ok _ _) (LpL.ok lt4_ok) (SumL.ok tb4_ok _) mixed (fi := fi99) (by kernel_rfl) (by kernel_rfl) (by
  intro lo st out hp
  obtain ⟨hs, e1, e2, e3⟩ := lpT_inv hp
  clear hp
  obtain rfl : st = (St.mk [(0, (AV.v (TV.one (At.vw 0 0 (hvN (hGet hs 0)) 1)))), (1, (AV.v (TV.one (At.fn 119 [])))), (7, (AV.v (TV.one (At.int IntKind.i64 (hvI (hGet hs 1)))))), (8, (AV.v (TV.one (At.int IntKind.i64 (hvI (hGet hs 2))))))] [(Blk.mk Bool.false (Body.fl FloatKind.f32 (hvLn (hGet hs 3))))]) := e2.trans (by kernel_rfl)
  clear e2
  subst e1
  unfold z58 at e3
  injection e3 with h1 h2
  subst h2
  exact ⟨8, 8, big, Eq.trans (z93 (hvN (hGet hs 0)) (hvI (hGet hs 1)) (hvLn (hGet hs 3)) big (hvI (hGet hs 2))) (z94 (hvN (hGet hs 0)) (hvI (hGet hs 1)) (hvLn (hGet hs 3)) (z1e (hvN (hGet hs 0)) (hvI (hGet hs 1)) (hvLn (hGet hs 3)) big (hvI (hGet hs 2))) h1)⟩)
noncomputable def tb5 : List (Nat × (List PT → Option (Bool × AV × List Blk))) := [(125, z1c), (128, z0h), (134, z0r), (137, z1b), (18, z1i), (48, z16), (54, z1v), (61, z1k), (97, z1u), (102, z2n), (109, z1j), (14, z1p), (51, z1q), (56, z27), (103, z1y), (111, z28), (118, z10), (52, z1g), (119, z1f), (16, z1x), (57, z1l), (19, z21), (62, z2u), (99, z0a)]
noncomputable def lt5 : List ((Nat × Nat) × (Nat → St → Option (Bool × LO))) := [((52, 3), z0o), ((57, 4), z0s), ((62, 5), z2a), ((99, 2), z03), ((99, 2), z05)]
noncomputable def Γ5 : Ctx := ⟨tyTab, fnTab, tblSum tb5, tblLp lt5⟩
theorem tb5_ok : SumL Try.prog tb5 := SumL.cons z0q (SumL.cons z0g (SumL.cons z0k (SumL.cons z0p (SumL.cons z0v (SumL.cons z0n (SumL.cons z14 (SumL.cons z0u (SumL.cons z15 (SumL.cons z22 (SumL.cons z0t (SumL.cons z12 (SumL.cons z11 (SumL.cons z1m (SumL.cons z19 (SumL.cons z1n (SumL.cons z0m (SumL.cons z0x (SumL.cons z0w (SumL.cons z1a (SumL.cons z13 (SumL.cons z1h (SumL.cons z2i (SumL.cons z08 (SumL.nil))))))))))))))))))))))))
theorem lt5_ok : LpL Try.prog fnTab lt5 := LpL.cons z0i (LpL.cons z0j (LpL.cons z1o (LpL.cons z02 (LpL.cons z04 (LpL.nil)))))
noncomputable def z2q : List PT → Option (Bool × AV × List Blk)
  | [.ptr [.row 1 q03 (.fl .f32 q0c), .row 1 q04 (.fl .f32 q0d), .row 1 q07 (.fl .f32 q0e)], .one (.s (.flt .f32 q0h))] => some ((zaj q03 q0c q04 q0d q07 q0e q0h), ((AV.v (TV.one (At.bool (za9 q03 q0c q04 q0d q07 q0e q0h)))), []))
  | _ => none
def zcs (q03 : Nat) (q0c : List Nat) (q04 : Nat) (q0d : List Nat) (q07 : Nat) (q0e : List Nat) (q0h : Nat) : Option (Bool) → Option (AV × List Blk)
  | some r => some ((AV.v (TV.one (At.bool r))), [])
  | none => none
theorem zez (q03 : Nat) (q0c : List Nat) (q04 : Nat) (q0d : List Nat) (q07 : Nat) (q0e : List Nat) (q0h : Nat) : evFn Γ5 8 8 49 (impTs 0 [.ptr [.row 1 q03 (.fl .f32 q0c), .row 1 q04 (.fl .f32 q0d), .row 1 q07 (.fl .f32 q0e)], .one (.s (.flt .f32 q0h))]).1 (impTs 0 [.ptr [.row 1 q03 (.fl .f32 q0c), .row 1 q04 (.fl .f32 q0d), .row 1 q07 (.fl .f32 q0e)], .one (.s (.flt .f32 q0h))]).2 (expo (impTs 0 [.ptr [.row 1 q03 (.fl .f32 q0c), .row 1 q04 (.fl .f32 q0d), .row 1 q07 (.fl .f32 q0e)], .one (.s (.flt .f32 q0h))]).2.length) = z7u q03 q0c q04 q0d q07 q0e q0h (fun c0_ => some ((AV.v (TV.one (At.bool c0_))), [])) := by kernel_rfl
theorem z2c : SumOne Try.prog 49 z2q := sum_of (Γ := Γ5) (fuel := 8) (d := 8) tyTab_ok (FnL.ok fnTab_ok _ _) (LpL.ok lt5_ok) (SumL.ok tb5_ok _) mixed (by
  intro pts v news hp hc
  clear hc
  unfold z2q at hp
  split at hp
  · rename_i q03 q0c q04 q0d q07 q0e q0h
    exact Eq.trans (Eq.trans (zez q03 q0c q04 q0d q07 q0e q0h) (zdk (zcs q03 q0c q04 q0d q07 q0e q0h) rfl q03 q0c q04 q0d q07 q0e q0h (fun c0_ => some c0_))) (fin_out (o := (zcs q03 q0c q04 q0d q07 q0e q0h)) (x := z7s q03 q0c q04 q0d q07 q0e q0h) (d := default) (V := fun r => ((AV.v (TV.one (At.bool r))), [])) (fun r => rfl) hp)
  · cases hp)
noncomputable def z0f : List PT → Option (Bool × AV × List Blk)
  | [.one (.row 1 s_n (.fl .f32 s)), .fn 119 []] => some ((z4e s_n s), ((AV.v (TV.one (At.int IntKind.i64 (z49 s_n s)))), []))
  | _ => none
def z64 (s_n : Nat) (s : List Nat) : Option (Int) → Option (AV × List Blk)
  | some r => some ((AV.v (TV.one (At.int IntKind.i64 r))), [])
  | none => none
theorem z9k (s_n : Nat) (s : List Nat) : evFn Γ5 8 8 99 (impTs 0 [.one (.row 1 s_n (.fl .f32 s)), .fn 119 []]).1 (impTs 0 [.one (.row 1 s_n (.fl .f32 s)), .fn 119 []]).2 (expo (impTs 0 [.one (.row 1 s_n (.fl .f32 s)), .fn 119 []]).2.length) = z3o s_n s (fun c0_ => some ((AV.v (TV.one (At.int IntKind.i64 c0_))), [])) := by kernel_rfl
theorem z0e : SumOne Try.prog 99 z0f := sum_of (Γ := Γ5) (fuel := 8) (d := 8) tyTab_ok (FnL.ok fnTab_ok _ _) (LpL.ok lt5_ok) (SumL.ok tb5_ok _) mixed (by
  intro pts v news hp hc
  clear hc
  unfold z0f at hp
  split at hp
  · rename_i s_n s
    exact Eq.trans (Eq.trans (z9k s_n s) (z91 (z64 s_n s) rfl s_n s (fun c0_ => some c0_))) (fin_out (o := (z64 s_n s)) (x := z3n s_n s) (d := default) (V := fun r => ((AV.v (TV.one (At.int IntKind.i64 r))), [])) (fun r => rfl) hp)
  · cases hp)
noncomputable def z2x : List PT → Option (Bool × AV × List Blk)
  | [.one (.s (.flt .f64 x))] => some ((z9z x), ((AV.v (TV.one (At.flt FloatKind.f64 (z57 x)))), []))
  | _ => none
def zd4 (x : Nat) : Option (Nat) → Option (AV × List Blk)
  | some r => some ((AV.v (TV.one (At.flt FloatKind.f64 r))), [])
  | none => none
theorem zf4 (x : Nat) : evFn Γ5 8 8 116 (impTs 0 [.one (.s (.flt .f64 x))]).1 (impTs 0 [.one (.s (.flt .f64 x))]).2 (expo (impTs 0 [.one (.s (.flt .f64 x))]).2.length) = z8q x (fun c0_ => some ((AV.v (TV.one (At.flt FloatKind.f64 c0_))), [])) := by kernel_rfl
theorem z2l : SumOne Try.prog 116 z2x := sum_of (Γ := Γ5) (fuel := 8) (d := 8) tyTab_ok (FnL.ok fnTab_ok _ _) (LpL.ok lt5_ok) (SumL.ok tb5_ok _) mixed (by
  intro pts v news hp hc
  clear hc
  unfold z2x at hp
  split at hp
  · rename_i x
    exact Eq.trans (Eq.trans (zf4 x) (ze2 (zd4 x) rfl x (fun c0_ => some c0_))) (fin_out (o := (zd4 x)) (x := z8o x) (d := default) (V := fun r => ((AV.v (TV.one (At.flt FloatKind.f64 r))), [])) (fun r => rfl) hp)
  · cases hp)
noncomputable def tb6 : List (Nat × (List PT → Option (Bool × AV × List Blk))) := [(125, z1c), (128, z0h), (134, z0r), (137, z1b), (18, z1i), (48, z16), (54, z1v), (61, z1k), (97, z1u), (102, z2n), (109, z1j), (14, z1p), (51, z1q), (56, z27), (103, z1y), (111, z28), (118, z10), (52, z1g), (119, z1f), (16, z1x), (57, z1l), (19, z21), (62, z2u), (99, z0a), (49, z2q), (99, z0f), (116, z2x)]
noncomputable def lt6 : List ((Nat × Nat) × (Nat → St → Option (Bool × LO))) := [((52, 3), z0o), ((57, 4), z0s), ((62, 5), z2a), ((99, 2), z03), ((99, 2), z05)]
noncomputable def Γ6 : Ctx := ⟨tyTab, fnTab, tblSum tb6, tblLp lt6⟩
theorem tb6_ok : SumL Try.prog tb6 := SumL.cons z0q (SumL.cons z0g (SumL.cons z0k (SumL.cons z0p (SumL.cons z0v (SumL.cons z0n (SumL.cons z14 (SumL.cons z0u (SumL.cons z15 (SumL.cons z22 (SumL.cons z0t (SumL.cons z12 (SumL.cons z11 (SumL.cons z1m (SumL.cons z19 (SumL.cons z1n (SumL.cons z0m (SumL.cons z0x (SumL.cons z0w (SumL.cons z1a (SumL.cons z13 (SumL.cons z1h (SumL.cons z2i (SumL.cons z08 (SumL.cons z2c (SumL.cons z0e (SumL.cons z2l (SumL.nil)))))))))))))))))))))))))))
theorem lt6_ok : LpL Try.prog fnTab lt6 := LpL.cons z0i (LpL.cons z0j (LpL.cons z1o (LpL.cons z02 (LpL.cons z04 (LpL.nil)))))
noncomputable def z2p : List PT → Option (Bool × AV × List Blk)
  | [.one (.s (.flt .f32 x))] => some ((za3 x), ((AV.v (TV.one (At.flt FloatKind.f32 (z01 x)))), []))
  | _ => none
def zc2 (x : Nat) : Option (Nat) → Option (AV × List Blk)
  | some r => some ((AV.v (TV.one (At.flt FloatKind.f32 r))), [])
  | none => none
theorem zet (x : Nat) : evFn Γ6 8 8 94 (impTs 0 [.one (.s (.flt .f32 x))]).1 (impTs 0 [.one (.s (.flt .f32 x))]).2 (expo (impTs 0 [.one (.s (.flt .f32 x))]).2.length) = z74 x (fun c0_ => some ((AV.v (TV.one (At.flt FloatKind.f32 c0_))), [])) := by kernel_rfl
theorem z2b : SumOne Try.prog 94 z2p := sum_of (Γ := Γ6) (fuel := 8) (d := 8) tyTab_ok (FnL.ok fnTab_ok _ _) (LpL.ok lt6_ok) (SumL.ok tb6_ok _) mixed (by
  intro pts v news hp hc
  clear hc
  unfold z2p at hp
  split at hp
  · rename_i x
    exact Eq.trans (Eq.trans (zet x) (zd7 (zc2 x) rfl x (fun c0_ => some c0_))) (fin_out (o := (zc2 x)) (x := z7a x) (d := default) (V := fun r => ((AV.v (TV.one (At.flt FloatKind.f32 r))), [])) (fun r => rfl) hp)
  · cases hp)
noncomputable def z29 : List PT → Option (Bool × AV × List Blk)
  | [.one (.s (.flt .f32 x))] => some ((z9c x), ((AV.v (TV.one (At.flt FloatKind.f32 (z32 x)))), []))
  | _ => none
def zbb (x : Nat) : Option (Nat) → Option (AV × List Blk)
  | some r => some ((AV.v (TV.one (At.flt FloatKind.f32 r))), [])
  | none => none
theorem ze9 (x : Nat) : evFn Γ6 8 8 98 (impTs 0 [.one (.s (.flt .f32 x))]).1 (impTs 0 [.one (.s (.flt .f32 x))]).2 (expo (impTs 0 [.one (.s (.flt .f32 x))]).2.length) = z65 x (fun c0_ => some ((AV.v (TV.one (At.flt FloatKind.f32 c0_))), [])) := by kernel_rfl
theorem z1t : SumOne Try.prog 98 z29 := sum_of (Γ := Γ6) (fuel := 8) (d := 8) tyTab_ok (FnL.ok fnTab_ok _ _) (LpL.ok lt6_ok) (SumL.ok tb6_ok _) mixed (by
  intro pts v news hp hc
  clear hc
  unfold z29 at hp
  split at hp
  · rename_i x
    exact Eq.trans (Eq.trans (ze9 x) (zck (zbb x) rfl x (fun c0_ => some c0_))) (fin_out (o := (zbb x)) (x := z6h x) (d := default) (V := fun r => ((AV.v (TV.one (At.flt FloatKind.f32 r))), [])) (fun r => rfl) hp)
  · cases hp)
noncomputable def z07 : List PT → Option (Bool × AV × List Blk)
  | [.one (.row 1 s_n (.fl .f32 s)), .fn 118 []] => some ((z42 s_n s), ((AV.v (TV.one (At.bool (z40 s_n s)))), []))
  | _ => none
def z5f (s_n : Nat) (s : List Nat) : Option (Bool) → Option (AV × List Blk)
  | some r => some ((AV.v (TV.one (At.bool r))), [])
  | none => none
theorem z8m (s_n : Nat) (s : List Nat) : evFn Γ6 8 8 117 (impTs 0 [.one (.row 1 s_n (.fl .f32 s)), .fn 118 []]).1 (impTs 0 [.one (.row 1 s_n (.fl .f32 s)), .fn 118 []]).2 (expo (impTs 0 [.one (.row 1 s_n (.fl .f32 s)), .fn 118 []]).2.length) = z3a s_n s (fun c0_ => some ((AV.v (TV.one (At.bool c0_))), [])) := by kernel_rfl
theorem z06 : SumOne Try.prog 117 z07 := sum_of (Γ := Γ6) (fuel := 8) (d := 8) tyTab_ok (FnL.ok fnTab_ok _ _) (LpL.ok lt6_ok) (SumL.ok tb6_ok _) mixed (by
  intro pts v news hp hc
  clear hc
  unfold z07 at hp
  split at hp
  · rename_i s_n s
    exact Eq.trans (Eq.trans (z8m s_n s) (z7q (z5f s_n s) rfl s_n s (fun c0_ => some c0_))) (fin_out (o := (z5f s_n s)) (x := z3b s_n s) (d := default) (V := fun r => ((AV.v (TV.one (At.bool r))), [])) (fun r => rfl) hp)
  · cases hp)
noncomputable def z0c : List PT → Option (Bool × AV × List Blk)
  | [.one (.row 1 s_n (.fl .f32 s)), .fn 119 []] => some ((z45 s_n s), ((AV.v (TV.one (At.bool (z41 s_n s)))), []))
  | _ => none
def z5k (s_n : Nat) (s : List Nat) : Option (Bool) → Option (AV × List Blk)
  | some r => some ((AV.v (TV.one (At.bool r))), [])
  | none => none
theorem z92 (s_n : Nat) (s : List Nat) : evFn Γ6 8 8 117 (impTs 0 [.one (.row 1 s_n (.fl .f32 s)), .fn 119 []]).1 (impTs 0 [.one (.row 1 s_n (.fl .f32 s)), .fn 119 []]).2 (expo (impTs 0 [.one (.row 1 s_n (.fl .f32 s)), .fn 119 []]).2.length) = z3i s_n s (fun c0_ => some ((AV.v (TV.one (At.bool c0_))), [])) := by kernel_rfl
theorem z0b : SumOne Try.prog 117 z0c := sum_of (Γ := Γ6) (fuel := 8) (d := 8) tyTab_ok (FnL.ok fnTab_ok _ _) (LpL.ok lt6_ok) (SumL.ok tb6_ok _) mixed (by
  intro pts v news hp hc
  clear hc
  unfold z0c at hp
  split at hp
  · rename_i s_n s
    exact Eq.trans (Eq.trans (z92 s_n s) (z82 (z5k s_n s) rfl s_n s (fun c0_ => some c0_))) (fin_out (o := (z5k s_n s)) (x := z3j s_n s) (d := default) (V := fun r => ((AV.v (TV.one (At.bool r))), [])) (fun r => rfl) hp)
  · cases hp)
noncomputable def tb7 : List (Nat × (List PT → Option (Bool × AV × List Blk))) := [(125, z1c), (128, z0h), (134, z0r), (137, z1b), (18, z1i), (48, z16), (54, z1v), (61, z1k), (97, z1u), (102, z2n), (109, z1j), (14, z1p), (51, z1q), (56, z27), (103, z1y), (111, z28), (118, z10), (52, z1g), (119, z1f), (16, z1x), (57, z1l), (19, z21), (62, z2u), (99, z0a), (49, z2q), (99, z0f), (116, z2x), (94, z2p), (98, z29), (117, z07), (117, z0c)]
noncomputable def lt7 : List ((Nat × Nat) × (Nat → St → Option (Bool × LO))) := [((52, 3), z0o), ((57, 4), z0s), ((62, 5), z2a), ((99, 2), z03), ((99, 2), z05)]
noncomputable def Γ7 : Ctx := ⟨tyTab, fnTab, tblSum tb7, tblLp lt7⟩
theorem tb7_ok : SumL Try.prog tb7 := SumL.cons z0q (SumL.cons z0g (SumL.cons z0k (SumL.cons z0p (SumL.cons z0v (SumL.cons z0n (SumL.cons z14 (SumL.cons z0u (SumL.cons z15 (SumL.cons z22 (SumL.cons z0t (SumL.cons z12 (SumL.cons z11 (SumL.cons z1m (SumL.cons z19 (SumL.cons z1n (SumL.cons z0m (SumL.cons z0x (SumL.cons z0w (SumL.cons z1a (SumL.cons z13 (SumL.cons z1h (SumL.cons z2i (SumL.cons z08 (SumL.cons z2c (SumL.cons z0e (SumL.cons z2l (SumL.cons z2b (SumL.cons z1t (SumL.cons z06 (SumL.cons z0b (SumL.nil)))))))))))))))))))))))))))))))
theorem lt7_ok : LpL Try.prog fnTab lt7 := LpL.cons z0i (LpL.cons z0j (LpL.cons z1o (LpL.cons z02 (LpL.cons z04 (LpL.nil)))))
noncomputable def z2d : List PT → Option (Bool × AV × List Blk)
  | [.one (.row 1 q0q (.fl .f32 q0t))] => some ((z9a q0q q0t), ((AV.v (TV.one (At.bool (z8h q0q q0t)))), []))
  | _ => none
def zb2 (q0q : Nat) (q0t : List Nat) : Option (Bool) → Option (AV × List Blk)
  | some r => some ((AV.v (TV.one (At.bool r))), [])
  | none => none
theorem zea (q0q : Nat) (q0t : List Nat) : evFn Γ7 8 8 95 (impTs 0 [.one (.row 1 q0q (.fl .f32 q0t))]).1 (impTs 0 [.one (.row 1 q0q (.fl .f32 q0t))]).2 (expo (impTs 0 [.one (.row 1 q0q (.fl .f32 q0t))]).2.length) = z6d q0q q0t (fun c0_ => some ((AV.v (TV.one (At.bool c0_))), [])) := by kernel_rfl
theorem z20 : SumOne Try.prog 95 z2d := sum_of (Γ := Γ7) (fuel := 8) (d := 8) tyTab_ok (FnL.ok fnTab_ok _ _) (LpL.ok lt7_ok) (SumL.ok tb7_ok _) mixed (by
  intro pts v news hp hc
  clear hc
  unfold z2d at hp
  split at hp
  · rename_i q0q q0t
    exact Eq.trans (Eq.trans (zea q0q q0t) (zce (zb2 q0q q0t) rfl q0q q0t (fun c0_ => some c0_))) (fin_out (o := (zb2 q0q q0t)) (x := z6k q0q q0t) (d := default) (V := fun r => ((AV.v (TV.one (At.bool r))), [])) (fun r => rfl) hp)
  · cases hp)
noncomputable def z2k : List PT → Option (Bool × AV × List Blk)
  | [.one (.row 1 q0q (.fl .f32 q0t))] => some ((z9n q0q q0t), ((AV.v (TV.one (At.bool (z9g q0q q0t)))), []))
  | _ => none
def zbk (q0q : Nat) (q0t : List Nat) : Option (Bool) → Option (AV × List Blk)
  | some r => some ((AV.v (TV.one (At.bool r))), [])
  | none => none
theorem zel (q0q : Nat) (q0t : List Nat) : evFn Γ7 8 8 96 (impTs 0 [.one (.row 1 q0q (.fl .f32 q0t))]).1 (impTs 0 [.one (.row 1 q0q (.fl .f32 q0t))]).2 (expo (impTs 0 [.one (.row 1 q0q (.fl .f32 q0t))]).2.length) = z6n q0q q0t (fun c0_ => some ((AV.v (TV.one (At.bool c0_))), [])) := by kernel_rfl
theorem z24 : SumOne Try.prog 96 z2k := sum_of (Γ := Γ7) (fuel := 8) (d := 8) tyTab_ok (FnL.ok fnTab_ok _ _) (LpL.ok lt7_ok) (SumL.ok tb7_ok _) mixed (by
  intro pts v news hp hc
  clear hc
  unfold z2k at hp
  split at hp
  · rename_i q0q q0t
    exact Eq.trans (Eq.trans (zel q0q q0t) (zcu (zbk q0q q0t) rfl q0q q0t (fun c0_ => some c0_))) (fin_out (o := (zbk q0q q0t)) (x := z6m q0q q0t) (d := default) (V := fun r => ((AV.v (TV.one (At.bool r))), [])) (fun r => rfl) hp)
  · cases hp)
noncomputable def tb8 : List (Nat × (List PT → Option (Bool × AV × List Blk))) := [(125, z1c), (128, z0h), (134, z0r), (137, z1b), (18, z1i), (48, z16), (54, z1v), (61, z1k), (97, z1u), (102, z2n), (109, z1j), (14, z1p), (51, z1q), (56, z27), (103, z1y), (111, z28), (118, z10), (52, z1g), (119, z1f), (16, z1x), (57, z1l), (19, z21), (62, z2u), (99, z0a), (49, z2q), (99, z0f), (116, z2x), (94, z2p), (98, z29), (117, z07), (117, z0c), (95, z2d), (96, z2k)]
noncomputable def lt8 : List ((Nat × Nat) × (Nat → St → Option (Bool × LO))) := [((52, 3), z0o), ((57, 4), z0s), ((62, 5), z2a), ((99, 2), z03), ((99, 2), z05)]
noncomputable def Γ8 : Ctx := ⟨tyTab, fnTab, tblSum tb8, tblLp lt8⟩
theorem tb8_ok : SumL Try.prog tb8 := SumL.cons z0q (SumL.cons z0g (SumL.cons z0k (SumL.cons z0p (SumL.cons z0v (SumL.cons z0n (SumL.cons z14 (SumL.cons z0u (SumL.cons z15 (SumL.cons z22 (SumL.cons z0t (SumL.cons z12 (SumL.cons z11 (SumL.cons z1m (SumL.cons z19 (SumL.cons z1n (SumL.cons z0m (SumL.cons z0x (SumL.cons z0w (SumL.cons z1a (SumL.cons z13 (SumL.cons z1h (SumL.cons z2i (SumL.cons z08 (SumL.cons z2c (SumL.cons z0e (SumL.cons z2l (SumL.cons z2b (SumL.cons z1t (SumL.cons z06 (SumL.cons z0b (SumL.cons z20 (SumL.cons z24 (SumL.nil)))))))))))))))))))))))))))))))))
theorem lt8_ok : LpL Try.prog fnTab lt8 := LpL.cons z0i (LpL.cons z0j (LpL.cons z1o (LpL.cons z02 (LpL.cons z04 (LpL.nil)))))
noncomputable def zap (t8 : Nat) (t9 : Int) (t10 : Int) (b0 : List Nat) (b1 : List Nat) (b2 : List Nat) (q0m : Nat) (q0r : Nat) (q0s : Nat) : Bool × LO := ((z8i t8 b0 q0m t10), (LO.one (Ex.exit 0) (St.mk [(0, (AV.v (TV.one (At.ptr 3 0 3)))), (8, (AV.v (TV.one (At.flt FloatKind.f32 t8)))), (9, (AV.v (TV.one (At.int IntKind.i64 t9)))), (10, (AV.v (TV.one (At.int IntKind.i64 (z00 t8 b0 q0m t10))))), (36, (AV.v (TV.one (At.bool (z9f t8 b0 q0m t10)))))] [(Blk.mk Bool.false (Body.fl FloatKind.f32 b0)), (Blk.mk Bool.false (Body.fl FloatKind.f32 b1)), (Blk.mk Bool.false (Body.fl FloatKind.f32 b2)), (Blk.mk Bool.false (Body.cells [(At.vw 0 0 q0m 1), (At.vw 1 0 q0r 1), (At.vw 2 0 q0s 1)]))])))
noncomputable def z2g : Nat → St → Option (Bool × LO) := lpT 4 (pSt [(pTm 0 (pV (pOne (pPtr 3 (liN 0) 3)))), (pTm 8 (pV (pOne (pFlt FloatKind.f32)))), (pTm 9 (pV (pOne (pInt IntKind.i64)))), (pTm 10 (pV (pOne (pInt IntKind.i64))))] [(pBlk Bool.false (pFl FloatKind.f32)), (pBlk Bool.false (pFl FloatKind.f32)), (pBlk Bool.false (pFl FloatKind.f32)), (pBlk Bool.false (pCells [(pVw 0 (liN 0) 1), (pVw 1 (liN 0) 1), (pVw 2 (liN 0) 1)]))]) (fun hs => zap (hvN (hGet hs 0)) (hvI (hGet hs 1)) (hvI (hGet hs 2)) (hvLn (hGet hs 3)) (hvLn (hGet hs 4)) (hvLn (hGet hs 5)) (hvN (hGet hs 6)) (hvN (hGet hs 7)) (hvN (hGet hs 8)))
def z8e (t8 : Nat) (t9 : Int) (b0 : List Nat) (b1 : List Nat) (b2 : List Nat) (q0m : Nat) (q0r : Nat) (q0s : Nat) : Option ((Int × Bool)) → Option (Ex × St)
  | none => none
  | some r => some ((Ex.exit 0), (St.mk [(0, (AV.v (TV.one (At.ptr 3 0 3)))), (8, (AV.v (TV.one (At.flt FloatKind.f32 t8)))), (9, (AV.v (TV.one (At.int IntKind.i64 t9)))), (10, (AV.v (TV.one (At.int IntKind.i64 r.1)))), (36, (AV.v (TV.one (At.bool r.2))))] [(Blk.mk Bool.false (Body.fl FloatKind.f32 b0)), (Blk.mk Bool.false (Body.fl FloatKind.f32 b1)), (Blk.mk Bool.false (Body.fl FloatKind.f32 b2)), (Blk.mk Bool.false (Body.cells [(At.vw 0 0 q0m 1), (At.vw 1 0 q0r 1), (At.vw 2 0 q0s 1)]))]))
def zdb (t8 : Nat) (t9 : Int) (b0 : List Nat) (b1 : List Nat) (b2 : List Nat) (q0m : Nat) (q0r : Nat) (q0s : Nat) (x : Option ((Int × Bool))) : LO := (LO.one (Ex.exit 0) (St.mk [(0, (AV.v (TV.one (At.ptr 3 0 3)))), (8, (AV.v (TV.one (At.flt FloatKind.f32 t8)))), (9, (AV.v (TV.one (At.int IntKind.i64 t9)))), (10, (AV.v (TV.one (At.int IntKind.i64 (x.getD default).1)))), (36, (AV.v (TV.one (At.bool (x.getD default).2))))] [(Blk.mk Bool.false (Body.fl FloatKind.f32 b0)), (Blk.mk Bool.false (Body.fl FloatKind.f32 b1)), (Blk.mk Bool.false (Body.fl FloatKind.f32 b2)), (Blk.mk Bool.false (Body.cells [(At.vw 0 0 q0m 1), (At.vw 1 0 q0r 1), (At.vw 2 0 q0s 1)]))]))
theorem zdn (t8 : Nat) (t9 : Int) (b0 : List Nat) (b1 : List Nat) (b2 : List Nat) (q0m : Nat) (q0r : Nat) (q0s : Nat) : ∀ x : Option ((Int × Bool)), x.isSome = true → (z8e t8 t9 b0 b1 b2 q0m q0r q0s) x = some (pick (zdb t8 t9 b0 b1 b2 q0m q0r q0s x))
  | none, h => by cases h
  | some r, _ => rfl
theorem zdo (t8 : Nat) (t9 : Int) (t10 : Int) (b0 : List Nat) (b1 : List Nat) (b2 : List Nat) (q0m : Nat) (q0r : Nat) (q0s : Nat) (K : Ex → St → Option (Ex × St)) : evC (R := Ex × St) Γ8 (evFn Γ8 8 8) 50 4 fi50.nt fi50.live fi50.nl 8 (findL 4 (loopsIn fi50.code)) (St.mk [(0, (AV.v (TV.one (At.ptr 3 0 3)))), (8, (AV.v (TV.one (At.flt FloatKind.f32 t8)))), (9, (AV.v (TV.one (At.int IntKind.i64 t9)))), (10, (AV.v (TV.one (At.int IntKind.i64 t10))))] [(Blk.mk Bool.false (Body.fl FloatKind.f32 b0)), (Blk.mk Bool.false (Body.fl FloatKind.f32 b1)), (Blk.mk Bool.false (Body.fl FloatKind.f32 b2)), (Blk.mk Bool.false (Body.cells [(At.vw 0 0 q0m 1), (At.vw 1 0 q0r 1), (At.vw 2 0 q0s 1)]))]) K = z4o t8 b0 q0m t10 (fun t10' => K .normal (St.mk [(0, (AV.v (TV.one (At.ptr 3 0 3)))), (8, (AV.v (TV.one (At.flt FloatKind.f32 t8)))), (9, (AV.v (TV.one (At.int IntKind.i64 t9)))), (10, (AV.v (TV.one (At.int IntKind.i64 t10'))))] [(Blk.mk Bool.false (Body.fl FloatKind.f32 b0)), (Blk.mk Bool.false (Body.fl FloatKind.f32 b1)), (Blk.mk Bool.false (Body.fl FloatKind.f32 b2)), (Blk.mk Bool.false (Body.cells [(At.vw 0 0 q0m 1), (At.vw 1 0 q0r 1), (At.vw 2 0 q0s 1)]))])) (fun c0_ c1_ => K (Ex.exit 0) (St.mk [(0, (AV.v (TV.one (At.ptr 3 0 3)))), (8, (AV.v (TV.one (At.flt FloatKind.f32 t8)))), (9, (AV.v (TV.one (At.int IntKind.i64 t9)))), (10, (AV.v (TV.one (At.int IntKind.i64 c0_)))), (36, (AV.v (TV.one (At.bool c1_))))] [(Blk.mk Bool.false (Body.fl FloatKind.f32 b0)), (Blk.mk Bool.false (Body.fl FloatKind.f32 b1)), (Blk.mk Bool.false (Body.fl FloatKind.f32 b2)), (Blk.mk Bool.false (Body.cells [(At.vw 0 0 q0m 1), (At.vw 1 0 q0r 1), (At.vw 2 0 q0s 1)]))])) := by kernel_rfl
theorem zdt (t8 : Nat) (t9 : Int) (b0 : List Nat) (b1 : List Nat) (b2 : List Nat) (q0m : Nat) (q0r : Nat) (q0s : Nat) : ∀ (n : Nat) (t10 : Int), iter 50 4 4 (evC (R := Ex × St) Γ8 (evFn Γ8 8 8) 50 4 fi50.nt fi50.live fi50.nl 8 (findL 4 (loopsIn fi50.code))) n (St.mk [(0, (AV.v (TV.one (At.ptr 3 0 3)))), (8, (AV.v (TV.one (At.flt FloatKind.f32 t8)))), (9, (AV.v (TV.one (At.int IntKind.i64 t9)))), (10, (AV.v (TV.one (At.int IntKind.i64 t10))))] [(Blk.mk Bool.false (Body.fl FloatKind.f32 b0)), (Blk.mk Bool.false (Body.fl FloatKind.f32 b1)), (Blk.mk Bool.false (Body.fl FloatKind.f32 b2)), (Blk.mk Bool.false (Body.cells [(At.vw 0 0 q0m 1), (At.vw 1 0 q0r 1), (At.vw 2 0 q0s 1)]))]) (fun e st => some (e, st)) = (z8e t8 t9 b0 b1 b2 q0m q0r q0s) (z3x t8 b0 q0m n t10) := by
  intro n
  induction n with
  | zero => intros; rfl
  | succ n ih =>
    intro t10
    refine Eq.trans (iter_succ ..) (Eq.trans (zdo t8 t9 t10 b0 b1 b2 q0m q0r q0s (nextK 50 4 4 (evC (R := Ex × St) Γ8 (evFn Γ8 8 8) 50 4 fi50.nt fi50.live fi50.nl 8 (findL 4 (loopsIn fi50.code))) n (fun e st => some (e, st)))) (Eq.trans ?_ (zbw (z8e t8 t9 b0 b1 b2 q0m q0r q0s) rfl t8 b0 q0m t10 (fun t10' => z3x t8 b0 q0m n t10') (fun c0_ c1_ => some (c0_, c1_)))))
    exact congrArg (fun kn_ => z4o t8 b0 q0m t10 kn_ (fun c0_ c1_ => (z8e t8 t9 b0 b1 b2 q0m q0r q0s) (some (c0_, c1_)))) (funext fun t10' => ih t10')
theorem z1w : LoopOne Try.prog fnTab 50 4 z2g := lp_of (Γ := Γ8) tyTab_ok (FnL.ok fnTab_ok _ _) (LpL.ok lt8_ok) (SumL.ok tb8_ok _) mixed (fi := fi50) (by kernel_rfl) (by kernel_rfl) (by
  intro lo st out hp
  obtain ⟨hs, e1, e2, e3⟩ := lpT_inv hp
  clear hp
  obtain rfl : st = (St.mk [(0, (AV.v (TV.one (At.ptr 3 0 3)))), (8, (AV.v (TV.one (At.flt FloatKind.f32 (hvN (hGet hs 0)))))), (9, (AV.v (TV.one (At.int IntKind.i64 (hvI (hGet hs 1)))))), (10, (AV.v (TV.one (At.int IntKind.i64 (hvI (hGet hs 2))))))] [(Blk.mk Bool.false (Body.fl FloatKind.f32 (hvLn (hGet hs 3)))), (Blk.mk Bool.false (Body.fl FloatKind.f32 (hvLn (hGet hs 4)))), (Blk.mk Bool.false (Body.fl FloatKind.f32 (hvLn (hGet hs 5)))), (Blk.mk Bool.false (Body.cells [(At.vw 0 0 (hvN (hGet hs 6)) 1), (At.vw 1 0 (hvN (hGet hs 7)) 1), (At.vw 2 0 (hvN (hGet hs 8)) 1)]))]) := e2.trans (by kernel_rfl)
  clear e2
  subst e1
  unfold zap at e3
  injection e3 with h1 h2
  subst h2
  exact ⟨8, 8, big, Eq.trans (zdt (hvN (hGet hs 0)) (hvI (hGet hs 1)) (hvLn (hGet hs 3)) (hvLn (hGet hs 4)) (hvLn (hGet hs 5)) (hvN (hGet hs 6)) (hvN (hGet hs 7)) (hvN (hGet hs 8)) big (hvI (hGet hs 2))) (zdn (hvN (hGet hs 0)) (hvI (hGet hs 1)) (hvLn (hGet hs 3)) (hvLn (hGet hs 4)) (hvLn (hGet hs 5)) (hvN (hGet hs 6)) (hvN (hGet hs 7)) (hvN (hGet hs 8)) (z3x (hvN (hGet hs 0)) (hvLn (hGet hs 3)) (hvN (hGet hs 6)) big (hvI (hGet hs 2))) h1)⟩)
noncomputable def z4v (sn : Nat) (t7 : Int) (t8 : Int) (b0 : List Nat) (b1 : List Nat) (b2 : List Nat) (q0m : Nat) (q0r : Nat) (q0s : Nat) (b4 : Nat) : Bool × LO := ((z36 sn t7 b0 b4 t8), (LO.two (z35 sn t7 b0 b4 t8) (LO.one Ex.ret (St.mk [(4, (AV.v (TV.one (At.int IntKind.i64 (z1r sn t7 b0 b4 t8)))))] [(Blk.mk Bool.false (Body.fl FloatKind.f32 b0)), (Blk.mk Bool.false (Body.fl FloatKind.f32 b1)), (Blk.mk Bool.false (Body.fl FloatKind.f32 b2)), (Blk.mk Bool.true (Body.cells [(At.vw 0 0 q0m 1), (At.vw 1 0 q0r 1), (At.vw 2 0 q0s 1)])), (Blk.mk Bool.true (Body.cells [(At.flt FloatKind.f32 b4)]))])) (LO.one (Ex.exit 0) (St.mk [(0, (AV.v (TV.one (At.vw 0 0 sn 1)))), (1, (AV.v (TV.one (At.fn 100 [(At.ptr 4 0 1)])))), (7, (AV.v (TV.one (At.int IntKind.i64 t7)))), (8, (AV.v (TV.one (At.int IntKind.i64 (z4d sn t7 b0 b4 t8))))), (9, (AV.v (TV.one (At.bool (z4b sn t7 b0 b4 t8)))))] [(Blk.mk Bool.false (Body.fl FloatKind.f32 b0)), (Blk.mk Bool.false (Body.fl FloatKind.f32 b1)), (Blk.mk Bool.false (Body.fl FloatKind.f32 b2)), (Blk.mk Bool.true (Body.cells [(At.vw 0 0 q0m 1), (At.vw 1 0 q0r 1), (At.vw 2 0 q0s 1)])), (Blk.mk Bool.true (Body.cells [(At.flt FloatKind.f32 b4)]))]))))
noncomputable def z0d : Nat → St → Option (Bool × LO) := lpT 5 (pSt [(pTm 0 (pV (pOne (pVw 0 (liN 0) 1)))), (pTm 1 (pV (pOne (pFn 100 [(pPtr 4 (liN 0) 1)])))), (pTm 7 (pV (pOne (pInt IntKind.i64)))), (pTm 8 (pV (pOne (pInt IntKind.i64))))] [(pBlk Bool.false (pFl FloatKind.f32)), (pBlk Bool.false (pFl FloatKind.f32)), (pBlk Bool.false (pFl FloatKind.f32)), (pBlk Bool.true (pCells [(pVw 0 (liN 0) 1), (pVw 1 (liN 0) 1), (pVw 2 (liN 0) 1)])), (pBlk Bool.true (pCells [(pFlt FloatKind.f32)]))]) (fun hs => z4v (hvN (hGet hs 0)) (hvI (hGet hs 1)) (hvI (hGet hs 2)) (hvLn (hGet hs 3)) (hvLn (hGet hs 4)) (hvLn (hGet hs 5)) (hvN (hGet hs 6)) (hvN (hGet hs 7)) (hvN (hGet hs 8)) (hvN (hGet hs 9)))
def z3m (sn : Nat) (t7 : Int) (b0 : List Nat) (b1 : List Nat) (b2 : List Nat) (q0m : Nat) (q0r : Nat) (q0s : Nat) (b4 : Nat) : Option ((Int) ⊕ (Int × Bool)) → Option (Ex × St)
  | none => none
  | some (Sum.inl r) => some (Ex.ret, (St.mk [(4, (AV.v (TV.one (At.int IntKind.i64 r))))] [(Blk.mk Bool.false (Body.fl FloatKind.f32 b0)), (Blk.mk Bool.false (Body.fl FloatKind.f32 b1)), (Blk.mk Bool.false (Body.fl FloatKind.f32 b2)), (Blk.mk Bool.true (Body.cells [(At.vw 0 0 q0m 1), (At.vw 1 0 q0r 1), (At.vw 2 0 q0s 1)])), (Blk.mk Bool.true (Body.cells [(At.flt FloatKind.f32 b4)]))]))
  | some (Sum.inr r) => some ((Ex.exit 0), (St.mk [(0, (AV.v (TV.one (At.vw 0 0 sn 1)))), (1, (AV.v (TV.one (At.fn 100 [(At.ptr 4 0 1)])))), (7, (AV.v (TV.one (At.int IntKind.i64 t7)))), (8, (AV.v (TV.one (At.int IntKind.i64 r.1)))), (9, (AV.v (TV.one (At.bool r.2))))] [(Blk.mk Bool.false (Body.fl FloatKind.f32 b0)), (Blk.mk Bool.false (Body.fl FloatKind.f32 b1)), (Blk.mk Bool.false (Body.fl FloatKind.f32 b2)), (Blk.mk Bool.true (Body.cells [(At.vw 0 0 q0m 1), (At.vw 1 0 q0r 1), (At.vw 2 0 q0s 1)])), (Blk.mk Bool.true (Body.cells [(At.flt FloatKind.f32 b4)]))]))
def z7r (sn : Nat) (t7 : Int) (b0 : List Nat) (b1 : List Nat) (b2 : List Nat) (q0m : Nat) (q0r : Nat) (q0s : Nat) (b4 : Nat) (x : Option ((Int) ⊕ (Int × Bool))) : LO := (LO.two (oL x) (LO.one Ex.ret (St.mk [(4, (AV.v (TV.one (At.int IntKind.i64 ((tL x).getD default)))))] [(Blk.mk Bool.false (Body.fl FloatKind.f32 b0)), (Blk.mk Bool.false (Body.fl FloatKind.f32 b1)), (Blk.mk Bool.false (Body.fl FloatKind.f32 b2)), (Blk.mk Bool.true (Body.cells [(At.vw 0 0 q0m 1), (At.vw 1 0 q0r 1), (At.vw 2 0 q0s 1)])), (Blk.mk Bool.true (Body.cells [(At.flt FloatKind.f32 b4)]))])) (LO.one (Ex.exit 0) (St.mk [(0, (AV.v (TV.one (At.vw 0 0 sn 1)))), (1, (AV.v (TV.one (At.fn 100 [(At.ptr 4 0 1)])))), (7, (AV.v (TV.one (At.int IntKind.i64 t7)))), (8, (AV.v (TV.one (At.int IntKind.i64 ((tR x).getD default).1)))), (9, (AV.v (TV.one (At.bool ((tR x).getD default).2))))] [(Blk.mk Bool.false (Body.fl FloatKind.f32 b0)), (Blk.mk Bool.false (Body.fl FloatKind.f32 b1)), (Blk.mk Bool.false (Body.fl FloatKind.f32 b2)), (Blk.mk Bool.true (Body.cells [(At.vw 0 0 q0m 1), (At.vw 1 0 q0r 1), (At.vw 2 0 q0s 1)])), (Blk.mk Bool.true (Body.cells [(At.flt FloatKind.f32 b4)]))])))
theorem z84 (sn : Nat) (t7 : Int) (b0 : List Nat) (b1 : List Nat) (b2 : List Nat) (q0m : Nat) (q0r : Nat) (q0s : Nat) (b4 : Nat) : ∀ x : Option ((Int) ⊕ (Int × Bool)), x.isSome = true → (z3m sn t7 b0 b1 b2 q0m q0r q0s b4) x = some (pick (z7r sn t7 b0 b1 b2 q0m q0r q0s b4 x))
  | none, h => by cases h
  | some (Sum.inl r), _ => rfl
  | some (Sum.inr r), _ => rfl
theorem z83 (sn : Nat) (t7 : Int) (t8 : Int) (b0 : List Nat) (b1 : List Nat) (b2 : List Nat) (q0m : Nat) (q0r : Nat) (q0s : Nat) (b4 : Nat) (K : Ex → St → Option (Ex × St)) : evC (R := Ex × St) Γ8 (evFn Γ8 8 8) 99 5 fi99.nt fi99.live fi99.nl 8 (findL 2 (loopsIn fi99.code)) (St.mk [(0, (AV.v (TV.one (At.vw 0 0 sn 1)))), (1, (AV.v (TV.one (At.fn 100 [(At.ptr 4 0 1)])))), (7, (AV.v (TV.one (At.int IntKind.i64 t7)))), (8, (AV.v (TV.one (At.int IntKind.i64 t8))))] [(Blk.mk Bool.false (Body.fl FloatKind.f32 b0)), (Blk.mk Bool.false (Body.fl FloatKind.f32 b1)), (Blk.mk Bool.false (Body.fl FloatKind.f32 b2)), (Blk.mk Bool.true (Body.cells [(At.vw 0 0 q0m 1), (At.vw 1 0 q0r 1), (At.vw 2 0 q0s 1)])), (Blk.mk Bool.true (Body.cells [(At.flt FloatKind.f32 b4)]))]) K = z2o sn t7 b0 b4 t8 (fun t8' => K .normal (St.mk [(0, (AV.v (TV.one (At.vw 0 0 sn 1)))), (1, (AV.v (TV.one (At.fn 100 [(At.ptr 4 0 1)])))), (7, (AV.v (TV.one (At.int IntKind.i64 t7)))), (8, (AV.v (TV.one (At.int IntKind.i64 t8'))))] [(Blk.mk Bool.false (Body.fl FloatKind.f32 b0)), (Blk.mk Bool.false (Body.fl FloatKind.f32 b1)), (Blk.mk Bool.false (Body.fl FloatKind.f32 b2)), (Blk.mk Bool.true (Body.cells [(At.vw 0 0 q0m 1), (At.vw 1 0 q0r 1), (At.vw 2 0 q0s 1)])), (Blk.mk Bool.true (Body.cells [(At.flt FloatKind.f32 b4)]))])) (fun c0_ => K Ex.ret (St.mk [(4, (AV.v (TV.one (At.int IntKind.i64 c0_))))] [(Blk.mk Bool.false (Body.fl FloatKind.f32 b0)), (Blk.mk Bool.false (Body.fl FloatKind.f32 b1)), (Blk.mk Bool.false (Body.fl FloatKind.f32 b2)), (Blk.mk Bool.true (Body.cells [(At.vw 0 0 q0m 1), (At.vw 1 0 q0r 1), (At.vw 2 0 q0s 1)])), (Blk.mk Bool.true (Body.cells [(At.flt FloatKind.f32 b4)]))])) (fun c0_ c1_ => K (Ex.exit 0) (St.mk [(0, (AV.v (TV.one (At.vw 0 0 sn 1)))), (1, (AV.v (TV.one (At.fn 100 [(At.ptr 4 0 1)])))), (7, (AV.v (TV.one (At.int IntKind.i64 t7)))), (8, (AV.v (TV.one (At.int IntKind.i64 c0_)))), (9, (AV.v (TV.one (At.bool c1_))))] [(Blk.mk Bool.false (Body.fl FloatKind.f32 b0)), (Blk.mk Bool.false (Body.fl FloatKind.f32 b1)), (Blk.mk Bool.false (Body.fl FloatKind.f32 b2)), (Blk.mk Bool.true (Body.cells [(At.vw 0 0 q0m 1), (At.vw 1 0 q0r 1), (At.vw 2 0 q0s 1)])), (Blk.mk Bool.true (Body.cells [(At.flt FloatKind.f32 b4)]))])) := by kernel_rfl
theorem z86 (sn : Nat) (t7 : Int) (b0 : List Nat) (b1 : List Nat) (b2 : List Nat) (q0m : Nat) (q0r : Nat) (q0s : Nat) (b4 : Nat) : ∀ (n : Nat) (t8 : Int), iter 99 2 5 (evC (R := Ex × St) Γ8 (evFn Γ8 8 8) 99 5 fi99.nt fi99.live fi99.nl 8 (findL 2 (loopsIn fi99.code))) n (St.mk [(0, (AV.v (TV.one (At.vw 0 0 sn 1)))), (1, (AV.v (TV.one (At.fn 100 [(At.ptr 4 0 1)])))), (7, (AV.v (TV.one (At.int IntKind.i64 t7)))), (8, (AV.v (TV.one (At.int IntKind.i64 t8))))] [(Blk.mk Bool.false (Body.fl FloatKind.f32 b0)), (Blk.mk Bool.false (Body.fl FloatKind.f32 b1)), (Blk.mk Bool.false (Body.fl FloatKind.f32 b2)), (Blk.mk Bool.true (Body.cells [(At.vw 0 0 q0m 1), (At.vw 1 0 q0r 1), (At.vw 2 0 q0s 1)])), (Blk.mk Bool.true (Body.cells [(At.flt FloatKind.f32 b4)]))]) (fun e st => some (e, st)) = (z3m sn t7 b0 b1 b2 q0m q0r q0s b4) (z0l sn t7 b0 b4 n t8) := by
  intro n
  induction n with
  | zero => intros; rfl
  | succ n ih =>
    intro t8
    refine Eq.trans (iter_succ ..) (Eq.trans (z83 sn t7 t8 b0 b1 b2 q0m q0r q0s b4 (nextK 99 2 5 (evC (R := Ex × St) Γ8 (evFn Γ8 8 8) 99 5 fi99.nt fi99.live fi99.nl 8 (findL 2 (loopsIn fi99.code))) n (fun e st => some (e, st)))) (Eq.trans ?_ (z76 (z3m sn t7 b0 b1 b2 q0m q0r q0s b4) rfl sn t7 b0 b4 t8 (fun t8' => z0l sn t7 b0 b4 n t8') (fun c0_ => some (Sum.inl c0_)) (fun c0_ c1_ => some (Sum.inr (c0_, c1_))))))
    exact congrArg (fun kn_ => z2o sn t7 b0 b4 t8 kn_ (fun c0_ => (z3m sn t7 b0 b1 b2 q0m q0r q0s b4) (some (Sum.inl c0_))) (fun c0_ c1_ => (z3m sn t7 b0 b1 b2 q0m q0r q0s b4) (some (Sum.inr (c0_, c1_))))) (funext fun t8' => ih t8')
theorem z09 : LoopOne Try.prog fnTab 99 2 z0d := lp_of (Γ := Γ8) tyTab_ok (FnL.ok fnTab_ok _ _) (LpL.ok lt8_ok) (SumL.ok tb8_ok _) mixed (fi := fi99) (by kernel_rfl) (by kernel_rfl) (by
  intro lo st out hp
  obtain ⟨hs, e1, e2, e3⟩ := lpT_inv hp
  clear hp
  obtain rfl : st = (St.mk [(0, (AV.v (TV.one (At.vw 0 0 (hvN (hGet hs 0)) 1)))), (1, (AV.v (TV.one (At.fn 100 [(At.ptr 4 0 1)])))), (7, (AV.v (TV.one (At.int IntKind.i64 (hvI (hGet hs 1)))))), (8, (AV.v (TV.one (At.int IntKind.i64 (hvI (hGet hs 2))))))] [(Blk.mk Bool.false (Body.fl FloatKind.f32 (hvLn (hGet hs 3)))), (Blk.mk Bool.false (Body.fl FloatKind.f32 (hvLn (hGet hs 4)))), (Blk.mk Bool.false (Body.fl FloatKind.f32 (hvLn (hGet hs 5)))), (Blk.mk Bool.true (Body.cells [(At.vw 0 0 (hvN (hGet hs 6)) 1), (At.vw 1 0 (hvN (hGet hs 7)) 1), (At.vw 2 0 (hvN (hGet hs 8)) 1)])), (Blk.mk Bool.true (Body.cells [(At.flt FloatKind.f32 (hvN (hGet hs 9)))]))]) := e2.trans (by kernel_rfl)
  clear e2
  subst e1
  unfold z4v at e3
  injection e3 with h1 h2
  subst h2
  exact ⟨8, 8, big, Eq.trans (z86 (hvN (hGet hs 0)) (hvI (hGet hs 1)) (hvLn (hGet hs 3)) (hvLn (hGet hs 4)) (hvLn (hGet hs 5)) (hvN (hGet hs 6)) (hvN (hGet hs 7)) (hvN (hGet hs 8)) (hvN (hGet hs 9)) big (hvI (hGet hs 2))) (z84 (hvN (hGet hs 0)) (hvI (hGet hs 1)) (hvLn (hGet hs 3)) (hvLn (hGet hs 4)) (hvLn (hGet hs 5)) (hvN (hGet hs 6)) (hvN (hGet hs 7)) (hvN (hGet hs 8)) (hvN (hGet hs 9)) (z0l (hvN (hGet hs 0)) (hvI (hGet hs 1)) (hvLn (hGet hs 3)) (hvN (hGet hs 9)) big (hvI (hGet hs 2))) h1)⟩)
noncomputable def tb9 : List (Nat × (List PT → Option (Bool × AV × List Blk))) := [(125, z1c), (128, z0h), (134, z0r), (137, z1b), (18, z1i), (48, z16), (54, z1v), (61, z1k), (97, z1u), (102, z2n), (109, z1j), (14, z1p), (51, z1q), (56, z27), (103, z1y), (111, z28), (118, z10), (52, z1g), (119, z1f), (16, z1x), (57, z1l), (19, z21), (62, z2u), (99, z0a), (49, z2q), (99, z0f), (116, z2x), (94, z2p), (98, z29), (117, z07), (117, z0c), (95, z2d), (96, z2k)]
noncomputable def lt9 : List ((Nat × Nat) × (Nat → St → Option (Bool × LO))) := [((52, 3), z0o), ((57, 4), z0s), ((62, 5), z2a), ((99, 2), z03), ((99, 2), z05), ((50, 4), z2g), ((99, 2), z0d)]
noncomputable def Γ9 : Ctx := ⟨tyTab, fnTab, tblSum tb9, tblLp lt9⟩
theorem tb9_ok : SumL Try.prog tb9 := SumL.cons z0q (SumL.cons z0g (SumL.cons z0k (SumL.cons z0p (SumL.cons z0v (SumL.cons z0n (SumL.cons z14 (SumL.cons z0u (SumL.cons z15 (SumL.cons z22 (SumL.cons z0t (SumL.cons z12 (SumL.cons z11 (SumL.cons z1m (SumL.cons z19 (SumL.cons z1n (SumL.cons z0m (SumL.cons z0x (SumL.cons z0w (SumL.cons z1a (SumL.cons z13 (SumL.cons z1h (SumL.cons z2i (SumL.cons z08 (SumL.cons z2c (SumL.cons z0e (SumL.cons z2l (SumL.cons z2b (SumL.cons z1t (SumL.cons z06 (SumL.cons z0b (SumL.cons z20 (SumL.cons z24 (SumL.nil)))))))))))))))))))))))))))))))))
theorem lt9_ok : LpL Try.prog fnTab lt9 := LpL.cons z0i (LpL.cons z0j (LpL.cons z1o (LpL.cons z02 (LpL.cons z04 (LpL.cons z1w (LpL.cons z09 (LpL.nil)))))))
noncomputable def z2v : List PT → Option (Bool × AV × List Blk)
  | [.ptr [.row 1 q00 (.fl .f32 q01), .row 1 q09 (.fl .f32 q0b), .row 1 q08 (.fl .f32 q0a)], .one (.s (.flt .f32 x1))] => some ((za8 q00 q01 q09 q0b q08 q0a x1), ((AV.tup [(TV.one (At.int IntKind.i64 (z5l q00 q01 q09 q0b q08 q0a x1))), (TV.one (At.int IntKind.i64 (z85 q00 q01 q09 q0b q08 q0a x1))), (TV.one (At.flt FloatKind.f32 (z9l q00 q01 q09 q0b q08 q0a x1))), (TV.one (At.flt FloatKind.f32 (zal q00 q01 q09 q0b q08 q0a x1)))]), []))
  | _ => none
def zc6 (q00 : Nat) (q01 : List Nat) (q09 : Nat) (q0b : List Nat) (q08 : Nat) (q0a : List Nat) (x1 : Nat) : Option (Int × Int × Nat × Nat) → Option (AV × List Blk)
  | some r => some ((AV.tup [(TV.one (At.int IntKind.i64 r.1)), (TV.one (At.int IntKind.i64 r.2.1)), (TV.one (At.flt FloatKind.f32 r.2.2.1)), (TV.one (At.flt FloatKind.f32 r.2.2.2))]), [])
  | none => none
theorem zex (q00 : Nat) (q01 : List Nat) (q09 : Nat) (q0b : List Nat) (q08 : Nat) (q0a : List Nat) (x1 : Nat) : evFn Γ9 8 8 50 (impTs 0 [.ptr [.row 1 q00 (.fl .f32 q01), .row 1 q09 (.fl .f32 q0b), .row 1 q08 (.fl .f32 q0a)], .one (.s (.flt .f32 x1))]).1 (impTs 0 [.ptr [.row 1 q00 (.fl .f32 q01), .row 1 q09 (.fl .f32 q0b), .row 1 q08 (.fl .f32 q0a)], .one (.s (.flt .f32 x1))]).2 (expo (impTs 0 [.ptr [.row 1 q00 (.fl .f32 q01), .row 1 q09 (.fl .f32 q0b), .row 1 q08 (.fl .f32 q0a)], .one (.s (.flt .f32 x1))]).2.length) = z6f q00 q01 q09 q0b q08 q0a x1 (fun c0_ c1_ c2_ c3_ => some ((AV.tup [(TV.one (At.int IntKind.i64 c0_)), (TV.one (At.int IntKind.i64 c1_)), (TV.one (At.flt FloatKind.f32 c2_)), (TV.one (At.flt FloatKind.f32 c3_))]), [])) := by kernel_rfl
theorem z2m : SumOne Try.prog 50 z2v := sum_of (Γ := Γ9) (fuel := 8) (d := 8) tyTab_ok (FnL.ok fnTab_ok _ _) (LpL.ok lt9_ok) (SumL.ok tb9_ok _) mixed (by
  intro pts v news hp hc
  clear hc
  unfold z2v at hp
  split at hp
  · rename_i q00 q01 q09 q0b q08 q0a x1
    exact Eq.trans (Eq.trans (zex q00 q01 q09 q0b q08 q0a x1) (zd3 (zc6 q00 q01 q09 q0b q08 q0a x1) rfl q00 q01 q09 q0b q08 q0a x1 (fun c0_ c1_ c2_ c3_ => some (c0_, c1_, c2_, c3_)))) (fin_out (o := (zc6 q00 q01 q09 q0b q08 q0a x1)) (x := z4q q00 q01 q09 q0b q08 q0a x1) (d := default) (V := fun r => ((AV.tup [(TV.one (At.int IntKind.i64 r.1)), (TV.one (At.int IntKind.i64 r.2.1)), (TV.one (At.flt FloatKind.f32 r.2.2.1)), (TV.one (At.flt FloatKind.f32 r.2.2.2))]), [])) (fun r => rfl) hp)
  · cases hp)
noncomputable def z17 : List PT → Option (Bool × AV × List Blk)
  | [.agg [.row 1 q00 (.fl .f32 q01), .row 1 q09 (.fl .f32 q0b), .row 1 q08 (.fl .f32 q0a)], .one (.s (.flt .f32 x1))] => some ((z6l q00 q01 q09 q0b q08 q0a x1), ((AV.tup [(TV.one (At.int IntKind.i64 (z3v q00 q01 q09 q0b q08 q0a x1))), (TV.one (At.int IntKind.i64 (z3u q00 q01 q09 q0b q08 q0a x1))), (TV.one (At.flt FloatKind.f32 (z44 q00 q01 q09 q0b q08 q0a x1))), (TV.one (At.flt FloatKind.f32 (z4p q00 q01 q09 q0b q08 q0a x1))), (TV.one (At.flt FloatKind.f32 (z50 q00 q01 q09 q0b q08 q0a x1)))]), []))
  | _ => none
def zab (q00 : Nat) (q01 : List Nat) (q09 : Nat) (q0b : List Nat) (q08 : Nat) (q0a : List Nat) (x1 : Nat) : Option (Int × Int × Nat × Nat × Nat) → Option (AV × List Blk)
  | some r => some ((AV.tup [(TV.one (At.int IntKind.i64 r.1)), (TV.one (At.int IntKind.i64 r.2.1)), (TV.one (At.flt FloatKind.f32 r.2.2.1)), (TV.one (At.flt FloatKind.f32 r.2.2.2.1)), (TV.one (At.flt FloatKind.f32 r.2.2.2.2))]), [])
  | none => none
theorem zbn (q00 : Nat) (q01 : List Nat) (q09 : Nat) (q0b : List Nat) (q08 : Nat) (q0a : List Nat) (x1 : Nat) : evFn Γ9 8 8 55 (impTs 0 [.agg [.row 1 q00 (.fl .f32 q01), .row 1 q09 (.fl .f32 q0b), .row 1 q08 (.fl .f32 q0a)], .one (.s (.flt .f32 x1))]).1 (impTs 0 [.agg [.row 1 q00 (.fl .f32 q01), .row 1 q09 (.fl .f32 q0b), .row 1 q08 (.fl .f32 q0a)], .one (.s (.flt .f32 x1))]).2 (expo (impTs 0 [.agg [.row 1 q00 (.fl .f32 q01), .row 1 q09 (.fl .f32 q0b), .row 1 q08 (.fl .f32 q0a)], .one (.s (.flt .f32 x1))]).2.length) = z4m q00 q01 q09 q0b q08 q0a x1 (fun c0_ c1_ c2_ c3_ c4_ => some ((AV.tup [(TV.one (At.int IntKind.i64 c0_)), (TV.one (At.int IntKind.i64 c1_)), (TV.one (At.flt FloatKind.f32 c2_)), (TV.one (At.flt FloatKind.f32 c3_)), (TV.one (At.flt FloatKind.f32 c4_))]), [])) := by kernel_rfl
theorem z0y : SumOne Try.prog 55 z17 := sum_of (Γ := Γ9) (fuel := 8) (d := 8) tyTab_ok (FnL.ok fnTab_ok _ _) (LpL.ok lt9_ok) (SumL.ok tb9_ok _) mixed (by
  intro pts v news hp hc
  clear hc
  unfold z17 at hp
  split at hp
  · rename_i q00 q01 q09 q0b q08 q0a x1
    exact Eq.trans (Eq.trans (zbn q00 q01 q09 q0b q08 q0a x1) (zat (zab q00 q01 q09 q0b q08 q0a x1) rfl q00 q01 q09 q0b q08 q0a x1 (fun c0_ c1_ c2_ c3_ c4_ => some (c0_, c1_, c2_, c3_, c4_)))) (fin_out (o := (zab q00 q01 q09 q0b q08 q0a x1)) (x := z3p q00 q01 q09 q0b q08 q0a x1) (d := default) (V := fun r => ((AV.tup [(TV.one (At.int IntKind.i64 r.1)), (TV.one (At.int IntKind.i64 r.2.1)), (TV.one (At.flt FloatKind.f32 r.2.2.1)), (TV.one (At.flt FloatKind.f32 r.2.2.2.1)), (TV.one (At.flt FloatKind.f32 r.2.2.2.2))]), [])) (fun r => rfl) hp)
  · cases hp)
noncomputable def za0 (q0z : Nat) (t43 : Int) (t44 : Int) (b0 : List Nat) (b1 : List Nat) (b2 : List Nat) (q0m : Nat) (q0r : Nat) (q0s : Nat) : Bool × LO := ((z4n q0z t43 b0 q0m t44), (LO.two (z4g q0z t43 b0 q0m t44) (LO.one Ex.ret (St.mk [(2, (AV.v (TV.one (At.bool Bool.false))))] [(Blk.mk Bool.false (Body.fl FloatKind.f32 b0)), (Blk.mk Bool.false (Body.fl FloatKind.f32 b1)), (Blk.mk Bool.false (Body.fl FloatKind.f32 b2))])) (LO.one (Ex.exit 0) (St.mk [(1, (AV.v (TV.one (At.ptr 3 0 3)))), (42, (AV.v (TV.one (At.vw 0 0 q0z 1)))), (43, (AV.v (TV.one (At.int IntKind.i64 t43)))), (44, (AV.v (TV.one (At.int IntKind.i64 (z73 q0z t43 b0 q0m t44))))), (45, (AV.v (TV.one (At.bool (z6z q0z t43 b0 q0m t44)))))] [(Blk.mk Bool.false (Body.fl FloatKind.f32 b0)), (Blk.mk Bool.false (Body.fl FloatKind.f32 b1)), (Blk.mk Bool.false (Body.fl FloatKind.f32 b2)), (Blk.mk Bool.true (Body.cells [(At.vw 0 0 q0m 1), (At.vw 1 0 q0r 1), (At.vw 2 0 q0s 1)]))]))))
noncomputable def z1d : Nat → St → Option (Bool × LO) := lpT 3 (pSt [(pTm 1 (pV (pOne (pPtr 3 (liN 0) 3)))), (pTm 42 (pV (pOne (pVw 0 (liN 0) 1)))), (pTm 43 (pV (pOne (pInt IntKind.i64)))), (pTm 44 (pV (pOne (pInt IntKind.i64))))] [(pBlk Bool.false (pFl FloatKind.f32)), (pBlk Bool.false (pFl FloatKind.f32)), (pBlk Bool.false (pFl FloatKind.f32)), (pBlk Bool.true (pCells [(pVw 0 (liN 0) 1), (pVw 1 (liN 0) 1), (pVw 2 (liN 0) 1)]))]) (fun hs => za0 (hvN (hGet hs 0)) (hvI (hGet hs 1)) (hvI (hGet hs 2)) (hvLn (hGet hs 3)) (hvLn (hGet hs 4)) (hvLn (hGet hs 5)) (hvN (hGet hs 6)) (hvN (hGet hs 7)) (hvN (hGet hs 8)))
def z56 (q0z : Nat) (t43 : Int) (b0 : List Nat) (b1 : List Nat) (b2 : List Nat) (q0m : Nat) (q0r : Nat) (q0s : Nat) : Option ((Unit) ⊕ (Int × Bool)) → Option (Ex × St)
  | none => none
  | some (Sum.inl r) => some (Ex.ret, (St.mk [(2, (AV.v (TV.one (At.bool Bool.false))))] [(Blk.mk Bool.false (Body.fl FloatKind.f32 b0)), (Blk.mk Bool.false (Body.fl FloatKind.f32 b1)), (Blk.mk Bool.false (Body.fl FloatKind.f32 b2))]))
  | some (Sum.inr r) => some ((Ex.exit 0), (St.mk [(1, (AV.v (TV.one (At.ptr 3 0 3)))), (42, (AV.v (TV.one (At.vw 0 0 q0z 1)))), (43, (AV.v (TV.one (At.int IntKind.i64 t43)))), (44, (AV.v (TV.one (At.int IntKind.i64 r.1)))), (45, (AV.v (TV.one (At.bool r.2))))] [(Blk.mk Bool.false (Body.fl FloatKind.f32 b0)), (Blk.mk Bool.false (Body.fl FloatKind.f32 b1)), (Blk.mk Bool.false (Body.fl FloatKind.f32 b2)), (Blk.mk Bool.true (Body.cells [(At.vw 0 0 q0m 1), (At.vw 1 0 q0r 1), (At.vw 2 0 q0s 1)]))]))
def zbi (q0z : Nat) (t43 : Int) (b0 : List Nat) (b1 : List Nat) (b2 : List Nat) (q0m : Nat) (q0r : Nat) (q0s : Nat) (x : Option ((Unit) ⊕ (Int × Bool))) : LO := (LO.two (oL x) (LO.one Ex.ret (St.mk [(2, (AV.v (TV.one (At.bool Bool.false))))] [(Blk.mk Bool.false (Body.fl FloatKind.f32 b0)), (Blk.mk Bool.false (Body.fl FloatKind.f32 b1)), (Blk.mk Bool.false (Body.fl FloatKind.f32 b2))])) (LO.one (Ex.exit 0) (St.mk [(1, (AV.v (TV.one (At.ptr 3 0 3)))), (42, (AV.v (TV.one (At.vw 0 0 q0z 1)))), (43, (AV.v (TV.one (At.int IntKind.i64 t43)))), (44, (AV.v (TV.one (At.int IntKind.i64 ((tR x).getD default).1)))), (45, (AV.v (TV.one (At.bool ((tR x).getD default).2))))] [(Blk.mk Bool.false (Body.fl FloatKind.f32 b0)), (Blk.mk Bool.false (Body.fl FloatKind.f32 b1)), (Blk.mk Bool.false (Body.fl FloatKind.f32 b2)), (Blk.mk Bool.true (Body.cells [(At.vw 0 0 q0m 1), (At.vw 1 0 q0r 1), (At.vw 2 0 q0s 1)]))])))
theorem zbt (q0z : Nat) (t43 : Int) (b0 : List Nat) (b1 : List Nat) (b2 : List Nat) (q0m : Nat) (q0r : Nat) (q0s : Nat) : ∀ x : Option ((Unit) ⊕ (Int × Bool)), x.isSome = true → (z56 q0z t43 b0 b1 b2 q0m q0r q0s) x = some (pick (zbi q0z t43 b0 b1 b2 q0m q0r q0s x))
  | none, h => by cases h
  | some (Sum.inl r), _ => rfl
  | some (Sum.inr r), _ => rfl
theorem zbs (q0z : Nat) (t43 : Int) (t44 : Int) (b0 : List Nat) (b1 : List Nat) (b2 : List Nat) (q0m : Nat) (q0r : Nat) (q0s : Nat) (K : Ex → St → Option (Ex × St)) : evC (R := Ex × St) Γ9 (evFn Γ9 8 8) 53 3 fi53.nt fi53.live fi53.nl 8 (findL 5 (loopsIn fi53.code)) (St.mk [(1, (AV.v (TV.one (At.ptr 3 0 3)))), (42, (AV.v (TV.one (At.vw 0 0 q0z 1)))), (43, (AV.v (TV.one (At.int IntKind.i64 t43)))), (44, (AV.v (TV.one (At.int IntKind.i64 t44))))] [(Blk.mk Bool.false (Body.fl FloatKind.f32 b0)), (Blk.mk Bool.false (Body.fl FloatKind.f32 b1)), (Blk.mk Bool.false (Body.fl FloatKind.f32 b2)), (Blk.mk Bool.true (Body.cells [(At.vw 0 0 q0m 1), (At.vw 1 0 q0r 1), (At.vw 2 0 q0s 1)]))]) K = z3y q0z t43 b0 q0m t44 (fun t44' => K .normal (St.mk [(1, (AV.v (TV.one (At.ptr 3 0 3)))), (42, (AV.v (TV.one (At.vw 0 0 q0z 1)))), (43, (AV.v (TV.one (At.int IntKind.i64 t43)))), (44, (AV.v (TV.one (At.int IntKind.i64 t44'))))] [(Blk.mk Bool.false (Body.fl FloatKind.f32 b0)), (Blk.mk Bool.false (Body.fl FloatKind.f32 b1)), (Blk.mk Bool.false (Body.fl FloatKind.f32 b2)), (Blk.mk Bool.true (Body.cells [(At.vw 0 0 q0m 1), (At.vw 1 0 q0r 1), (At.vw 2 0 q0s 1)]))])) (fun _ => K Ex.ret (St.mk [(2, (AV.v (TV.one (At.bool Bool.false))))] [(Blk.mk Bool.false (Body.fl FloatKind.f32 b0)), (Blk.mk Bool.false (Body.fl FloatKind.f32 b1)), (Blk.mk Bool.false (Body.fl FloatKind.f32 b2))])) (fun c0_ c1_ => K (Ex.exit 0) (St.mk [(1, (AV.v (TV.one (At.ptr 3 0 3)))), (42, (AV.v (TV.one (At.vw 0 0 q0z 1)))), (43, (AV.v (TV.one (At.int IntKind.i64 t43)))), (44, (AV.v (TV.one (At.int IntKind.i64 c0_)))), (45, (AV.v (TV.one (At.bool c1_))))] [(Blk.mk Bool.false (Body.fl FloatKind.f32 b0)), (Blk.mk Bool.false (Body.fl FloatKind.f32 b1)), (Blk.mk Bool.false (Body.fl FloatKind.f32 b2)), (Blk.mk Bool.true (Body.cells [(At.vw 0 0 q0m 1), (At.vw 1 0 q0r 1), (At.vw 2 0 q0s 1)]))])) := by kernel_rfl
theorem zbo (q0z : Nat) (t43 : Int) (b0 : List Nat) (b1 : List Nat) (b2 : List Nat) (q0m : Nat) (q0r : Nat) (q0s : Nat) : ∀ (n : Nat) (t44 : Int), iter 53 5 3 (evC (R := Ex × St) Γ9 (evFn Γ9 8 8) 53 3 fi53.nt fi53.live fi53.nl 8 (findL 5 (loopsIn fi53.code))) n (St.mk [(1, (AV.v (TV.one (At.ptr 3 0 3)))), (42, (AV.v (TV.one (At.vw 0 0 q0z 1)))), (43, (AV.v (TV.one (At.int IntKind.i64 t43)))), (44, (AV.v (TV.one (At.int IntKind.i64 t44))))] [(Blk.mk Bool.false (Body.fl FloatKind.f32 b0)), (Blk.mk Bool.false (Body.fl FloatKind.f32 b1)), (Blk.mk Bool.false (Body.fl FloatKind.f32 b2)), (Blk.mk Bool.true (Body.cells [(At.vw 0 0 q0m 1), (At.vw 1 0 q0r 1), (At.vw 2 0 q0s 1)]))]) (fun e st => some (e, st)) = (z56 q0z t43 b0 b1 b2 q0m q0r q0s) (z37 q0z t43 b0 q0m n t44) := by
  intro n
  induction n with
  | zero => intros; rfl
  | succ n ih =>
    intro t44
    refine Eq.trans (iter_succ ..) (Eq.trans (zbs q0z t43 t44 b0 b1 b2 q0m q0r q0s (nextK 53 5 3 (evC (R := Ex × St) Γ9 (evFn Γ9 8 8) 53 3 fi53.nt fi53.live fi53.nl 8 (findL 5 (loopsIn fi53.code))) n (fun e st => some (e, st)))) (Eq.trans ?_ (zau (z56 q0z t43 b0 b1 b2 q0m q0r q0s) rfl q0z t43 b0 q0m t44 (fun t44' => z37 q0z t43 b0 q0m n t44') (fun _ => some (Sum.inl ())) (fun c0_ c1_ => some (Sum.inr (c0_, c1_))))))
    exact congrArg (fun kn_ => z3y q0z t43 b0 q0m t44 kn_ (fun _ => (z56 q0z t43 b0 b1 b2 q0m q0r q0s) (some (Sum.inl ()))) (fun c0_ c1_ => (z56 q0z t43 b0 b1 b2 q0m q0r q0s) (some (Sum.inr (c0_, c1_))))) (funext fun t44' => ih t44')
theorem z0z : LoopOne Try.prog fnTab 53 5 z1d := lp_of (Γ := Γ9) tyTab_ok (FnL.ok fnTab_ok _ _) (LpL.ok lt9_ok) (SumL.ok tb9_ok _) mixed (fi := fi53) (by kernel_rfl) (by kernel_rfl) (by
  intro lo st out hp
  obtain ⟨hs, e1, e2, e3⟩ := lpT_inv hp
  clear hp
  obtain rfl : st = (St.mk [(1, (AV.v (TV.one (At.ptr 3 0 3)))), (42, (AV.v (TV.one (At.vw 0 0 (hvN (hGet hs 0)) 1)))), (43, (AV.v (TV.one (At.int IntKind.i64 (hvI (hGet hs 1)))))), (44, (AV.v (TV.one (At.int IntKind.i64 (hvI (hGet hs 2))))))] [(Blk.mk Bool.false (Body.fl FloatKind.f32 (hvLn (hGet hs 3)))), (Blk.mk Bool.false (Body.fl FloatKind.f32 (hvLn (hGet hs 4)))), (Blk.mk Bool.false (Body.fl FloatKind.f32 (hvLn (hGet hs 5)))), (Blk.mk Bool.true (Body.cells [(At.vw 0 0 (hvN (hGet hs 6)) 1), (At.vw 1 0 (hvN (hGet hs 7)) 1), (At.vw 2 0 (hvN (hGet hs 8)) 1)]))]) := e2.trans (by kernel_rfl)
  clear e2
  subst e1
  unfold za0 at e3
  injection e3 with h1 h2
  subst h2
  exact ⟨8, 8, big, Eq.trans (zbo (hvN (hGet hs 0)) (hvI (hGet hs 1)) (hvLn (hGet hs 3)) (hvLn (hGet hs 4)) (hvLn (hGet hs 5)) (hvN (hGet hs 6)) (hvN (hGet hs 7)) (hvN (hGet hs 8)) big (hvI (hGet hs 2))) (zbt (hvN (hGet hs 0)) (hvI (hGet hs 1)) (hvLn (hGet hs 3)) (hvLn (hGet hs 4)) (hvLn (hGet hs 5)) (hvN (hGet hs 6)) (hvN (hGet hs 7)) (hvN (hGet hs 8)) (z37 (hvN (hGet hs 0)) (hvI (hGet hs 1)) (hvLn (hGet hs 3)) (hvN (hGet hs 6)) big (hvI (hGet hs 2))) h1)⟩)
noncomputable def tb10 : List (Nat × (List PT → Option (Bool × AV × List Blk))) := [(125, z1c), (128, z0h), (134, z0r), (137, z1b), (18, z1i), (48, z16), (54, z1v), (61, z1k), (97, z1u), (102, z2n), (109, z1j), (14, z1p), (51, z1q), (56, z27), (103, z1y), (111, z28), (118, z10), (52, z1g), (119, z1f), (16, z1x), (57, z1l), (19, z21), (62, z2u), (99, z0a), (49, z2q), (99, z0f), (116, z2x), (94, z2p), (98, z29), (117, z07), (117, z0c), (95, z2d), (96, z2k), (50, z2v), (55, z17)]
noncomputable def lt10 : List ((Nat × Nat) × (Nat → St → Option (Bool × LO))) := [((52, 3), z0o), ((57, 4), z0s), ((62, 5), z2a), ((99, 2), z03), ((99, 2), z05), ((50, 4), z2g), ((99, 2), z0d), ((53, 5), z1d)]
noncomputable def Γ10 : Ctx := ⟨tyTab, fnTab, tblSum tb10, tblLp lt10⟩
theorem tb10_ok : SumL Try.prog tb10 := SumL.cons z0q (SumL.cons z0g (SumL.cons z0k (SumL.cons z0p (SumL.cons z0v (SumL.cons z0n (SumL.cons z14 (SumL.cons z0u (SumL.cons z15 (SumL.cons z22 (SumL.cons z0t (SumL.cons z12 (SumL.cons z11 (SumL.cons z1m (SumL.cons z19 (SumL.cons z1n (SumL.cons z0m (SumL.cons z0x (SumL.cons z0w (SumL.cons z1a (SumL.cons z13 (SumL.cons z1h (SumL.cons z2i (SumL.cons z08 (SumL.cons z2c (SumL.cons z0e (SumL.cons z2l (SumL.cons z2b (SumL.cons z1t (SumL.cons z06 (SumL.cons z0b (SumL.cons z20 (SumL.cons z24 (SumL.cons z2m (SumL.cons z0y (SumL.nil)))))))))))))))))))))))))))))))))))
theorem lt10_ok : LpL Try.prog fnTab lt10 := LpL.cons z0i (LpL.cons z0j (LpL.cons z1o (LpL.cons z02 (LpL.cons z04 (LpL.cons z1w (LpL.cons z09 (LpL.cons z0z (LpL.nil))))))))
noncomputable def z23 : List PT → Option (Bool × AV × List Blk)
  | [.agg [.row 1 q00 (.fl .f32 q01), .row 1 q09 (.fl .f32 q0b), .row 1 q08 (.fl .f32 q0a)]] => some ((z7i q00 q01 q09 q0b q08 q0a), ((AV.v (TV.one (At.bool (z70 q00 q01 q09 q0b q08 q0a)))), []))
  | _ => none
def zar (q00 : Nat) (q01 : List Nat) (q09 : Nat) (q0b : List Nat) (q08 : Nat) (q0a : List Nat) : Option (Bool) → Option (AV × List Blk)
  | some r => some ((AV.v (TV.one (At.bool r))), [])
  | none => none
theorem zcy (q00 : Nat) (q01 : List Nat) (q09 : Nat) (q0b : List Nat) (q08 : Nat) (q0a : List Nat) : evFn Γ10 8 8 53 (impTs 0 [.agg [.row 1 q00 (.fl .f32 q01), .row 1 q09 (.fl .f32 q0b), .row 1 q08 (.fl .f32 q0a)]]).1 (impTs 0 [.agg [.row 1 q00 (.fl .f32 q01), .row 1 q09 (.fl .f32 q0b), .row 1 q08 (.fl .f32 q0a)]]).2 (expo (impTs 0 [.agg [.row 1 q00 (.fl .f32 q01), .row 1 q09 (.fl .f32 q0b), .row 1 q08 (.fl .f32 q0a)]]).2.length) = z54 q00 q01 q09 q0b q08 q0a (fun c0_ => some ((AV.v (TV.one (At.bool c0_))), [])) := by kernel_rfl
theorem z1s : SumOne Try.prog 53 z23 := sum_of (Γ := Γ10) (fuel := 8) (d := 8) tyTab_ok (FnL.ok fnTab_ok _ _) (LpL.ok lt10_ok) (SumL.ok tb10_ok _) mixed (by
  intro pts v news hp hc
  clear hc
  unfold z23 at hp
  split at hp
  · rename_i q00 q01 q09 q0b q08 q0a
    exact Eq.trans (Eq.trans (zcy q00 q01 q09 q0b q08 q0a) (zbh (zar q00 q01 q09 q0b q08 q0a) rfl q00 q01 q09 q0b q08 q0a (fun c0_ => some c0_))) (fin_out (o := (zar q00 q01 q09 q0b q08 q0a)) (x := z53 q00 q01 q09 q0b q08 q0a) (d := default) (V := fun r => ((AV.v (TV.one (At.bool r))), [])) (fun r => rfl) hp)
  · cases hp)
noncomputable def z2j : List PT → Option (Bool × AV × List Blk)
  | [.agg [.row 1 q03 (.fl .f32 q0c), .row 1 q04 (.fl .f32 q0d), .row 1 q07 (.fl .f32 q0e)], .one (.row 1 q0q (.fl .f32 q0t)), .one (.s (.flt .f32 q0h))] => some ((z8f q03 q0c q04 q0d q07 q0e q0q q0t q0h), ((AV.v (TV.one (At.flt FloatKind.f32 (z5i q03 q0c q04 q0d q07 q0e q0q q0t q0h)))), []))
  | _ => none
def zax (q03 : Nat) (q0c : List Nat) (q04 : Nat) (q0d : List Nat) (q07 : Nat) (q0e : List Nat) (q0q : Nat) (q0t : List Nat) (q0h : Nat) : Option (Nat) → Option (AV × List Blk)
  | some r => some ((AV.v (TV.one (At.flt FloatKind.f32 r))), [])
  | none => none
theorem zdi (q03 : Nat) (q0c : List Nat) (q04 : Nat) (q0d : List Nat) (q07 : Nat) (q0e : List Nat) (q0q : Nat) (q0t : List Nat) (q0h : Nat) : evFn Γ10 8 8 59 (impTs 0 [.agg [.row 1 q03 (.fl .f32 q0c), .row 1 q04 (.fl .f32 q0d), .row 1 q07 (.fl .f32 q0e)], .one (.row 1 q0q (.fl .f32 q0t)), .one (.s (.flt .f32 q0h))]).1 (impTs 0 [.agg [.row 1 q03 (.fl .f32 q0c), .row 1 q04 (.fl .f32 q0d), .row 1 q07 (.fl .f32 q0e)], .one (.row 1 q0q (.fl .f32 q0t)), .one (.s (.flt .f32 q0h))]).2 (expo (impTs 0 [.agg [.row 1 q03 (.fl .f32 q0c), .row 1 q04 (.fl .f32 q0d), .row 1 q07 (.fl .f32 q0e)], .one (.row 1 q0q (.fl .f32 q0t)), .one (.s (.flt .f32 q0h))]).2.length) = z61 q03 q0c q04 q0d q07 q0e q0q q0t q0h (fun c0_ => some ((AV.v (TV.one (At.flt FloatKind.f32 c0_))), [])) := by kernel_rfl
theorem z26 : SumOne Try.prog 59 z2j := sum_of (Γ := Γ10) (fuel := 8) (d := 8) tyTab_ok (FnL.ok fnTab_ok _ _) (LpL.ok lt10_ok) (SumL.ok tb10_ok _) mixed (by
  intro pts v news hp hc
  clear hc
  unfold z2j at hp
  split at hp
  · rename_i q03 q0c q04 q0d q07 q0e q0q q0t q0h
    exact Eq.trans (Eq.trans (zdi q03 q0c q04 q0d q07 q0e q0q q0t q0h) (zc5 (zax q03 q0c q04 q0d q07 q0e q0q q0t q0h) rfl q03 q0c q04 q0d q07 q0e q0q q0t q0h (fun c0_ => some c0_))) (fin_out (o := (zax q03 q0c q04 q0d q07 q0e q0q q0t q0h)) (x := z60 q03 q0c q04 q0d q07 q0e q0q q0t q0h) (d := default) (V := fun r => ((AV.v (TV.one (At.flt FloatKind.f32 r))), [])) (fun r => rfl) hp)
  · cases hp)
noncomputable def z34 : List PT → Option (Bool × AV × List Blk)
  | [.ptr [.row 1 q03 (.fl .f32 q0c), .row 1 q04 (.fl .f32 q0d), .row 1 q07 (.fl .f32 q0e)], .one (.row 1 q0q (.fl .f32 q0t)), .one (.s (.flt .f32 q0h))] => some ((zak q03 q0c q04 q0d q07 q0e q0q q0t q0h), ((AV.v (TV.one (At.flt FloatKind.f32 (zai q03 q0c q04 q0d q07 q0e q0q q0t q0h)))), []))
  | _ => none
def zd8 (q03 : Nat) (q0c : List Nat) (q04 : Nat) (q0d : List Nat) (q07 : Nat) (q0e : List Nat) (q0q : Nat) (q0t : List Nat) (q0h : Nat) : Option (Nat) → Option (AV × List Blk)
  | some r => some ((AV.v (TV.one (At.flt FloatKind.f32 r))), [])
  | none => none
theorem zf7 (q03 : Nat) (q0c : List Nat) (q04 : Nat) (q0d : List Nat) (q07 : Nat) (q0e : List Nat) (q0q : Nat) (q0t : List Nat) (q0h : Nat) : evFn Γ10 8 8 101 (impTs 0 [.ptr [.row 1 q03 (.fl .f32 q0c), .row 1 q04 (.fl .f32 q0d), .row 1 q07 (.fl .f32 q0e)], .one (.row 1 q0q (.fl .f32 q0t)), .one (.s (.flt .f32 q0h))]).1 (impTs 0 [.ptr [.row 1 q03 (.fl .f32 q0c), .row 1 q04 (.fl .f32 q0d), .row 1 q07 (.fl .f32 q0e)], .one (.row 1 q0q (.fl .f32 q0t)), .one (.s (.flt .f32 q0h))]).2 (expo (impTs 0 [.ptr [.row 1 q03 (.fl .f32 q0c), .row 1 q04 (.fl .f32 q0d), .row 1 q07 (.fl .f32 q0e)], .one (.row 1 q0q (.fl .f32 q0t)), .one (.s (.flt .f32 q0h))]).2.length) = z90 q03 q0c q04 q0d q07 q0e q0q q0t q0h (fun c0_ => some ((AV.v (TV.one (At.flt FloatKind.f32 c0_))), [])) := by kernel_rfl
theorem z2y : SumOne Try.prog 101 z34 := sum_of (Γ := Γ10) (fuel := 8) (d := 8) tyTab_ok (FnL.ok fnTab_ok _ _) (LpL.ok lt10_ok) (SumL.ok tb10_ok _) mixed (by
  intro pts v news hp hc
  clear hc
  unfold z34 at hp
  split at hp
  · rename_i q03 q0c q04 q0d q07 q0e q0q q0t q0h
    exact Eq.trans (Eq.trans (zf7 q03 q0c q04 q0d q07 q0e q0q q0t q0h) (ze8 (zd8 q03 q0c q04 q0d q07 q0e q0q q0t q0h) rfl q03 q0c q04 q0d q07 q0e q0q q0t q0h (fun c0_ => some c0_))) (fin_out (o := (zd8 q03 q0c q04 q0d q07 q0e q0q q0t q0h)) (x := z8y q03 q0c q04 q0d q07 q0e q0q q0t q0h) (d := default) (V := fun r => ((AV.v (TV.one (At.flt FloatKind.f32 r))), [])) (fun r => rfl) hp)
  · cases hp)
noncomputable def tb11 : List (Nat × (List PT → Option (Bool × AV × List Blk))) := [(125, z1c), (128, z0h), (134, z0r), (137, z1b), (18, z1i), (48, z16), (54, z1v), (61, z1k), (97, z1u), (102, z2n), (109, z1j), (14, z1p), (51, z1q), (56, z27), (103, z1y), (111, z28), (118, z10), (52, z1g), (119, z1f), (16, z1x), (57, z1l), (19, z21), (62, z2u), (99, z0a), (49, z2q), (99, z0f), (116, z2x), (94, z2p), (98, z29), (117, z07), (117, z0c), (95, z2d), (96, z2k), (50, z2v), (55, z17), (53, z23), (59, z2j), (101, z34)]
noncomputable def lt11 : List ((Nat × Nat) × (Nat → St → Option (Bool × LO))) := [((52, 3), z0o), ((57, 4), z0s), ((62, 5), z2a), ((99, 2), z03), ((99, 2), z05), ((50, 4), z2g), ((99, 2), z0d), ((53, 5), z1d)]
noncomputable def Γ11 : Ctx := ⟨tyTab, fnTab, tblSum tb11, tblLp lt11⟩
theorem tb11_ok : SumL Try.prog tb11 := SumL.cons z0q (SumL.cons z0g (SumL.cons z0k (SumL.cons z0p (SumL.cons z0v (SumL.cons z0n (SumL.cons z14 (SumL.cons z0u (SumL.cons z15 (SumL.cons z22 (SumL.cons z0t (SumL.cons z12 (SumL.cons z11 (SumL.cons z1m (SumL.cons z19 (SumL.cons z1n (SumL.cons z0m (SumL.cons z0x (SumL.cons z0w (SumL.cons z1a (SumL.cons z13 (SumL.cons z1h (SumL.cons z2i (SumL.cons z08 (SumL.cons z2c (SumL.cons z0e (SumL.cons z2l (SumL.cons z2b (SumL.cons z1t (SumL.cons z06 (SumL.cons z0b (SumL.cons z20 (SumL.cons z24 (SumL.cons z2m (SumL.cons z0y (SumL.cons z1s (SumL.cons z26 (SumL.cons z2y (SumL.nil))))))))))))))))))))))))))))))))))))))
theorem lt11_ok : LpL Try.prog fnTab lt11 := LpL.cons z0i (LpL.cons z0j (LpL.cons z1o (LpL.cons z02 (LpL.cons z04 (LpL.cons z1w (LpL.cons z09 (LpL.cons z0z (LpL.nil))))))))
noncomputable def z31 : List PT → Option (Bool × AV × List Blk)
  | [.agg [.row 1 q03 (.fl .f32 q0c), .row 1 q04 (.fl .f32 q0d), .row 1 q07 (.fl .f32 q0e)], .one (.s (.flt .f32 q0h))] => some ((zah q03 q0c q04 q0d q07 q0e q0h), ((AV.tup [(TV.one (At.flt FloatKind.f32 (z8s q03 q0c q04 q0d q07 q0e q0h))), (TV.one (At.bool (za7 q03 q0c q04 q0d q07 q0e q0h)))]), []))
  | _ => none
def zcq (q03 : Nat) (q0c : List Nat) (q04 : Nat) (q0d : List Nat) (q07 : Nat) (q0e : List Nat) (q0h : Nat) : Option (Nat × Bool) → Option (AV × List Blk)
  | some r => some ((AV.tup [(TV.one (At.flt FloatKind.f32 r.1)), (TV.one (At.bool r.2))]), [])
  | none => none
theorem zf0 (q03 : Nat) (q0c : List Nat) (q04 : Nat) (q0d : List Nat) (q07 : Nat) (q0e : List Nat) (q0h : Nat) : evFn Γ11 8 8 23 (impTs 0 [.agg [.row 1 q03 (.fl .f32 q0c), .row 1 q04 (.fl .f32 q0d), .row 1 q07 (.fl .f32 q0e)], .one (.s (.flt .f32 q0h))]).1 (impTs 0 [.agg [.row 1 q03 (.fl .f32 q0c), .row 1 q04 (.fl .f32 q0d), .row 1 q07 (.fl .f32 q0e)], .one (.s (.flt .f32 q0h))]).2 (expo (impTs 0 [.agg [.row 1 q03 (.fl .f32 q0c), .row 1 q04 (.fl .f32 q0d), .row 1 q07 (.fl .f32 q0e)], .one (.s (.flt .f32 q0h))]).2.length) = z7t q03 q0c q04 q0d q07 q0e q0h (fun c0_ c1_ => some ((AV.tup [(TV.one (At.flt FloatKind.f32 c0_)), (TV.one (At.bool c1_))]), [])) := by kernel_rfl
theorem z2w : SumOne Try.prog 23 z31 := sum_of (Γ := Γ11) (fuel := 8) (d := 8) tyTab_ok (FnL.ok fnTab_ok _ _) (LpL.ok lt11_ok) (SumL.ok tb11_ok _) mixed (by
  intro pts v news hp hc
  clear hc
  unfold z31 at hp
  split at hp
  · rename_i q03 q0c q04 q0d q07 q0e q0h
    exact Eq.trans (Eq.trans (zf0 q03 q0c q04 q0d q07 q0e q0h) (zdw (zcq q03 q0c q04 q0d q07 q0e q0h) rfl q03 q0c q04 q0d q07 q0e q0h (fun c0_ c1_ => some (c0_, c1_)))) (fin_out (o := (zcq q03 q0c q04 q0d q07 q0e q0h)) (x := z63 q03 q0c q04 q0d q07 q0e q0h) (d := default) (V := fun r => ((AV.tup [(TV.one (At.flt FloatKind.f32 r.1)), (TV.one (At.bool r.2))]), [])) (fun r => rfl) hp)
  · cases hp)
noncomputable def z30 : List PT → Option (Bool × AV × List Blk)
  | [.ptr [.row 1 q03 (.fl .f32 q0c), .row 1 q04 (.fl .f32 q0d), .row 1 q07 (.fl .f32 q0e)], .one (.s (.flt .f32 q0h))] => some ((za4 q03 q0c q04 q0d q07 q0e q0h), ((AV.v (TV.one (At.flt FloatKind.f32 (z6q q03 q0c q04 q0d q07 q0e q0h)))), []))
  | _ => none
def zc1 (q03 : Nat) (q0c : List Nat) (q04 : Nat) (q0d : List Nat) (q07 : Nat) (q0e : List Nat) (q0h : Nat) : Option (Nat) → Option (AV × List Blk)
  | some r => some ((AV.v (TV.one (At.flt FloatKind.f32 r))), [])
  | none => none
theorem zes (q03 : Nat) (q0c : List Nat) (q04 : Nat) (q0d : List Nat) (q07 : Nat) (q0e : List Nat) (q0h : Nat) : evFn Γ11 8 8 60 (impTs 0 [.ptr [.row 1 q03 (.fl .f32 q0c), .row 1 q04 (.fl .f32 q0d), .row 1 q07 (.fl .f32 q0e)], .one (.s (.flt .f32 q0h))]).1 (impTs 0 [.ptr [.row 1 q03 (.fl .f32 q0c), .row 1 q04 (.fl .f32 q0d), .row 1 q07 (.fl .f32 q0e)], .one (.s (.flt .f32 q0h))]).2 (expo (impTs 0 [.ptr [.row 1 q03 (.fl .f32 q0c), .row 1 q04 (.fl .f32 q0d), .row 1 q07 (.fl .f32 q0e)], .one (.s (.flt .f32 q0h))]).2.length) = z78 q03 q0c q04 q0d q07 q0e q0h (fun c0_ => some ((AV.v (TV.one (At.flt FloatKind.f32 c0_))), [])) := by kernel_rfl
theorem z2r : SumOne Try.prog 60 z30 := sum_of (Γ := Γ11) (fuel := 8) (d := 8) tyTab_ok (FnL.ok fnTab_ok _ _) (LpL.ok lt11_ok) (SumL.ok tb11_ok _) mixed (by
  intro pts v news hp hc
  clear hc
  unfold z30 at hp
  split at hp
  · rename_i q03 q0c q04 q0d q07 q0e q0h
    exact Eq.trans (Eq.trans (zes q03 q0c q04 q0d q07 q0e q0h) (zd6 (zc1 q03 q0c q04 q0d q07 q0e q0h) rfl q03 q0c q04 q0d q07 q0e q0h (fun c0_ => some c0_))) (fin_out (o := (zc1 q03 q0c q04 q0d q07 q0e q0h)) (x := z79 q03 q0c q04 q0d q07 q0e q0h) (d := default) (V := fun r => ((AV.v (TV.one (At.flt FloatKind.f32 r))), [])) (fun r => rfl) hp)
  · cases hp)
noncomputable def tb12 : List (Nat × (List PT → Option (Bool × AV × List Blk))) := [(125, z1c), (128, z0h), (134, z0r), (137, z1b), (18, z1i), (48, z16), (54, z1v), (61, z1k), (97, z1u), (102, z2n), (109, z1j), (14, z1p), (51, z1q), (56, z27), (103, z1y), (111, z28), (118, z10), (52, z1g), (119, z1f), (16, z1x), (57, z1l), (19, z21), (62, z2u), (99, z0a), (49, z2q), (99, z0f), (116, z2x), (94, z2p), (98, z29), (117, z07), (117, z0c), (95, z2d), (96, z2k), (50, z2v), (55, z17), (53, z23), (59, z2j), (101, z34), (23, z31), (60, z30)]
noncomputable def lt12 : List ((Nat × Nat) × (Nat → St → Option (Bool × LO))) := [((52, 3), z0o), ((57, 4), z0s), ((62, 5), z2a), ((99, 2), z03), ((99, 2), z05), ((50, 4), z2g), ((99, 2), z0d), ((53, 5), z1d)]
noncomputable def Γ12 : Ctx := ⟨tyTab, fnTab, tblSum tb12, tblLp lt12⟩
theorem tb12_ok : SumL Try.prog tb12 := SumL.cons z0q (SumL.cons z0g (SumL.cons z0k (SumL.cons z0p (SumL.cons z0v (SumL.cons z0n (SumL.cons z14 (SumL.cons z0u (SumL.cons z15 (SumL.cons z22 (SumL.cons z0t (SumL.cons z12 (SumL.cons z11 (SumL.cons z1m (SumL.cons z19 (SumL.cons z1n (SumL.cons z0m (SumL.cons z0x (SumL.cons z0w (SumL.cons z1a (SumL.cons z13 (SumL.cons z1h (SumL.cons z2i (SumL.cons z08 (SumL.cons z2c (SumL.cons z0e (SumL.cons z2l (SumL.cons z2b (SumL.cons z1t (SumL.cons z06 (SumL.cons z0b (SumL.cons z20 (SumL.cons z24 (SumL.cons z2m (SumL.cons z0y (SumL.cons z1s (SumL.cons z26 (SumL.cons z2y (SumL.cons z2w (SumL.cons z2r (SumL.nil))))))))))))))))))))))))))))))))))))))))
theorem lt12_ok : LpL Try.prog fnTab lt12 := LpL.cons z0i (LpL.cons z0j (LpL.cons z1o (LpL.cons z02 (LpL.cons z04 (LpL.cons z1w (LpL.cons z09 (LpL.cons z0z (LpL.nil))))))))
noncomputable def z33 : List PT → Option (Bool × AV × List Blk)
  | [.agg [.row 1 q03 (.fl .f32 q0c), .row 1 q04 (.fl .f32 q0d), .row 1 q07 (.fl .f32 q0e)], .one (.s (.flt .f32 q0h))] => some ((zaf q03 q0c q04 q0d q07 q0e q0h), ((AV.tup [(TV.one (At.flt FloatKind.f32 (z8p q03 q0c q04 q0d q07 q0e q0h))), (TV.one (At.bool (za6 q03 q0c q04 q0d q07 q0e q0h)))]), []))
  | _ => none
def zcp (q03 : Nat) (q0c : List Nat) (q04 : Nat) (q0d : List Nat) (q07 : Nat) (q0e : List Nat) (q0h : Nat) : Option (Nat × Bool) → Option (AV × List Blk)
  | some r => some ((AV.tup [(TV.one (At.flt FloatKind.f32 r.1)), (TV.one (At.bool r.2))]), [])
  | none => none
theorem zey (q03 : Nat) (q0c : List Nat) (q04 : Nat) (q0d : List Nat) (q07 : Nat) (q0e : List Nat) (q0h : Nat) : evFn Γ12 8 8 22 (impTs 0 [.agg [.row 1 q03 (.fl .f32 q0c), .row 1 q04 (.fl .f32 q0d), .row 1 q07 (.fl .f32 q0e)], .one (.s (.flt .f32 q0h))]).1 (impTs 0 [.agg [.row 1 q03 (.fl .f32 q0c), .row 1 q04 (.fl .f32 q0d), .row 1 q07 (.fl .f32 q0e)], .one (.s (.flt .f32 q0h))]).2 (expo (impTs 0 [.agg [.row 1 q03 (.fl .f32 q0c), .row 1 q04 (.fl .f32 q0d), .row 1 q07 (.fl .f32 q0e)], .one (.s (.flt .f32 q0h))]).2.length) = z7v q03 q0c q04 q0d q07 q0e q0h (fun c0_ c1_ => some ((AV.tup [(TV.one (At.flt FloatKind.f32 c0_)), (TV.one (At.bool c1_))]), [])) := by kernel_rfl
theorem z2z : SumOne Try.prog 22 z33 := sum_of (Γ := Γ12) (fuel := 8) (d := 8) tyTab_ok (FnL.ok fnTab_ok _ _) (LpL.ok lt12_ok) (SumL.ok tb12_ok _) mixed (by
  intro pts v news hp hc
  clear hc
  unfold z33 at hp
  split at hp
  · rename_i q03 q0c q04 q0d q07 q0e q0h
    exact Eq.trans (Eq.trans (zey q03 q0c q04 q0d q07 q0e q0h) (zdg (zcp q03 q0c q04 q0d q07 q0e q0h) rfl q03 q0c q04 q0d q07 q0e q0h (fun c0_ c1_ => some (c0_, c1_)))) (fin_out (o := (zcp q03 q0c q04 q0d q07 q0e q0h)) (x := z6u q03 q0c q04 q0d q07 q0e q0h) (d := default) (V := fun r => ((AV.tup [(TV.one (At.flt FloatKind.f32 r.1)), (TV.one (At.bool r.2))]), [])) (fun r => rfl) hp)
  · cases hp)
noncomputable def tb13 : List (Nat × (List PT → Option (Bool × AV × List Blk))) := [(125, z1c), (128, z0h), (134, z0r), (137, z1b), (18, z1i), (48, z16), (54, z1v), (61, z1k), (97, z1u), (102, z2n), (109, z1j), (14, z1p), (51, z1q), (56, z27), (103, z1y), (111, z28), (118, z10), (52, z1g), (119, z1f), (16, z1x), (57, z1l), (19, z21), (62, z2u), (99, z0a), (49, z2q), (99, z0f), (116, z2x), (94, z2p), (98, z29), (117, z07), (117, z0c), (95, z2d), (96, z2k), (50, z2v), (55, z17), (53, z23), (59, z2j), (101, z34), (23, z31), (60, z30), (22, z33)]
noncomputable def lt13 : List ((Nat × Nat) × (Nat → St → Option (Bool × LO))) := [((52, 3), z0o), ((57, 4), z0s), ((62, 5), z2a), ((99, 2), z03), ((99, 2), z05), ((50, 4), z2g), ((99, 2), z0d), ((53, 5), z1d)]
noncomputable def Γ13 : Ctx := ⟨tyTab, fnTab, tblSum tb13, tblLp lt13⟩
theorem tb13_ok : SumL Try.prog tb13 := SumL.cons z0q (SumL.cons z0g (SumL.cons z0k (SumL.cons z0p (SumL.cons z0v (SumL.cons z0n (SumL.cons z14 (SumL.cons z0u (SumL.cons z15 (SumL.cons z22 (SumL.cons z0t (SumL.cons z12 (SumL.cons z11 (SumL.cons z1m (SumL.cons z19 (SumL.cons z1n (SumL.cons z0m (SumL.cons z0x (SumL.cons z0w (SumL.cons z1a (SumL.cons z13 (SumL.cons z1h (SumL.cons z2i (SumL.cons z08 (SumL.cons z2c (SumL.cons z0e (SumL.cons z2l (SumL.cons z2b (SumL.cons z1t (SumL.cons z06 (SumL.cons z0b (SumL.cons z20 (SumL.cons z24 (SumL.cons z2m (SumL.cons z0y (SumL.cons z1s (SumL.cons z26 (SumL.cons z2y (SumL.cons z2w (SumL.cons z2r (SumL.cons z2z (SumL.nil)))))))))))))))))))))))))))))))))))))))))
theorem lt13_ok : LpL Try.prog fnTab lt13 := LpL.cons z0i (LpL.cons z0j (LpL.cons z1o (LpL.cons z02 (LpL.cons z04 (LpL.cons z1w (LpL.cons z09 (LpL.cons z0z (LpL.nil))))))))
noncomputable def z25 : List PT → Option (Bool × AV × List Blk)
  | [.agg [.row 1 q02 (.fl .f32 q0g), .row 1 q05 (.fl .f32 q0k), .row 1 q06 (.fl .f32 q0j)], .one (.s (.flt .f32 q10))] => some ((z9d q02 q0g q05 q0k q06 q0j q10), ((AV.v (TV.one (At.bool (z8n q02 q0g q05 q0k q06 q0j q10)))), []))
  | _ => none
def zao (q02 : Nat) (q0g : List Nat) (q05 : Nat) (q0k : List Nat) (q06 : Nat) (q0j : List Nat) (q10 : Nat) : Option (Bool) → Option (AV × List Blk)
  | some r => some ((AV.v (TV.one (At.bool r))), [])
  | none => none
theorem zcg (q02 : Nat) (q0g : List Nat) (q05 : Nat) (q0k : List Nat) (q06 : Nat) (q0j : List Nat) (q10 : Nat) : evFn Γ13 8 8 5 (impTs 0 [.agg [.row 1 q02 (.fl .f32 q0g), .row 1 q05 (.fl .f32 q0k), .row 1 q06 (.fl .f32 q0j)], .one (.s (.flt .f32 q10))]).1 (impTs 0 [.agg [.row 1 q02 (.fl .f32 q0g), .row 1 q05 (.fl .f32 q0k), .row 1 q06 (.fl .f32 q0j)], .one (.s (.flt .f32 q10))]).2 (expo (impTs 0 [.agg [.row 1 q02 (.fl .f32 q0g), .row 1 q05 (.fl .f32 q0k), .row 1 q06 (.fl .f32 q0j)], .one (.s (.flt .f32 q10))]).2.length) = z4w q02 q0g q05 q0k q06 q0j q10 (fun c0_ => some ((AV.v (TV.one (At.bool c0_))), [])) := by kernel_rfl
theorem z1z : SumOne Try.prog 5 z25 := sum_of (Γ := Γ13) (fuel := 8) (d := 8) tyTab_ok (FnL.ok fnTab_ok _ _) (LpL.ok lt13_ok) (SumL.ok tb13_ok _) mixed (by
  intro pts v news hp hc
  clear hc
  unfold z25 at hp
  split at hp
  · rename_i q02 q0g q05 q0k q06 q0j q10
    exact Eq.trans (Eq.trans (zcg q02 q0g q05 q0k q06 q0j q10) (zb9 (zao q02 q0g q05 q0k q06 q0j q10) rfl q02 q0g q05 q0k q06 q0j q10 (fun c0_ => some c0_))) (fin_out (o := (zao q02 q0g q05 q0k q06 q0j q10)) (x := z4x q02 q0g q05 q0k q06 q0j q10) (d := default) (V := fun r => ((AV.v (TV.one (At.bool r))), [])) (fun r => rfl) hp)
  · cases hp)
noncomputable def tb14 : List (Nat × (List PT → Option (Bool × AV × List Blk))) := [(125, z1c), (128, z0h), (134, z0r), (137, z1b), (18, z1i), (48, z16), (54, z1v), (61, z1k), (97, z1u), (102, z2n), (109, z1j), (14, z1p), (51, z1q), (56, z27), (103, z1y), (111, z28), (118, z10), (52, z1g), (119, z1f), (16, z1x), (57, z1l), (19, z21), (62, z2u), (99, z0a), (49, z2q), (99, z0f), (116, z2x), (94, z2p), (98, z29), (117, z07), (117, z0c), (95, z2d), (96, z2k), (50, z2v), (55, z17), (53, z23), (59, z2j), (101, z34), (23, z31), (60, z30), (22, z33), (5, z25)]
noncomputable def lt14 : List ((Nat × Nat) × (Nat → St → Option (Bool × LO))) := [((52, 3), z0o), ((57, 4), z0s), ((62, 5), z2a), ((99, 2), z03), ((99, 2), z05), ((50, 4), z2g), ((99, 2), z0d), ((53, 5), z1d)]
noncomputable def Γ14 : Ctx := ⟨tyTab, fnTab, tblSum tb14, tblLp lt14⟩
theorem tb14_ok : SumL Try.prog tb14 := SumL.cons z0q (SumL.cons z0g (SumL.cons z0k (SumL.cons z0p (SumL.cons z0v (SumL.cons z0n (SumL.cons z14 (SumL.cons z0u (SumL.cons z15 (SumL.cons z22 (SumL.cons z0t (SumL.cons z12 (SumL.cons z11 (SumL.cons z1m (SumL.cons z19 (SumL.cons z1n (SumL.cons z0m (SumL.cons z0x (SumL.cons z0w (SumL.cons z1a (SumL.cons z13 (SumL.cons z1h (SumL.cons z2i (SumL.cons z08 (SumL.cons z2c (SumL.cons z0e (SumL.cons z2l (SumL.cons z2b (SumL.cons z1t (SumL.cons z06 (SumL.cons z0b (SumL.cons z20 (SumL.cons z24 (SumL.cons z2m (SumL.cons z0y (SumL.cons z1s (SumL.cons z26 (SumL.cons z2y (SumL.cons z2w (SumL.cons z2r (SumL.cons z2z (SumL.cons z1z (SumL.nil))))))))))))))))))))))))))))))))))))))))))
theorem lt14_ok : LpL Try.prog fnTab lt14 := LpL.cons z0i (LpL.cons z0j (LpL.cons z1o (LpL.cons z02 (LpL.cons z04 (LpL.cons z1w (LpL.cons z09 (LpL.cons z0z (LpL.nil))))))))
noncomputable def tb15 : List (Nat × (List PT → Option (Bool × AV × List Blk))) := [(125, z1c), (128, z0h), (134, z0r), (137, z1b), (18, z1i), (48, z16), (54, z1v), (61, z1k), (97, z1u), (102, z2n), (109, z1j), (14, z1p), (51, z1q), (56, z27), (103, z1y), (111, z28), (118, z10), (52, z1g), (119, z1f), (16, z1x), (57, z1l), (19, z21), (62, z2u), (99, z0a), (49, z2q), (99, z0f), (116, z2x), (94, z2p), (98, z29), (117, z07), (117, z0c), (95, z2d), (96, z2k), (50, z2v), (55, z17), (53, z23), (59, z2j), (101, z34), (23, z31), (60, z30), (22, z33), (5, z25)]
noncomputable def lt15 : List ((Nat × Nat) × (Nat → St → Option (Bool × LO))) := [((52, 3), z0o), ((57, 4), z0s), ((62, 5), z2a), ((99, 2), z03), ((99, 2), z05), ((50, 4), z2g), ((99, 2), z0d), ((53, 5), z1d)]
noncomputable def Γ15 : Ctx := ⟨tyTab, fnTab, tblSum tb15, tblLp lt15⟩
theorem tb15_ok : SumL Try.prog tb15 := SumL.cons z0q (SumL.cons z0g (SumL.cons z0k (SumL.cons z0p (SumL.cons z0v (SumL.cons z0n (SumL.cons z14 (SumL.cons z0u (SumL.cons z15 (SumL.cons z22 (SumL.cons z0t (SumL.cons z12 (SumL.cons z11 (SumL.cons z1m (SumL.cons z19 (SumL.cons z1n (SumL.cons z0m (SumL.cons z0x (SumL.cons z0w (SumL.cons z1a (SumL.cons z13 (SumL.cons z1h (SumL.cons z2i (SumL.cons z08 (SumL.cons z2c (SumL.cons z0e (SumL.cons z2l (SumL.cons z2b (SumL.cons z1t (SumL.cons z06 (SumL.cons z0b (SumL.cons z20 (SumL.cons z24 (SumL.cons z2m (SumL.cons z0y (SumL.cons z1s (SumL.cons z26 (SumL.cons z2y (SumL.cons z2w (SumL.cons z2r (SumL.cons z2z (SumL.cons z1z (SumL.nil))))))))))))))))))))))))))))))))))))))))))
theorem lt15_ok : LpL Try.prog fnTab lt15 := LpL.cons z0i (LpL.cons z0j (LpL.cons z1o (LpL.cons z02 (LpL.cons z04 (LpL.cons z1w (LpL.cons z09 (LpL.cons z0z (LpL.nil))))))))
noncomputable def tb16 : List (Nat × (List PT → Option (Bool × AV × List Blk))) := [(125, z1c), (128, z0h), (134, z0r), (137, z1b), (18, z1i), (48, z16), (54, z1v), (61, z1k), (97, z1u), (102, z2n), (109, z1j), (14, z1p), (51, z1q), (56, z27), (103, z1y), (111, z28), (118, z10), (52, z1g), (119, z1f), (16, z1x), (57, z1l), (19, z21), (62, z2u), (99, z0a), (49, z2q), (99, z0f), (116, z2x), (94, z2p), (98, z29), (117, z07), (117, z0c), (95, z2d), (96, z2k), (50, z2v), (55, z17), (53, z23), (59, z2j), (101, z34), (23, z31), (60, z30), (22, z33), (5, z25)]
noncomputable def lt16 : List ((Nat × Nat) × (Nat → St → Option (Bool × LO))) := [((52, 3), z0o), ((57, 4), z0s), ((62, 5), z2a), ((99, 2), z03), ((99, 2), z05), ((50, 4), z2g), ((99, 2), z0d), ((53, 5), z1d)]
noncomputable def Γ16 : Ctx := ⟨tyTab, fnTab, tblSum tb16, tblLp lt16⟩
theorem tb16_ok : SumL Try.prog tb16 := SumL.cons z0q (SumL.cons z0g (SumL.cons z0k (SumL.cons z0p (SumL.cons z0v (SumL.cons z0n (SumL.cons z14 (SumL.cons z0u (SumL.cons z15 (SumL.cons z22 (SumL.cons z0t (SumL.cons z12 (SumL.cons z11 (SumL.cons z1m (SumL.cons z19 (SumL.cons z1n (SumL.cons z0m (SumL.cons z0x (SumL.cons z0w (SumL.cons z1a (SumL.cons z13 (SumL.cons z1h (SumL.cons z2i (SumL.cons z08 (SumL.cons z2c (SumL.cons z0e (SumL.cons z2l (SumL.cons z2b (SumL.cons z1t (SumL.cons z06 (SumL.cons z0b (SumL.cons z20 (SumL.cons z24 (SumL.cons z2m (SumL.cons z0y (SumL.cons z1s (SumL.cons z26 (SumL.cons z2y (SumL.cons z2w (SumL.cons z2r (SumL.cons z2z (SumL.cons z1z (SumL.nil))))))))))))))))))))))))))))))))))))))))))
theorem lt16_ok : LpL Try.prog fnTab lt16 := LpL.cons z0i (LpL.cons z0j (LpL.cons z1o (LpL.cons z02 (LpL.cons z04 (LpL.cons z1w (LpL.cons z09 (LpL.cons z0z (LpL.nil))))))))
noncomputable def tb17 : List (Nat × (List PT → Option (Bool × AV × List Blk))) := [(125, z1c), (128, z0h), (134, z0r), (137, z1b), (18, z1i), (48, z16), (54, z1v), (61, z1k), (97, z1u), (102, z2n), (109, z1j), (14, z1p), (51, z1q), (56, z27), (103, z1y), (111, z28), (118, z10), (52, z1g), (119, z1f), (16, z1x), (57, z1l), (19, z21), (62, z2u), (99, z0a), (49, z2q), (99, z0f), (116, z2x), (94, z2p), (98, z29), (117, z07), (117, z0c), (95, z2d), (96, z2k), (50, z2v), (55, z17), (53, z23), (59, z2j), (101, z34), (23, z31), (60, z30), (22, z33), (5, z25)]
noncomputable def lt17 : List ((Nat × Nat) × (Nat → St → Option (Bool × LO))) := [((52, 3), z0o), ((57, 4), z0s), ((62, 5), z2a), ((99, 2), z03), ((99, 2), z05), ((50, 4), z2g), ((99, 2), z0d), ((53, 5), z1d)]
noncomputable def Γ17 : Ctx := ⟨tyTab, fnTab, tblSum tb17, tblLp lt17⟩
theorem tb17_ok : SumL Try.prog tb17 := SumL.cons z0q (SumL.cons z0g (SumL.cons z0k (SumL.cons z0p (SumL.cons z0v (SumL.cons z0n (SumL.cons z14 (SumL.cons z0u (SumL.cons z15 (SumL.cons z22 (SumL.cons z0t (SumL.cons z12 (SumL.cons z11 (SumL.cons z1m (SumL.cons z19 (SumL.cons z1n (SumL.cons z0m (SumL.cons z0x (SumL.cons z0w (SumL.cons z1a (SumL.cons z13 (SumL.cons z1h (SumL.cons z2i (SumL.cons z08 (SumL.cons z2c (SumL.cons z0e (SumL.cons z2l (SumL.cons z2b (SumL.cons z1t (SumL.cons z06 (SumL.cons z0b (SumL.cons z20 (SumL.cons z24 (SumL.cons z2m (SumL.cons z0y (SumL.cons z1s (SumL.cons z26 (SumL.cons z2y (SumL.cons z2w (SumL.cons z2r (SumL.cons z2z (SumL.cons z1z (SumL.nil))))))))))))))))))))))))))))))))))))))))))
theorem lt17_ok : LpL Try.prog fnTab lt17 := LpL.cons z0i (LpL.cons z0j (LpL.cons z1o (LpL.cons z02 (LpL.cons z04 (LpL.cons z1w (LpL.cons z09 (LpL.cons z0z (LpL.nil))))))))
noncomputable def tb18 : List (Nat × (List PT → Option (Bool × AV × List Blk))) := [(125, z1c), (128, z0h), (134, z0r), (137, z1b), (18, z1i), (48, z16), (54, z1v), (61, z1k), (97, z1u), (102, z2n), (109, z1j), (14, z1p), (51, z1q), (56, z27), (103, z1y), (111, z28), (118, z10), (52, z1g), (119, z1f), (16, z1x), (57, z1l), (19, z21), (62, z2u), (99, z0a), (49, z2q), (99, z0f), (116, z2x), (94, z2p), (98, z29), (117, z07), (117, z0c), (95, z2d), (96, z2k), (50, z2v), (55, z17), (53, z23), (59, z2j), (101, z34), (23, z31), (60, z30), (22, z33), (5, z25)]
noncomputable def lt18 : List ((Nat × Nat) × (Nat → St → Option (Bool × LO))) := [((52, 3), z0o), ((57, 4), z0s), ((62, 5), z2a), ((99, 2), z03), ((99, 2), z05), ((50, 4), z2g), ((99, 2), z0d), ((53, 5), z1d)]
noncomputable def Γ18 : Ctx := ⟨tyTab, fnTab, tblSum tb18, tblLp lt18⟩
theorem tb18_ok : SumL Try.prog tb18 := SumL.cons z0q (SumL.cons z0g (SumL.cons z0k (SumL.cons z0p (SumL.cons z0v (SumL.cons z0n (SumL.cons z14 (SumL.cons z0u (SumL.cons z15 (SumL.cons z22 (SumL.cons z0t (SumL.cons z12 (SumL.cons z11 (SumL.cons z1m (SumL.cons z19 (SumL.cons z1n (SumL.cons z0m (SumL.cons z0x (SumL.cons z0w (SumL.cons z1a (SumL.cons z13 (SumL.cons z1h (SumL.cons z2i (SumL.cons z08 (SumL.cons z2c (SumL.cons z0e (SumL.cons z2l (SumL.cons z2b (SumL.cons z1t (SumL.cons z06 (SumL.cons z0b (SumL.cons z20 (SumL.cons z24 (SumL.cons z2m (SumL.cons z0y (SumL.cons z1s (SumL.cons z26 (SumL.cons z2y (SumL.cons z2w (SumL.cons z2r (SumL.cons z2z (SumL.cons z1z (SumL.nil))))))))))))))))))))))))))))))))))))))))))
theorem lt18_ok : LpL Try.prog fnTab lt18 := LpL.cons z0i (LpL.cons z0j (LpL.cons z1o (LpL.cons z02 (LpL.cons z04 (LpL.cons z1w (LpL.cons z09 (LpL.cons z0z (LpL.nil))))))))
noncomputable def tb19 : List (Nat × (List PT → Option (Bool × AV × List Blk))) := [(125, z1c), (128, z0h), (134, z0r), (137, z1b), (18, z1i), (48, z16), (54, z1v), (61, z1k), (97, z1u), (102, z2n), (109, z1j), (14, z1p), (51, z1q), (56, z27), (103, z1y), (111, z28), (118, z10), (52, z1g), (119, z1f), (16, z1x), (57, z1l), (19, z21), (62, z2u), (99, z0a), (49, z2q), (99, z0f), (116, z2x), (94, z2p), (98, z29), (117, z07), (117, z0c), (95, z2d), (96, z2k), (50, z2v), (55, z17), (53, z23), (59, z2j), (101, z34), (23, z31), (60, z30), (22, z33), (5, z25)]
noncomputable def lt19 : List ((Nat × Nat) × (Nat → St → Option (Bool × LO))) := [((52, 3), z0o), ((57, 4), z0s), ((62, 5), z2a), ((99, 2), z03), ((99, 2), z05), ((50, 4), z2g), ((99, 2), z0d), ((53, 5), z1d)]
noncomputable def Γ19 : Ctx := ⟨tyTab, fnTab, tblSum tb19, tblLp lt19⟩
theorem tb19_ok : SumL Try.prog tb19 := SumL.cons z0q (SumL.cons z0g (SumL.cons z0k (SumL.cons z0p (SumL.cons z0v (SumL.cons z0n (SumL.cons z14 (SumL.cons z0u (SumL.cons z15 (SumL.cons z22 (SumL.cons z0t (SumL.cons z12 (SumL.cons z11 (SumL.cons z1m (SumL.cons z19 (SumL.cons z1n (SumL.cons z0m (SumL.cons z0x (SumL.cons z0w (SumL.cons z1a (SumL.cons z13 (SumL.cons z1h (SumL.cons z2i (SumL.cons z08 (SumL.cons z2c (SumL.cons z0e (SumL.cons z2l (SumL.cons z2b (SumL.cons z1t (SumL.cons z06 (SumL.cons z0b (SumL.cons z20 (SumL.cons z24 (SumL.cons z2m (SumL.cons z0y (SumL.cons z1s (SumL.cons z26 (SumL.cons z2y (SumL.cons z2w (SumL.cons z2r (SumL.cons z2z (SumL.cons z1z (SumL.nil))))))))))))))))))))))))))))))))))))))))))
theorem lt19_ok : LpL Try.prog fnTab lt19 := LpL.cons z0i (LpL.cons z0j (LpL.cons z1o (LpL.cons z02 (LpL.cons z04 (LpL.cons z1w (LpL.cons z09 (LpL.cons z0z (LpL.nil))))))))
noncomputable def tb20 : List (Nat × (List PT → Option (Bool × AV × List Blk))) := [(125, z1c), (128, z0h), (134, z0r), (137, z1b), (18, z1i), (48, z16), (54, z1v), (61, z1k), (97, z1u), (102, z2n), (109, z1j), (14, z1p), (51, z1q), (56, z27), (103, z1y), (111, z28), (118, z10), (52, z1g), (119, z1f), (16, z1x), (57, z1l), (19, z21), (62, z2u), (99, z0a), (49, z2q), (99, z0f), (116, z2x), (94, z2p), (98, z29), (117, z07), (117, z0c), (95, z2d), (96, z2k), (50, z2v), (55, z17), (53, z23), (59, z2j), (101, z34), (23, z31), (60, z30), (22, z33), (5, z25)]
noncomputable def lt20 : List ((Nat × Nat) × (Nat → St → Option (Bool × LO))) := [((52, 3), z0o), ((57, 4), z0s), ((62, 5), z2a), ((99, 2), z03), ((99, 2), z05), ((50, 4), z2g), ((99, 2), z0d), ((53, 5), z1d)]
noncomputable def Γ20 : Ctx := ⟨tyTab, fnTab, tblSum tb20, tblLp lt20⟩
theorem tb20_ok : SumL Try.prog tb20 := SumL.cons z0q (SumL.cons z0g (SumL.cons z0k (SumL.cons z0p (SumL.cons z0v (SumL.cons z0n (SumL.cons z14 (SumL.cons z0u (SumL.cons z15 (SumL.cons z22 (SumL.cons z0t (SumL.cons z12 (SumL.cons z11 (SumL.cons z1m (SumL.cons z19 (SumL.cons z1n (SumL.cons z0m (SumL.cons z0x (SumL.cons z0w (SumL.cons z1a (SumL.cons z13 (SumL.cons z1h (SumL.cons z2i (SumL.cons z08 (SumL.cons z2c (SumL.cons z0e (SumL.cons z2l (SumL.cons z2b (SumL.cons z1t (SumL.cons z06 (SumL.cons z0b (SumL.cons z20 (SumL.cons z24 (SumL.cons z2m (SumL.cons z0y (SumL.cons z1s (SumL.cons z26 (SumL.cons z2y (SumL.cons z2w (SumL.cons z2r (SumL.cons z2z (SumL.cons z1z (SumL.nil))))))))))))))))))))))))))))))))))))))))))
theorem lt20_ok : LpL Try.prog fnTab lt20 := LpL.cons z0i (LpL.cons z0j (LpL.cons z1o (LpL.cons z02 (LpL.cons z04 (LpL.cons z1w (LpL.cons z09 (LpL.cons z0z (LpL.nil))))))))
noncomputable def tb21 : List (Nat × (List PT → Option (Bool × AV × List Blk))) := [(125, z1c), (128, z0h), (134, z0r), (137, z1b), (18, z1i), (48, z16), (54, z1v), (61, z1k), (97, z1u), (102, z2n), (109, z1j), (14, z1p), (51, z1q), (56, z27), (103, z1y), (111, z28), (118, z10), (52, z1g), (119, z1f), (16, z1x), (57, z1l), (19, z21), (62, z2u), (99, z0a), (49, z2q), (99, z0f), (116, z2x), (94, z2p), (98, z29), (117, z07), (117, z0c), (95, z2d), (96, z2k), (50, z2v), (55, z17), (53, z23), (59, z2j), (101, z34), (23, z31), (60, z30), (22, z33), (5, z25)]
noncomputable def lt21 : List ((Nat × Nat) × (Nat → St → Option (Bool × LO))) := [((52, 3), z0o), ((57, 4), z0s), ((62, 5), z2a), ((99, 2), z03), ((99, 2), z05), ((50, 4), z2g), ((99, 2), z0d), ((53, 5), z1d)]
noncomputable def Γ21 : Ctx := ⟨tyTab, fnTab, tblSum tb21, tblLp lt21⟩
theorem tb21_ok : SumL Try.prog tb21 := SumL.cons z0q (SumL.cons z0g (SumL.cons z0k (SumL.cons z0p (SumL.cons z0v (SumL.cons z0n (SumL.cons z14 (SumL.cons z0u (SumL.cons z15 (SumL.cons z22 (SumL.cons z0t (SumL.cons z12 (SumL.cons z11 (SumL.cons z1m (SumL.cons z19 (SumL.cons z1n (SumL.cons z0m (SumL.cons z0x (SumL.cons z0w (SumL.cons z1a (SumL.cons z13 (SumL.cons z1h (SumL.cons z2i (SumL.cons z08 (SumL.cons z2c (SumL.cons z0e (SumL.cons z2l (SumL.cons z2b (SumL.cons z1t (SumL.cons z06 (SumL.cons z0b (SumL.cons z20 (SumL.cons z24 (SumL.cons z2m (SumL.cons z0y (SumL.cons z1s (SumL.cons z26 (SumL.cons z2y (SumL.cons z2w (SumL.cons z2r (SumL.cons z2z (SumL.cons z1z (SumL.nil))))))))))))))))))))))))))))))))))))))))))
theorem lt21_ok : LpL Try.prog fnTab lt21 := LpL.cons z0i (LpL.cons z0j (LpL.cons z1o (LpL.cons z02 (LpL.cons z04 (LpL.cons z1w (LpL.cons z09 (LpL.cons z0z (LpL.nil))))))))
noncomputable def tb22 : List (Nat × (List PT → Option (Bool × AV × List Blk))) := [(125, z1c), (128, z0h), (134, z0r), (137, z1b), (18, z1i), (48, z16), (54, z1v), (61, z1k), (97, z1u), (102, z2n), (109, z1j), (14, z1p), (51, z1q), (56, z27), (103, z1y), (111, z28), (118, z10), (52, z1g), (119, z1f), (16, z1x), (57, z1l), (19, z21), (62, z2u), (99, z0a), (49, z2q), (99, z0f), (116, z2x), (94, z2p), (98, z29), (117, z07), (117, z0c), (95, z2d), (96, z2k), (50, z2v), (55, z17), (53, z23), (59, z2j), (101, z34), (23, z31), (60, z30), (22, z33), (5, z25)]
noncomputable def lt22 : List ((Nat × Nat) × (Nat → St → Option (Bool × LO))) := [((52, 3), z0o), ((57, 4), z0s), ((62, 5), z2a), ((99, 2), z03), ((99, 2), z05), ((50, 4), z2g), ((99, 2), z0d), ((53, 5), z1d)]
noncomputable def Γ22 : Ctx := ⟨tyTab, fnTab, tblSum tb22, tblLp lt22⟩
theorem tb22_ok : SumL Try.prog tb22 := SumL.cons z0q (SumL.cons z0g (SumL.cons z0k (SumL.cons z0p (SumL.cons z0v (SumL.cons z0n (SumL.cons z14 (SumL.cons z0u (SumL.cons z15 (SumL.cons z22 (SumL.cons z0t (SumL.cons z12 (SumL.cons z11 (SumL.cons z1m (SumL.cons z19 (SumL.cons z1n (SumL.cons z0m (SumL.cons z0x (SumL.cons z0w (SumL.cons z1a (SumL.cons z13 (SumL.cons z1h (SumL.cons z2i (SumL.cons z08 (SumL.cons z2c (SumL.cons z0e (SumL.cons z2l (SumL.cons z2b (SumL.cons z1t (SumL.cons z06 (SumL.cons z0b (SumL.cons z20 (SumL.cons z24 (SumL.cons z2m (SumL.cons z0y (SumL.cons z1s (SumL.cons z26 (SumL.cons z2y (SumL.cons z2w (SumL.cons z2r (SumL.cons z2z (SumL.cons z1z (SumL.nil))))))))))))))))))))))))))))))))))))))))))
theorem lt22_ok : LpL Try.prog fnTab lt22 := LpL.cons z0i (LpL.cons z0j (LpL.cons z1o (LpL.cons z02 (LpL.cons z04 (LpL.cons z1w (LpL.cons z09 (LpL.cons z0z (LpL.nil))))))))
noncomputable def tb23 : List (Nat × (List PT → Option (Bool × AV × List Blk))) := [(125, z1c), (128, z0h), (134, z0r), (137, z1b), (18, z1i), (48, z16), (54, z1v), (61, z1k), (97, z1u), (102, z2n), (109, z1j), (14, z1p), (51, z1q), (56, z27), (103, z1y), (111, z28), (118, z10), (52, z1g), (119, z1f), (16, z1x), (57, z1l), (19, z21), (62, z2u), (99, z0a), (49, z2q), (99, z0f), (116, z2x), (94, z2p), (98, z29), (117, z07), (117, z0c), (95, z2d), (96, z2k), (50, z2v), (55, z17), (53, z23), (59, z2j), (101, z34), (23, z31), (60, z30), (22, z33), (5, z25)]
noncomputable def lt23 : List ((Nat × Nat) × (Nat → St → Option (Bool × LO))) := [((52, 3), z0o), ((57, 4), z0s), ((62, 5), z2a), ((99, 2), z03), ((99, 2), z05), ((50, 4), z2g), ((99, 2), z0d), ((53, 5), z1d)]
noncomputable def Γ23 : Ctx := ⟨tyTab, fnTab, tblSum tb23, tblLp lt23⟩
theorem tb23_ok : SumL Try.prog tb23 := SumL.cons z0q (SumL.cons z0g (SumL.cons z0k (SumL.cons z0p (SumL.cons z0v (SumL.cons z0n (SumL.cons z14 (SumL.cons z0u (SumL.cons z15 (SumL.cons z22 (SumL.cons z0t (SumL.cons z12 (SumL.cons z11 (SumL.cons z1m (SumL.cons z19 (SumL.cons z1n (SumL.cons z0m (SumL.cons z0x (SumL.cons z0w (SumL.cons z1a (SumL.cons z13 (SumL.cons z1h (SumL.cons z2i (SumL.cons z08 (SumL.cons z2c (SumL.cons z0e (SumL.cons z2l (SumL.cons z2b (SumL.cons z1t (SumL.cons z06 (SumL.cons z0b (SumL.cons z20 (SumL.cons z24 (SumL.cons z2m (SumL.cons z0y (SumL.cons z1s (SumL.cons z26 (SumL.cons z2y (SumL.cons z2w (SumL.cons z2r (SumL.cons z2z (SumL.cons z1z (SumL.nil))))))))))))))))))))))))))))))))))))))))))
theorem lt23_ok : LpL Try.prog fnTab lt23 := LpL.cons z0i (LpL.cons z0j (LpL.cons z1o (LpL.cons z02 (LpL.cons z04 (LpL.cons z1w (LpL.cons z09 (LpL.cons z0z (LpL.nil))))))))
noncomputable def tb24 : List (Nat × (List PT → Option (Bool × AV × List Blk))) := [(125, z1c), (128, z0h), (134, z0r), (137, z1b), (18, z1i), (48, z16), (54, z1v), (61, z1k), (97, z1u), (102, z2n), (109, z1j), (14, z1p), (51, z1q), (56, z27), (103, z1y), (111, z28), (118, z10), (52, z1g), (119, z1f), (16, z1x), (57, z1l), (19, z21), (62, z2u), (99, z0a), (49, z2q), (99, z0f), (116, z2x), (94, z2p), (98, z29), (117, z07), (117, z0c), (95, z2d), (96, z2k), (50, z2v), (55, z17), (53, z23), (59, z2j), (101, z34), (23, z31), (60, z30), (22, z33), (5, z25)]
noncomputable def lt24 : List ((Nat × Nat) × (Nat → St → Option (Bool × LO))) := [((52, 3), z0o), ((57, 4), z0s), ((62, 5), z2a), ((99, 2), z03), ((99, 2), z05), ((50, 4), z2g), ((99, 2), z0d), ((53, 5), z1d)]
noncomputable def Γ24 : Ctx := ⟨tyTab, fnTab, tblSum tb24, tblLp lt24⟩
theorem tb24_ok : SumL Try.prog tb24 := SumL.cons z0q (SumL.cons z0g (SumL.cons z0k (SumL.cons z0p (SumL.cons z0v (SumL.cons z0n (SumL.cons z14 (SumL.cons z0u (SumL.cons z15 (SumL.cons z22 (SumL.cons z0t (SumL.cons z12 (SumL.cons z11 (SumL.cons z1m (SumL.cons z19 (SumL.cons z1n (SumL.cons z0m (SumL.cons z0x (SumL.cons z0w (SumL.cons z1a (SumL.cons z13 (SumL.cons z1h (SumL.cons z2i (SumL.cons z08 (SumL.cons z2c (SumL.cons z0e (SumL.cons z2l (SumL.cons z2b (SumL.cons z1t (SumL.cons z06 (SumL.cons z0b (SumL.cons z20 (SumL.cons z24 (SumL.cons z2m (SumL.cons z0y (SumL.cons z1s (SumL.cons z26 (SumL.cons z2y (SumL.cons z2w (SumL.cons z2r (SumL.cons z2z (SumL.cons z1z (SumL.nil))))))))))))))))))))))))))))))))))))))))))
theorem lt24_ok : LpL Try.prog fnTab lt24 := LpL.cons z0i (LpL.cons z0j (LpL.cons z1o (LpL.cons z02 (LpL.cons z04 (LpL.cons z1w (LpL.cons z09 (LpL.cons z0z (LpL.nil))))))))
noncomputable def tb25 : List (Nat × (List PT → Option (Bool × AV × List Blk))) := [(125, z1c), (128, z0h), (134, z0r), (137, z1b), (18, z1i), (48, z16), (54, z1v), (61, z1k), (97, z1u), (102, z2n), (109, z1j), (14, z1p), (51, z1q), (56, z27), (103, z1y), (111, z28), (118, z10), (52, z1g), (119, z1f), (16, z1x), (57, z1l), (19, z21), (62, z2u), (99, z0a), (49, z2q), (99, z0f), (116, z2x), (94, z2p), (98, z29), (117, z07), (117, z0c), (95, z2d), (96, z2k), (50, z2v), (55, z17), (53, z23), (59, z2j), (101, z34), (23, z31), (60, z30), (22, z33), (5, z25)]
noncomputable def lt25 : List ((Nat × Nat) × (Nat → St → Option (Bool × LO))) := [((52, 3), z0o), ((57, 4), z0s), ((62, 5), z2a), ((99, 2), z03), ((99, 2), z05), ((50, 4), z2g), ((99, 2), z0d), ((53, 5), z1d)]
noncomputable def Γ25 : Ctx := ⟨tyTab, fnTab, tblSum tb25, tblLp lt25⟩
theorem tb25_ok : SumL Try.prog tb25 := SumL.cons z0q (SumL.cons z0g (SumL.cons z0k (SumL.cons z0p (SumL.cons z0v (SumL.cons z0n (SumL.cons z14 (SumL.cons z0u (SumL.cons z15 (SumL.cons z22 (SumL.cons z0t (SumL.cons z12 (SumL.cons z11 (SumL.cons z1m (SumL.cons z19 (SumL.cons z1n (SumL.cons z0m (SumL.cons z0x (SumL.cons z0w (SumL.cons z1a (SumL.cons z13 (SumL.cons z1h (SumL.cons z2i (SumL.cons z08 (SumL.cons z2c (SumL.cons z0e (SumL.cons z2l (SumL.cons z2b (SumL.cons z1t (SumL.cons z06 (SumL.cons z0b (SumL.cons z20 (SumL.cons z24 (SumL.cons z2m (SumL.cons z0y (SumL.cons z1s (SumL.cons z26 (SumL.cons z2y (SumL.cons z2w (SumL.cons z2r (SumL.cons z2z (SumL.cons z1z (SumL.nil))))))))))))))))))))))))))))))))))))))))))
theorem lt25_ok : LpL Try.prog fnTab lt25 := LpL.cons z0i (LpL.cons z0j (LpL.cons z1o (LpL.cons z02 (LpL.cons z04 (LpL.cons z1w (LpL.cons z09 (LpL.cons z0z (LpL.nil))))))))
noncomputable def tb26 : List (Nat × (List PT → Option (Bool × AV × List Blk))) := [(125, z1c), (128, z0h), (134, z0r), (137, z1b), (18, z1i), (48, z16), (54, z1v), (61, z1k), (97, z1u), (102, z2n), (109, z1j), (14, z1p), (51, z1q), (56, z27), (103, z1y), (111, z28), (118, z10), (52, z1g), (119, z1f), (16, z1x), (57, z1l), (19, z21), (62, z2u), (99, z0a), (49, z2q), (99, z0f), (116, z2x), (94, z2p), (98, z29), (117, z07), (117, z0c), (95, z2d), (96, z2k), (50, z2v), (55, z17), (53, z23), (59, z2j), (101, z34), (23, z31), (60, z30), (22, z33), (5, z25)]
noncomputable def lt26 : List ((Nat × Nat) × (Nat → St → Option (Bool × LO))) := [((52, 3), z0o), ((57, 4), z0s), ((62, 5), z2a), ((99, 2), z03), ((99, 2), z05), ((50, 4), z2g), ((99, 2), z0d), ((53, 5), z1d)]
noncomputable def Γ26 : Ctx := ⟨tyTab, fnTab, tblSum tb26, tblLp lt26⟩
theorem tb26_ok : SumL Try.prog tb26 := SumL.cons z0q (SumL.cons z0g (SumL.cons z0k (SumL.cons z0p (SumL.cons z0v (SumL.cons z0n (SumL.cons z14 (SumL.cons z0u (SumL.cons z15 (SumL.cons z22 (SumL.cons z0t (SumL.cons z12 (SumL.cons z11 (SumL.cons z1m (SumL.cons z19 (SumL.cons z1n (SumL.cons z0m (SumL.cons z0x (SumL.cons z0w (SumL.cons z1a (SumL.cons z13 (SumL.cons z1h (SumL.cons z2i (SumL.cons z08 (SumL.cons z2c (SumL.cons z0e (SumL.cons z2l (SumL.cons z2b (SumL.cons z1t (SumL.cons z06 (SumL.cons z0b (SumL.cons z20 (SumL.cons z24 (SumL.cons z2m (SumL.cons z0y (SumL.cons z1s (SumL.cons z26 (SumL.cons z2y (SumL.cons z2w (SumL.cons z2r (SumL.cons z2z (SumL.cons z1z (SumL.nil))))))))))))))))))))))))))))))))))))))))))
theorem lt26_ok : LpL Try.prog fnTab lt26 := LpL.cons z0i (LpL.cons z0j (LpL.cons z1o (LpL.cons z02 (LpL.cons z04 (LpL.cons z1w (LpL.cons z09 (LpL.cons z0z (LpL.nil))))))))
noncomputable def tb27 : List (Nat × (List PT → Option (Bool × AV × List Blk))) := [(125, z1c), (128, z0h), (134, z0r), (137, z1b), (18, z1i), (48, z16), (54, z1v), (61, z1k), (97, z1u), (102, z2n), (109, z1j), (14, z1p), (51, z1q), (56, z27), (103, z1y), (111, z28), (118, z10), (52, z1g), (119, z1f), (16, z1x), (57, z1l), (19, z21), (62, z2u), (99, z0a), (49, z2q), (99, z0f), (116, z2x), (94, z2p), (98, z29), (117, z07), (117, z0c), (95, z2d), (96, z2k), (50, z2v), (55, z17), (53, z23), (59, z2j), (101, z34), (23, z31), (60, z30), (22, z33), (5, z25)]
noncomputable def lt27 : List ((Nat × Nat) × (Nat → St → Option (Bool × LO))) := [((52, 3), z0o), ((57, 4), z0s), ((62, 5), z2a), ((99, 2), z03), ((99, 2), z05), ((50, 4), z2g), ((99, 2), z0d), ((53, 5), z1d)]
noncomputable def Γ27 : Ctx := ⟨tyTab, fnTab, tblSum tb27, tblLp lt27⟩
theorem tb27_ok : SumL Try.prog tb27 := SumL.cons z0q (SumL.cons z0g (SumL.cons z0k (SumL.cons z0p (SumL.cons z0v (SumL.cons z0n (SumL.cons z14 (SumL.cons z0u (SumL.cons z15 (SumL.cons z22 (SumL.cons z0t (SumL.cons z12 (SumL.cons z11 (SumL.cons z1m (SumL.cons z19 (SumL.cons z1n (SumL.cons z0m (SumL.cons z0x (SumL.cons z0w (SumL.cons z1a (SumL.cons z13 (SumL.cons z1h (SumL.cons z2i (SumL.cons z08 (SumL.cons z2c (SumL.cons z0e (SumL.cons z2l (SumL.cons z2b (SumL.cons z1t (SumL.cons z06 (SumL.cons z0b (SumL.cons z20 (SumL.cons z24 (SumL.cons z2m (SumL.cons z0y (SumL.cons z1s (SumL.cons z26 (SumL.cons z2y (SumL.cons z2w (SumL.cons z2r (SumL.cons z2z (SumL.cons z1z (SumL.nil))))))))))))))))))))))))))))))))))))))))))
theorem lt27_ok : LpL Try.prog fnTab lt27 := LpL.cons z0i (LpL.cons z0j (LpL.cons z1o (LpL.cons z02 (LpL.cons z04 (LpL.cons z1w (LpL.cons z09 (LpL.cons z0z (LpL.nil))))))))
noncomputable def tb28 : List (Nat × (List PT → Option (Bool × AV × List Blk))) := [(125, z1c), (128, z0h), (134, z0r), (137, z1b), (18, z1i), (48, z16), (54, z1v), (61, z1k), (97, z1u), (102, z2n), (109, z1j), (14, z1p), (51, z1q), (56, z27), (103, z1y), (111, z28), (118, z10), (52, z1g), (119, z1f), (16, z1x), (57, z1l), (19, z21), (62, z2u), (99, z0a), (49, z2q), (99, z0f), (116, z2x), (94, z2p), (98, z29), (117, z07), (117, z0c), (95, z2d), (96, z2k), (50, z2v), (55, z17), (53, z23), (59, z2j), (101, z34), (23, z31), (60, z30), (22, z33), (5, z25)]
noncomputable def lt28 : List ((Nat × Nat) × (Nat → St → Option (Bool × LO))) := [((52, 3), z0o), ((57, 4), z0s), ((62, 5), z2a), ((99, 2), z03), ((99, 2), z05), ((50, 4), z2g), ((99, 2), z0d), ((53, 5), z1d)]
noncomputable def Γ28 : Ctx := ⟨tyTab, fnTab, tblSum tb28, tblLp lt28⟩
theorem tb28_ok : SumL Try.prog tb28 := SumL.cons z0q (SumL.cons z0g (SumL.cons z0k (SumL.cons z0p (SumL.cons z0v (SumL.cons z0n (SumL.cons z14 (SumL.cons z0u (SumL.cons z15 (SumL.cons z22 (SumL.cons z0t (SumL.cons z12 (SumL.cons z11 (SumL.cons z1m (SumL.cons z19 (SumL.cons z1n (SumL.cons z0m (SumL.cons z0x (SumL.cons z0w (SumL.cons z1a (SumL.cons z13 (SumL.cons z1h (SumL.cons z2i (SumL.cons z08 (SumL.cons z2c (SumL.cons z0e (SumL.cons z2l (SumL.cons z2b (SumL.cons z1t (SumL.cons z06 (SumL.cons z0b (SumL.cons z20 (SumL.cons z24 (SumL.cons z2m (SumL.cons z0y (SumL.cons z1s (SumL.cons z26 (SumL.cons z2y (SumL.cons z2w (SumL.cons z2r (SumL.cons z2z (SumL.cons z1z (SumL.nil))))))))))))))))))))))))))))))))))))))))))
theorem lt28_ok : LpL Try.prog fnTab lt28 := LpL.cons z0i (LpL.cons z0j (LpL.cons z1o (LpL.cons z02 (LpL.cons z04 (LpL.cons z1w (LpL.cons z09 (LpL.cons z0z (LpL.nil))))))))
noncomputable def tb29 : List (Nat × (List PT → Option (Bool × AV × List Blk))) := [(125, z1c), (128, z0h), (134, z0r), (137, z1b), (18, z1i), (48, z16), (54, z1v), (61, z1k), (97, z1u), (102, z2n), (109, z1j), (14, z1p), (51, z1q), (56, z27), (103, z1y), (111, z28), (118, z10), (52, z1g), (119, z1f), (16, z1x), (57, z1l), (19, z21), (62, z2u), (99, z0a), (49, z2q), (99, z0f), (116, z2x), (94, z2p), (98, z29), (117, z07), (117, z0c), (95, z2d), (96, z2k), (50, z2v), (55, z17), (53, z23), (59, z2j), (101, z34), (23, z31), (60, z30), (22, z33), (5, z25)]
noncomputable def lt29 : List ((Nat × Nat) × (Nat → St → Option (Bool × LO))) := [((52, 3), z0o), ((57, 4), z0s), ((62, 5), z2a), ((99, 2), z03), ((99, 2), z05), ((50, 4), z2g), ((99, 2), z0d), ((53, 5), z1d)]
noncomputable def Γ29 : Ctx := ⟨tyTab, fnTab, tblSum tb29, tblLp lt29⟩
theorem tb29_ok : SumL Try.prog tb29 := SumL.cons z0q (SumL.cons z0g (SumL.cons z0k (SumL.cons z0p (SumL.cons z0v (SumL.cons z0n (SumL.cons z14 (SumL.cons z0u (SumL.cons z15 (SumL.cons z22 (SumL.cons z0t (SumL.cons z12 (SumL.cons z11 (SumL.cons z1m (SumL.cons z19 (SumL.cons z1n (SumL.cons z0m (SumL.cons z0x (SumL.cons z0w (SumL.cons z1a (SumL.cons z13 (SumL.cons z1h (SumL.cons z2i (SumL.cons z08 (SumL.cons z2c (SumL.cons z0e (SumL.cons z2l (SumL.cons z2b (SumL.cons z1t (SumL.cons z06 (SumL.cons z0b (SumL.cons z20 (SumL.cons z24 (SumL.cons z2m (SumL.cons z0y (SumL.cons z1s (SumL.cons z26 (SumL.cons z2y (SumL.cons z2w (SumL.cons z2r (SumL.cons z2z (SumL.cons z1z (SumL.nil))))))))))))))))))))))))))))))))))))))))))
theorem lt29_ok : LpL Try.prog fnTab lt29 := LpL.cons z0i (LpL.cons z0j (LpL.cons z1o (LpL.cons z02 (LpL.cons z04 (LpL.cons z1w (LpL.cons z09 (LpL.cons z0z (LpL.nil))))))))
noncomputable def tb30 : List (Nat × (List PT → Option (Bool × AV × List Blk))) := [(125, z1c), (128, z0h), (134, z0r), (137, z1b), (18, z1i), (48, z16), (54, z1v), (61, z1k), (97, z1u), (102, z2n), (109, z1j), (14, z1p), (51, z1q), (56, z27), (103, z1y), (111, z28), (118, z10), (52, z1g), (119, z1f), (16, z1x), (57, z1l), (19, z21), (62, z2u), (99, z0a), (49, z2q), (99, z0f), (116, z2x), (94, z2p), (98, z29), (117, z07), (117, z0c), (95, z2d), (96, z2k), (50, z2v), (55, z17), (53, z23), (59, z2j), (101, z34), (23, z31), (60, z30), (22, z33), (5, z25)]
noncomputable def lt30 : List ((Nat × Nat) × (Nat → St → Option (Bool × LO))) := [((52, 3), z0o), ((57, 4), z0s), ((62, 5), z2a), ((99, 2), z03), ((99, 2), z05), ((50, 4), z2g), ((99, 2), z0d), ((53, 5), z1d)]
noncomputable def Γ30 : Ctx := ⟨tyTab, fnTab, tblSum tb30, tblLp lt30⟩
theorem tb30_ok : SumL Try.prog tb30 := SumL.cons z0q (SumL.cons z0g (SumL.cons z0k (SumL.cons z0p (SumL.cons z0v (SumL.cons z0n (SumL.cons z14 (SumL.cons z0u (SumL.cons z15 (SumL.cons z22 (SumL.cons z0t (SumL.cons z12 (SumL.cons z11 (SumL.cons z1m (SumL.cons z19 (SumL.cons z1n (SumL.cons z0m (SumL.cons z0x (SumL.cons z0w (SumL.cons z1a (SumL.cons z13 (SumL.cons z1h (SumL.cons z2i (SumL.cons z08 (SumL.cons z2c (SumL.cons z0e (SumL.cons z2l (SumL.cons z2b (SumL.cons z1t (SumL.cons z06 (SumL.cons z0b (SumL.cons z20 (SumL.cons z24 (SumL.cons z2m (SumL.cons z0y (SumL.cons z1s (SumL.cons z26 (SumL.cons z2y (SumL.cons z2w (SumL.cons z2r (SumL.cons z2z (SumL.cons z1z (SumL.nil))))))))))))))))))))))))))))))))))))))))))
theorem lt30_ok : LpL Try.prog fnTab lt30 := LpL.cons z0i (LpL.cons z0j (LpL.cons z1o (LpL.cons z02 (LpL.cons z04 (LpL.cons z1w (LpL.cons z09 (LpL.cons z0z (LpL.nil))))))))
noncomputable def tb31 : List (Nat × (List PT → Option (Bool × AV × List Blk))) := [(125, z1c), (128, z0h), (134, z0r), (137, z1b), (18, z1i), (48, z16), (54, z1v), (61, z1k), (97, z1u), (102, z2n), (109, z1j), (14, z1p), (51, z1q), (56, z27), (103, z1y), (111, z28), (118, z10), (52, z1g), (119, z1f), (16, z1x), (57, z1l), (19, z21), (62, z2u), (99, z0a), (49, z2q), (99, z0f), (116, z2x), (94, z2p), (98, z29), (117, z07), (117, z0c), (95, z2d), (96, z2k), (50, z2v), (55, z17), (53, z23), (59, z2j), (101, z34), (23, z31), (60, z30), (22, z33), (5, z25)]
noncomputable def lt31 : List ((Nat × Nat) × (Nat → St → Option (Bool × LO))) := [((52, 3), z0o), ((57, 4), z0s), ((62, 5), z2a), ((99, 2), z03), ((99, 2), z05), ((50, 4), z2g), ((99, 2), z0d), ((53, 5), z1d)]
noncomputable def Γ31 : Ctx := ⟨tyTab, fnTab, tblSum tb31, tblLp lt31⟩
theorem tb31_ok : SumL Try.prog tb31 := SumL.cons z0q (SumL.cons z0g (SumL.cons z0k (SumL.cons z0p (SumL.cons z0v (SumL.cons z0n (SumL.cons z14 (SumL.cons z0u (SumL.cons z15 (SumL.cons z22 (SumL.cons z0t (SumL.cons z12 (SumL.cons z11 (SumL.cons z1m (SumL.cons z19 (SumL.cons z1n (SumL.cons z0m (SumL.cons z0x (SumL.cons z0w (SumL.cons z1a (SumL.cons z13 (SumL.cons z1h (SumL.cons z2i (SumL.cons z08 (SumL.cons z2c (SumL.cons z0e (SumL.cons z2l (SumL.cons z2b (SumL.cons z1t (SumL.cons z06 (SumL.cons z0b (SumL.cons z20 (SumL.cons z24 (SumL.cons z2m (SumL.cons z0y (SumL.cons z1s (SumL.cons z26 (SumL.cons z2y (SumL.cons z2w (SumL.cons z2r (SumL.cons z2z (SumL.cons z1z (SumL.nil))))))))))))))))))))))))))))))))))))))))))
theorem lt31_ok : LpL Try.prog fnTab lt31 := LpL.cons z0i (LpL.cons z0j (LpL.cons z1o (LpL.cons z02 (LpL.cons z04 (LpL.cons z1w (LpL.cons z09 (LpL.cons z0z (LpL.nil))))))))
noncomputable def tb32 : List (Nat × (List PT → Option (Bool × AV × List Blk))) := [(125, z1c), (128, z0h), (134, z0r), (137, z1b), (18, z1i), (48, z16), (54, z1v), (61, z1k), (97, z1u), (102, z2n), (109, z1j), (14, z1p), (51, z1q), (56, z27), (103, z1y), (111, z28), (118, z10), (52, z1g), (119, z1f), (16, z1x), (57, z1l), (19, z21), (62, z2u), (99, z0a), (49, z2q), (99, z0f), (116, z2x), (94, z2p), (98, z29), (117, z07), (117, z0c), (95, z2d), (96, z2k), (50, z2v), (55, z17), (53, z23), (59, z2j), (101, z34), (23, z31), (60, z30), (22, z33), (5, z25)]
noncomputable def lt32 : List ((Nat × Nat) × (Nat → St → Option (Bool × LO))) := [((52, 3), z0o), ((57, 4), z0s), ((62, 5), z2a), ((99, 2), z03), ((99, 2), z05), ((50, 4), z2g), ((99, 2), z0d), ((53, 5), z1d)]
noncomputable def Γ32 : Ctx := ⟨tyTab, fnTab, tblSum tb32, tblLp lt32⟩
theorem tb32_ok : SumL Try.prog tb32 := SumL.cons z0q (SumL.cons z0g (SumL.cons z0k (SumL.cons z0p (SumL.cons z0v (SumL.cons z0n (SumL.cons z14 (SumL.cons z0u (SumL.cons z15 (SumL.cons z22 (SumL.cons z0t (SumL.cons z12 (SumL.cons z11 (SumL.cons z1m (SumL.cons z19 (SumL.cons z1n (SumL.cons z0m (SumL.cons z0x (SumL.cons z0w (SumL.cons z1a (SumL.cons z13 (SumL.cons z1h (SumL.cons z2i (SumL.cons z08 (SumL.cons z2c (SumL.cons z0e (SumL.cons z2l (SumL.cons z2b (SumL.cons z1t (SumL.cons z06 (SumL.cons z0b (SumL.cons z20 (SumL.cons z24 (SumL.cons z2m (SumL.cons z0y (SumL.cons z1s (SumL.cons z26 (SumL.cons z2y (SumL.cons z2w (SumL.cons z2r (SumL.cons z2z (SumL.cons z1z (SumL.nil))))))))))))))))))))))))))))))))))))))))))
theorem lt32_ok : LpL Try.prog fnTab lt32 := LpL.cons z0i (LpL.cons z0j (LpL.cons z1o (LpL.cons z02 (LpL.cons z04 (LpL.cons z1w (LpL.cons z09 (LpL.cons z0z (LpL.nil))))))))
noncomputable def tb33 : List (Nat × (List PT → Option (Bool × AV × List Blk))) := [(125, z1c), (128, z0h), (134, z0r), (137, z1b), (18, z1i), (48, z16), (54, z1v), (61, z1k), (97, z1u), (102, z2n), (109, z1j), (14, z1p), (51, z1q), (56, z27), (103, z1y), (111, z28), (118, z10), (52, z1g), (119, z1f), (16, z1x), (57, z1l), (19, z21), (62, z2u), (99, z0a), (49, z2q), (99, z0f), (116, z2x), (94, z2p), (98, z29), (117, z07), (117, z0c), (95, z2d), (96, z2k), (50, z2v), (55, z17), (53, z23), (59, z2j), (101, z34), (23, z31), (60, z30), (22, z33), (5, z25)]
noncomputable def lt33 : List ((Nat × Nat) × (Nat → St → Option (Bool × LO))) := [((52, 3), z0o), ((57, 4), z0s), ((62, 5), z2a), ((99, 2), z03), ((99, 2), z05), ((50, 4), z2g), ((99, 2), z0d), ((53, 5), z1d)]
noncomputable def Γ33 : Ctx := ⟨tyTab, fnTab, tblSum tb33, tblLp lt33⟩
theorem tb33_ok : SumL Try.prog tb33 := SumL.cons z0q (SumL.cons z0g (SumL.cons z0k (SumL.cons z0p (SumL.cons z0v (SumL.cons z0n (SumL.cons z14 (SumL.cons z0u (SumL.cons z15 (SumL.cons z22 (SumL.cons z0t (SumL.cons z12 (SumL.cons z11 (SumL.cons z1m (SumL.cons z19 (SumL.cons z1n (SumL.cons z0m (SumL.cons z0x (SumL.cons z0w (SumL.cons z1a (SumL.cons z13 (SumL.cons z1h (SumL.cons z2i (SumL.cons z08 (SumL.cons z2c (SumL.cons z0e (SumL.cons z2l (SumL.cons z2b (SumL.cons z1t (SumL.cons z06 (SumL.cons z0b (SumL.cons z20 (SumL.cons z24 (SumL.cons z2m (SumL.cons z0y (SumL.cons z1s (SumL.cons z26 (SumL.cons z2y (SumL.cons z2w (SumL.cons z2r (SumL.cons z2z (SumL.cons z1z (SumL.nil))))))))))))))))))))))))))))))))))))))))))
theorem lt33_ok : LpL Try.prog fnTab lt33 := LpL.cons z0i (LpL.cons z0j (LpL.cons z1o (LpL.cons z02 (LpL.cons z04 (LpL.cons z1w (LpL.cons z09 (LpL.cons z0z (LpL.nil))))))))
noncomputable def tb34 : List (Nat × (List PT → Option (Bool × AV × List Blk))) := [(125, z1c), (128, z0h), (134, z0r), (137, z1b), (18, z1i), (48, z16), (54, z1v), (61, z1k), (97, z1u), (102, z2n), (109, z1j), (14, z1p), (51, z1q), (56, z27), (103, z1y), (111, z28), (118, z10), (52, z1g), (119, z1f), (16, z1x), (57, z1l), (19, z21), (62, z2u), (99, z0a), (49, z2q), (99, z0f), (116, z2x), (94, z2p), (98, z29), (117, z07), (117, z0c), (95, z2d), (96, z2k), (50, z2v), (55, z17), (53, z23), (59, z2j), (101, z34), (23, z31), (60, z30), (22, z33), (5, z25)]
noncomputable def lt34 : List ((Nat × Nat) × (Nat → St → Option (Bool × LO))) := [((52, 3), z0o), ((57, 4), z0s), ((62, 5), z2a), ((99, 2), z03), ((99, 2), z05), ((50, 4), z2g), ((99, 2), z0d), ((53, 5), z1d)]
noncomputable def Γ34 : Ctx := ⟨tyTab, fnTab, tblSum tb34, tblLp lt34⟩
theorem tb34_ok : SumL Try.prog tb34 := SumL.cons z0q (SumL.cons z0g (SumL.cons z0k (SumL.cons z0p (SumL.cons z0v (SumL.cons z0n (SumL.cons z14 (SumL.cons z0u (SumL.cons z15 (SumL.cons z22 (SumL.cons z0t (SumL.cons z12 (SumL.cons z11 (SumL.cons z1m (SumL.cons z19 (SumL.cons z1n (SumL.cons z0m (SumL.cons z0x (SumL.cons z0w (SumL.cons z1a (SumL.cons z13 (SumL.cons z1h (SumL.cons z2i (SumL.cons z08 (SumL.cons z2c (SumL.cons z0e (SumL.cons z2l (SumL.cons z2b (SumL.cons z1t (SumL.cons z06 (SumL.cons z0b (SumL.cons z20 (SumL.cons z24 (SumL.cons z2m (SumL.cons z0y (SumL.cons z1s (SumL.cons z26 (SumL.cons z2y (SumL.cons z2w (SumL.cons z2r (SumL.cons z2z (SumL.cons z1z (SumL.nil))))))))))))))))))))))))))))))))))))))))))
theorem lt34_ok : LpL Try.prog fnTab lt34 := LpL.cons z0i (LpL.cons z0j (LpL.cons z1o (LpL.cons z02 (LpL.cons z04 (LpL.cons z1w (LpL.cons z09 (LpL.cons z0z (LpL.nil))))))))
noncomputable def tb35 : List (Nat × (List PT → Option (Bool × AV × List Blk))) := [(125, z1c), (128, z0h), (134, z0r), (137, z1b), (18, z1i), (48, z16), (54, z1v), (61, z1k), (97, z1u), (102, z2n), (109, z1j), (14, z1p), (51, z1q), (56, z27), (103, z1y), (111, z28), (118, z10), (52, z1g), (119, z1f), (16, z1x), (57, z1l), (19, z21), (62, z2u), (99, z0a), (49, z2q), (99, z0f), (116, z2x), (94, z2p), (98, z29), (117, z07), (117, z0c), (95, z2d), (96, z2k), (50, z2v), (55, z17), (53, z23), (59, z2j), (101, z34), (23, z31), (60, z30), (22, z33), (5, z25)]
noncomputable def lt35 : List ((Nat × Nat) × (Nat → St → Option (Bool × LO))) := [((52, 3), z0o), ((57, 4), z0s), ((62, 5), z2a), ((99, 2), z03), ((99, 2), z05), ((50, 4), z2g), ((99, 2), z0d), ((53, 5), z1d)]
noncomputable def Γ35 : Ctx := ⟨tyTab, fnTab, tblSum tb35, tblLp lt35⟩
theorem tb35_ok : SumL Try.prog tb35 := SumL.cons z0q (SumL.cons z0g (SumL.cons z0k (SumL.cons z0p (SumL.cons z0v (SumL.cons z0n (SumL.cons z14 (SumL.cons z0u (SumL.cons z15 (SumL.cons z22 (SumL.cons z0t (SumL.cons z12 (SumL.cons z11 (SumL.cons z1m (SumL.cons z19 (SumL.cons z1n (SumL.cons z0m (SumL.cons z0x (SumL.cons z0w (SumL.cons z1a (SumL.cons z13 (SumL.cons z1h (SumL.cons z2i (SumL.cons z08 (SumL.cons z2c (SumL.cons z0e (SumL.cons z2l (SumL.cons z2b (SumL.cons z1t (SumL.cons z06 (SumL.cons z0b (SumL.cons z20 (SumL.cons z24 (SumL.cons z2m (SumL.cons z0y (SumL.cons z1s (SumL.cons z26 (SumL.cons z2y (SumL.cons z2w (SumL.cons z2r (SumL.cons z2z (SumL.cons z1z (SumL.nil))))))))))))))))))))))))))))))))))))))))))
theorem lt35_ok : LpL Try.prog fnTab lt35 := LpL.cons z0i (LpL.cons z0j (LpL.cons z1o (LpL.cons z02 (LpL.cons z04 (LpL.cons z1w (LpL.cons z09 (LpL.cons z0z (LpL.nil))))))))
end Go.Proofs.Ytihlcjjbenkokaa
