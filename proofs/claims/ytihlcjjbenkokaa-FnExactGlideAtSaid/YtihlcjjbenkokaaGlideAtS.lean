/-
  What functions answer: that the evaluator answers so. Printed by a program.
-/
import Derived.Test.YtihlcjjbenkokaaGlideAtC
set_option linter.unusedVariables false
set_option linter.unusedSimpArgs false
set_option maxRecDepth 100000
set_option maxHeartbeats 4000000
namespace Go.Proofs.Ytihlcjjbenkokaa
open Go Go.Rf
def z1b : List PT → Option (Bool × AV × List Blk)
  | [.one (.s (.flt .f64 x))] => some (bnot (nanQ .f64 x), A1 (.flt .f64 (fint .down x)), [])
  | _ => none
theorem z0q : SumOne Try.prog 125 z1b := by
  intro pts v news hp w vals hv
  unfold z1b at hp
  split at hp
  · rename_i x
    injection hp with hp
    injection hp with h1 hp
    injection hp with h2 h3
    subst h2
    subst h3
    obtain ⟨l, hl⟩ : ∃ l, l = vals.toList := ⟨_, rfl⟩
    rw [← hl] at hv
    cases hv with
    | cons a1 a2 =>
      cases a2
      obtain ⟨b, hb1, hb2, hb3⟩ := a1
      subst hb1
      rename_i hx
      have hvals : vals = #[.float .f64 b] := by rw [← Array.toList_inj, ← hl]
      subst hvals
      have hn : nanB .f64 b = false := by rw [← nanB_cn, hb3]; simpa [bnot, nanQ] using h1
      rw [cn_of_not hn] at hb3
      subst hb3
      refine .inl ⟨_, w, by (simp only [callFunc, Sem.run_bind, run_program, Result.andThen_ok, Try.func125]; change (do let v ← Extern.MathFloor.toIntegral "math.archFloor" .down #[.float .f64 b]; pure (.value v) : Sem Next).run Try.prog w = _; rw [Sem.run_bind, run_fint hn]; rfl), NoB, ⟨⟨(fun t b' h => by cases t <;> cases h), (fun t t' b1 b2 x x' _ h => by cases t <;> cases h)⟩, (fun t x h => by cases h), Fr.refl _ w⟩, fint_rel hn⟩
  · cases hp
def z0h : List PT → Option (Bool × AV × List Blk)
  | [.one (.s (.int .u64 x))] => some (okU .f64 x, A1 (.flt .f64 (cnI .f64 x)), [])
  | _ => none
theorem z0g : SumOne Try.prog 128 z0h := by
  intro pts v news hp w vals hv
  unfold z0h at hp
  split at hp
  · rename_i x
    injection hp with hp
    injection hp with h1 hp
    injection hp with h2 h3
    subst h2
    subst h3
    obtain ⟨l, hl⟩ : ∃ l, l = vals.toList := ⟨_, rfl⟩
    rw [← hl] at hv
    cases hv with
    | cons a1 a2 =>
      cases a2
      have hb1 : _ = Value.int .u64 x := a1
      subst hb1
      rename_i hx
      have hvals : vals = #[.int .u64 x] := by rw [← Array.toList_inj, ← hl]
      subst hvals
      have hw := okU_lt h1
      refine .inl ⟨_, w, by (simp only [callFunc, Sem.run_bind, run_program, Result.andThen_ok, Try.func128]; rfl), NoB, ⟨⟨(fun t b' h => by cases t <;> cases h), (fun t t' b1 b2 x x' _ h => by cases t <;> cases h)⟩, (fun t x h => by cases h), Fr.refl _ w⟩, ⟨_, rfl, hw, rfl⟩⟩
  · cases hp
def z0r : List PT → Option (Bool × AV × List Blk)
  | [.one (.s (.flt .f64 x))] => some (bnot (nanQ .f64 x), A1 (.int .u64 x), [])
  | _ => none
theorem z0k : SumOne Try.prog 134 z0r := by
  intro pts v news hp w vals hv
  unfold z0r at hp
  split at hp
  · rename_i x
    injection hp with hp
    injection hp with h1 hp
    injection hp with h2 h3
    subst h2
    subst h3
    obtain ⟨l, hl⟩ : ∃ l, l = vals.toList := ⟨_, rfl⟩
    rw [← hl] at hv
    cases hv with
    | cons a1 a2 =>
      cases a2
      obtain ⟨b, hb1, hb2, hb3⟩ := a1
      subst hb1
      rename_i hx
      have hvals : vals = #[.float .f64 b] := by rw [← Array.toList_inj, ← hl]
      subst hvals
      have hn : nanB .f64 b = false := by rw [← nanB_cn, hb3]; simpa [bnot, nanQ] using h1
      rw [cn_of_not hn] at hb3
      subst hb3
      refine .inl ⟨_, w, by (simp only [callFunc, Sem.run_bind, run_program, Result.andThen_ok, Try.func134]; rfl), NoB, ⟨⟨(fun t b' h => by cases t <;> cases h), (fun t t' b1 b2 x x' _ h => by cases t <;> cases h)⟩, (fun t x h => by cases h), Fr.refl _ w⟩, rfl⟩
  · cases hp
def z1c : List PT → Option (Bool × AV × List Blk)
  | [.one (.s (.flt .f64 x))] => some (bnot (nanQ .f64 x), A1 (.flt .f64 (fint .zero x)), [])
  | _ => none
theorem z0p : SumOne Try.prog 137 z1c := by
  intro pts v news hp w vals hv
  unfold z1c at hp
  split at hp
  · rename_i x
    injection hp with hp
    injection hp with h1 hp
    injection hp with h2 h3
    subst h2
    subst h3
    obtain ⟨l, hl⟩ : ∃ l, l = vals.toList := ⟨_, rfl⟩
    rw [← hl] at hv
    cases hv with
    | cons a1 a2 =>
      cases a2
      obtain ⟨b, hb1, hb2, hb3⟩ := a1
      subst hb1
      rename_i hx
      have hvals : vals = #[.float .f64 b] := by rw [← Array.toList_inj, ← hl]
      subst hvals
      have hn : nanB .f64 b = false := by rw [← nanB_cn, hb3]; simpa [bnot, nanQ] using h1
      rw [cn_of_not hn] at hb3
      subst hb3
      refine .inl ⟨_, w, by (simp only [callFunc, Sem.run_bind, run_program, Result.andThen_ok, Try.func137]; change (do let v ← Extern.MathFloor.toIntegral "math.archTrunc" .zero #[.float .f64 b]; pure (.value v) : Sem Next).run Try.prog w = _; rw [Sem.run_bind, run_fint hn]; rfl), NoB, ⟨⟨(fun t b' h => by cases t <;> cases h), (fun t t' b1 b2 x x' _ h => by cases t <;> cases h)⟩, (fun t x h => by cases h), Fr.refl _ w⟩, fint_rel hn⟩
  · cases hp
noncomputable def tb0 : List (Nat × (List PT → Option (Bool × AV × List Blk))) := [(125, z1b), (128, z0h), (134, z0r), (137, z1c)]
noncomputable def lt0 : List ((Nat × Nat) × (Nat → St → Option (Bool × LO))) := []
noncomputable def Γ0 : Ctx := ⟨tyTab, fnTab, tblSum tb0, tblLp lt0⟩
theorem tb0_ok : SumL Try.prog tb0 := SumL.cons z0q (SumL.cons z0g (SumL.cons z0k (SumL.cons z0p (SumL.nil))))
theorem lt0_ok : LpL Try.prog fnTab lt0 := LpL.nil
noncomputable def z1k : List PT → Option (Bool × AV × List Blk)
  | [.one (.s (.flt .f64 a)), .one (.s (.flt .f64 b))] => some ((z80 a b), ((AV.v (TV.one (At.bool (z7d a b)))), []))
  | _ => none
def zbx (a : Nat) (b : Nat) : Option (Bool) → Option (AV × List Blk)
  | some r => some ((AV.v (TV.one (At.bool r))), [])
  | none => none
theorem zev (a : Nat) (b : Nat) : evFn Γ0 8 8 18 (impTs 0 [.one (.s (.flt .f64 a)), .one (.s (.flt .f64 b))]).1 (impTs 0 [.one (.s (.flt .f64 a)), .one (.s (.flt .f64 b))]).2 (expo (impTs 0 [.one (.s (.flt .f64 a)), .one (.s (.flt .f64 b))]).2.length) = z6t a b (fun c0_ => some ((AV.v (TV.one (At.bool c0_))), [])) := by kernel_rfl
theorem z0v : SumOne Try.prog 18 z1k := sum_of (Γ := Γ0) (fuel := 8) (d := 8) tyTab_ok (FnL.ok fnTab_ok _ _) (LpL.ok lt0_ok) (SumL.ok tb0_ok _) mixed (by
  intro pts v news hp hc
  clear hc
  unfold z1k at hp
  split at hp
  · rename_i a b
    exact Eq.trans (Eq.trans (zev a b) (zdd (zbx a b) rfl a b (fun c0_ => some c0_))) (fin_out (o := (zbx a b)) (x := z6n a b) (d := default) (V := fun r => ((AV.v (TV.one (At.bool r))), [])) (fun r => rfl) hp)
  · cases hp)
noncomputable def z16 : List PT → Option (Bool × AV × List Blk)
  | [.one (.row 1 a_n (.fl .f32 a)), .one (.s (.int .i64 q0x))] => some ((z6b a_n a q0x), ((AV.v (TV.one (At.int IntKind.i64 (z3m a_n a q0x)))), []))
  | _ => none
def zbo (a_n : Nat) (a : List Nat) (q0x : Int) : Option (Int) → Option (AV × List Blk)
  | some r => some ((AV.v (TV.one (At.int IntKind.i64 r))), [])
  | none => none
theorem zel (a_n : Nat) (a : List Nat) (q0x : Int) : evFn Γ0 8 8 48 (impTs 0 [.one (.row 1 a_n (.fl .f32 a)), .one (.s (.int .i64 q0x))]).1 (impTs 0 [.one (.row 1 a_n (.fl .f32 a)), .one (.s (.int .i64 q0x))]).2 (expo (impTs 0 [.one (.row 1 a_n (.fl .f32 a)), .one (.s (.int .i64 q0x))]).2.length) = z69 a_n a q0x (fun c0_ => some ((AV.v (TV.one (At.int IntKind.i64 c0_))), [])) := by kernel_rfl
theorem z0o : SumOne Try.prog 48 z16 := sum_of (Γ := Γ0) (fuel := 8) (d := 8) tyTab_ok (FnL.ok fnTab_ok _ _) (LpL.ok lt0_ok) (SumL.ok tb0_ok _) mixed (by
  intro pts v news hp hc
  clear hc
  unfold z16 at hp
  split at hp
  · rename_i a_n a q0x
    exact Eq.trans (Eq.trans (zel a_n a q0x) (zco (zbo a_n a q0x) rfl a_n a q0x (fun c0_ => some c0_))) (fin_out (o := (zbo a_n a q0x)) (x := z62 a_n a q0x) (d := default) (V := fun r => ((AV.v (TV.one (At.int IntKind.i64 r))), [])) (fun r => rfl) hp)
  · cases hp)
noncomputable def z1v : List PT → Option (Bool × AV × List Blk)
  | [.one (.s (.flt .f32 x))] => some ((z5b x), ((AV.v (TV.one (At.bool (z52 x)))), []))
  | _ => none
def zc8 (x : Nat) : Option (Bool) → Option (AV × List Blk)
  | some r => some ((AV.v (TV.one (At.bool r))), [])
  | none => none
theorem zfa (x : Nat) : evFn Γ0 8 8 54 (impTs 0 [.one (.s (.flt .f32 x))]).1 (impTs 0 [.one (.s (.flt .f32 x))]).2 (expo (impTs 0 [.one (.s (.flt .f32 x))]).2.length) = z8l x (fun c0_ => some ((AV.v (TV.one (At.bool c0_))), [])) := by kernel_rfl
theorem z14 : SumOne Try.prog 54 z1v := sum_of (Γ := Γ0) (fuel := 8) (d := 8) tyTab_ok (FnL.ok fnTab_ok _ _) (LpL.ok lt0_ok) (SumL.ok tb0_ok _) mixed (by
  intro pts v news hp hc
  clear hc
  unfold z1v at hp
  split at hp
  · rename_i x
    exact Eq.trans (Eq.trans (zfa x) (zdl (zc8 x) rfl x (fun c0_ => some c0_))) (fin_out (o := (zc8 x)) (x := z8m x) (d := default) (V := fun r => ((AV.v (TV.one (At.bool r))), [])) (fun r => rfl) hp)
  · cases hp)
noncomputable def z1h : List PT → Option (Bool × AV × List Blk)
  | [.one (.s (.flt .f32 x))] => some ((z4b x), ((AV.v (TV.one (At.bool (z44 x)))), []))
  | _ => none
def zbz (x : Nat) : Option (Bool) → Option (AV × List Blk)
  | some r => some ((AV.v (TV.one (At.bool r))), [])
  | none => none
theorem zew (x : Nat) : evFn Γ0 8 8 61 (impTs 0 [.one (.s (.flt .f32 x))]).1 (impTs 0 [.one (.s (.flt .f32 x))]).2 (expo (impTs 0 [.one (.s (.flt .f32 x))]).2.length) = z7y x (fun c0_ => some ((AV.v (TV.one (At.bool c0_))), [])) := by kernel_rfl
theorem z0t : SumOne Try.prog 61 z1h := sum_of (Γ := Γ0) (fuel := 8) (d := 8) tyTab_ok (FnL.ok fnTab_ok _ _) (LpL.ok lt0_ok) (SumL.ok tb0_ok _) mixed (by
  intro pts v news hp hc
  clear hc
  unfold z1h at hp
  split at hp
  · rename_i x
    exact Eq.trans (Eq.trans (zew x) (zda (zbz x) rfl x (fun c0_ => some c0_))) (fin_out (o := (zbz x)) (x := z81 x) (d := default) (V := fun r => ((AV.v (TV.one (At.bool r))), [])) (fun r => rfl) hp)
  · cases hp)
noncomputable def z1w : List PT → Option (Bool × AV × List Blk)
  | [.one (.s (.flt .f32 x)), .one (.s (.flt .f32 low)), .one (.s (.flt .f32 q15))] => some ((za7 x low q15), ((AV.v (TV.one (At.bool (z9w x low q15)))), []))
  | _ => none
def zc9 (x : Nat) (low : Nat) (q15 : Nat) : Option (Bool) → Option (AV × List Blk)
  | some r => some ((AV.v (TV.one (At.bool r))), [])
  | none => none
theorem zfb (x : Nat) (low : Nat) (q15 : Nat) : evFn Γ0 8 8 97 (impTs 0 [.one (.s (.flt .f32 x)), .one (.s (.flt .f32 low)), .one (.s (.flt .f32 q15))]).1 (impTs 0 [.one (.s (.flt .f32 x)), .one (.s (.flt .f32 low)), .one (.s (.flt .f32 q15))]).2 (expo (impTs 0 [.one (.s (.flt .f32 x)), .one (.s (.flt .f32 low)), .one (.s (.flt .f32 q15))]).2.length) = z71 x low q15 (fun c0_ => some ((AV.v (TV.one (At.bool c0_))), [])) := by kernel_rfl
theorem z15 : SumOne Try.prog 97 z1w := sum_of (Γ := Γ0) (fuel := 8) (d := 8) tyTab_ok (FnL.ok fnTab_ok _ _) (LpL.ok lt0_ok) (SumL.ok tb0_ok _) mixed (by
  intro pts v news hp hc
  clear hc
  unfold z1w at hp
  split at hp
  · rename_i x low q15
    exact Eq.trans (Eq.trans (zfb x low q15) (zdk (zc9 x low q15) rfl x low q15 (fun c0_ => some c0_))) (fin_out (o := (zc9 x low q15)) (x := z6z x low q15) (d := default) (V := fun r => ((AV.v (TV.one (At.bool r))), [])) (fun r => rfl) hp)
  · cases hp)
noncomputable def z2n : List PT → Option (Bool × AV × List Blk)
  | [.one (.s (.flt .f32 a)), .one (.s (.flt .f32 b)), .one (.s (.flt .f32 q14))] => some ((zak a b q14), ((AV.v (TV.one (At.flt FloatKind.f32 (za1 a b q14)))), []))
  | _ => none
def zdv (a : Nat) (b : Nat) (q14 : Nat) : Option (Nat) → Option (AV × List Blk)
  | some r => some ((AV.v (TV.one (At.flt FloatKind.f32 r))), [])
  | none => none
theorem zg0 (a : Nat) (b : Nat) (q14 : Nat) : evFn Γ0 8 8 102 (impTs 0 [.one (.s (.flt .f32 a)), .one (.s (.flt .f32 b)), .one (.s (.flt .f32 q14))]).1 (impTs 0 [.one (.s (.flt .f32 a)), .one (.s (.flt .f32 b)), .one (.s (.flt .f32 q14))]).2 (expo (impTs 0 [.one (.s (.flt .f32 a)), .one (.s (.flt .f32 b)), .one (.s (.flt .f32 q14))]).2.length) = zac a b q14 (fun c0_ => some ((AV.v (TV.one (At.flt FloatKind.f32 c0_))), [])) := by kernel_rfl
theorem z23 : SumOne Try.prog 102 z2n := sum_of (Γ := Γ0) (fuel := 8) (d := 8) tyTab_ok (FnL.ok fnTab_ok _ _) (LpL.ok lt0_ok) (SumL.ok tb0_ok _) mixed (by
  intro pts v news hp hc
  clear hc
  unfold z2n at hp
  split at hp
  · rename_i a b q14
    exact Eq.trans (Eq.trans (zg0 a b q14) (zet (zdv a b q14) rfl a b q14 (fun c0_ => some c0_))) (fin_out (o := (zdv a b q14)) (x := zah a b q14) (d := default) (V := fun r => ((AV.v (TV.one (At.flt FloatKind.f32 r))), [])) (fun r => rfl) hp)
  · cases hp)
noncomputable def z1i : List PT → Option (Bool × AV × List Blk)
  | [.one (.s (.flt .f64 x))] => some ((z9s x), ((AV.v (TV.one (At.flt FloatKind.f32 (z79 x)))), []))
  | _ => none
def zbw (x : Nat) : Option (Nat) → Option (AV × List Blk)
  | some r => some ((AV.v (TV.one (At.flt FloatKind.f32 r))), [])
  | none => none
theorem zes (x : Nat) : evFn Γ0 8 8 109 (impTs 0 [.one (.s (.flt .f64 x))]).1 (impTs 0 [.one (.s (.flt .f64 x))]).2 (expo (impTs 0 [.one (.s (.flt .f64 x))]).2.length) = z6v x (fun c0_ => some ((AV.v (TV.one (At.flt FloatKind.f32 c0_))), [])) := by kernel_rfl
theorem z0u : SumOne Try.prog 109 z1i := sum_of (Γ := Γ0) (fuel := 8) (d := 8) tyTab_ok (FnL.ok fnTab_ok _ _) (LpL.ok lt0_ok) (SumL.ok tb0_ok _) mixed (by
  intro pts v news hp hc
  clear hc
  unfold z1i at hp
  split at hp
  · rename_i x
    exact Eq.trans (Eq.trans (zes x) (zdc (zbw x) rfl x (fun c0_ => some c0_))) (fin_out (o := (zbw x)) (x := z6r x) (d := default) (V := fun r => ((AV.v (TV.one (At.flt FloatKind.f32 r))), [])) (fun r => rfl) hp)
  · cases hp)
noncomputable def tb1 : List (Nat × (List PT → Option (Bool × AV × List Blk))) := [(125, z1b), (128, z0h), (134, z0r), (137, z1c), (18, z1k), (48, z16), (54, z1v), (61, z1h), (97, z1w), (102, z2n), (109, z1i)]
noncomputable def lt1 : List ((Nat × Nat) × (Nat → St → Option (Bool × LO))) := []
noncomputable def Γ1 : Ctx := ⟨tyTab, fnTab, tblSum tb1, tblLp lt1⟩
theorem tb1_ok : SumL Try.prog tb1 := SumL.cons z0q (SumL.cons z0g (SumL.cons z0k (SumL.cons z0p (SumL.cons z0v (SumL.cons z0o (SumL.cons z14 (SumL.cons z0t (SumL.cons z15 (SumL.cons z23 (SumL.cons z0u (SumL.nil)))))))))))
theorem lt1_ok : LpL Try.prog fnTab lt1 := LpL.nil
noncomputable def z1q : List PT → Option (Bool × AV × List Blk)
  | [.agg [.row 1 q0g (.fl .f32 q0n), .row 1 q0i (.fl .f32 q0o), .row 1 q0l (.fl .f32 q0p)], .one (.s (.int .i64 q0x))] => some ((z7x q0g q0n q0i q0o q0l q0p q0x), ((AV.v (TV.one (At.int IntKind.i64 (z7c q0g q0n q0i q0o q0l q0p q0x)))), []))
  | _ => none
def zbq (q0g : Nat) (q0n : List Nat) (q0i : Nat) (q0o : List Nat) (q0l : Nat) (q0p : List Nat) (q0x : Int) : Option (Int) → Option (AV × List Blk)
  | some r => some ((AV.v (TV.one (At.int IntKind.i64 r))), [])
  | none => none
theorem zep (q0g : Nat) (q0n : List Nat) (q0i : Nat) (q0o : List Nat) (q0l : Nat) (q0p : List Nat) (q0x : Int) : evFn Γ1 8 8 14 (impTs 0 [.agg [.row 1 q0g (.fl .f32 q0n), .row 1 q0i (.fl .f32 q0o), .row 1 q0l (.fl .f32 q0p)], .one (.s (.int .i64 q0x))]).1 (impTs 0 [.agg [.row 1 q0g (.fl .f32 q0n), .row 1 q0i (.fl .f32 q0o), .row 1 q0l (.fl .f32 q0p)], .one (.s (.int .i64 q0x))]).2 (expo (impTs 0 [.agg [.row 1 q0g (.fl .f32 q0n), .row 1 q0i (.fl .f32 q0o), .row 1 q0l (.fl .f32 q0p)], .one (.s (.int .i64 q0x))]).2.length) = z6u q0g q0n q0i q0o q0l q0p q0x (fun c0_ => some ((AV.v (TV.one (At.int IntKind.i64 c0_))), [])) := by kernel_rfl
theorem z12 : SumOne Try.prog 14 z1q := sum_of (Γ := Γ1) (fuel := 8) (d := 8) tyTab_ok (FnL.ok fnTab_ok _ _) (LpL.ok lt1_ok) (SumL.ok tb1_ok _) mixed (by
  intro pts v news hp hc
  clear hc
  unfold z1q at hp
  split at hp
  · rename_i q0g q0n q0i q0o q0l q0p q0x
    exact Eq.trans (Eq.trans (zep q0g q0n q0i q0o q0l q0p q0x) (zd6 (zbq q0g q0n q0i q0o q0l q0p q0x) rfl q0g q0n q0i q0o q0l q0p q0x (fun c0_ => some c0_))) (fin_out (o := (zbq q0g q0n q0i q0o q0l q0p q0x)) (x := z6h q0g q0n q0i q0o q0l q0p q0x) (d := default) (V := fun r => ((AV.v (TV.one (At.int IntKind.i64 r))), [])) (fun r => rfl) hp)
  · cases hp)
noncomputable def z1p : List PT → Option (Bool × AV × List Blk)
  | [.one (.s (.flt .f32 x))] => some ((z9y x), ((AV.tup [(TV.one (At.flt FloatKind.f32 (z96 x))), (TV.one (At.bool (z94 x)))]), []))
  | _ => none
def zc1 (x : Nat) : Option (Nat × Bool) → Option (AV × List Blk)
  | some r => some ((AV.tup [(TV.one (At.flt FloatKind.f32 r.1)), (TV.one (At.bool r.2))]), [])
  | none => none
theorem zf1 (x : Nat) : evFn Γ1 8 8 51 (impTs 0 [.one (.s (.flt .f32 x))]).1 (impTs 0 [.one (.s (.flt .f32 x))]).2 (expo (impTs 0 [.one (.s (.flt .f32 x))]).2.length) = z6j x (fun c0_ c1_ => some ((AV.tup [(TV.one (At.flt FloatKind.f32 c0_)), (TV.one (At.bool c1_))]), [])) := by kernel_rfl
theorem z11 : SumOne Try.prog 51 z1p := sum_of (Γ := Γ1) (fuel := 8) (d := 8) tyTab_ok (FnL.ok fnTab_ok _ _) (LpL.ok lt1_ok) (SumL.ok tb1_ok _) mixed (by
  intro pts v news hp hc
  clear hc
  unfold z1p at hp
  split at hp
  · rename_i x
    exact Eq.trans (Eq.trans (zf1 x) (zd8 (zc1 x) rfl x (fun c0_ c1_ => some (c0_, c1_)))) (fin_out (o := (zc1 x)) (x := z5k x) (d := default) (V := fun r => ((AV.tup [(TV.one (At.flt FloatKind.f32 r.1)), (TV.one (At.bool r.2))]), [])) (fun r => rfl) hp)
  · cases hp)
noncomputable def z28 : List PT → Option (Bool × AV × List Blk)
  | [.one (.s (.flt .f32 x))] => some ((z7v x), ((AV.tup [(TV.one (At.flt FloatKind.f32 (z6y x))), (TV.one (At.bool (z72 x)))]), []))
  | _ => none
def zck (x : Nat) : Option (Nat × Bool) → Option (AV × List Blk)
  | some r => some ((AV.tup [(TV.one (At.flt FloatKind.f32 r.1)), (TV.one (At.bool r.2))]), [])
  | none => none
theorem zfk (x : Nat) : evFn Γ1 8 8 56 (impTs 0 [.one (.s (.flt .f32 x))]).1 (impTs 0 [.one (.s (.flt .f32 x))]).2 (expo (impTs 0 [.one (.s (.flt .f32 x))]).2.length) = z7u x (fun c0_ c1_ => some ((AV.tup [(TV.one (At.flt FloatKind.f32 c0_)), (TV.one (At.bool c1_))]), [])) := by kernel_rfl
theorem z1m : SumOne Try.prog 56 z28 := sum_of (Γ := Γ1) (fuel := 8) (d := 8) tyTab_ok (FnL.ok fnTab_ok _ _) (LpL.ok lt1_ok) (SumL.ok tb1_ok _) mixed (by
  intro pts v news hp hc
  clear hc
  unfold z28 at hp
  split at hp
  · rename_i x
    exact Eq.trans (Eq.trans (zfk x) (zdw (zck x) rfl x (fun c0_ c1_ => some (c0_, c1_)))) (fin_out (o := (zck x)) (x := z6m x) (d := default) (V := fun r => ((AV.tup [(TV.one (At.flt FloatKind.f32 r.1)), (TV.one (At.bool r.2))]), [])) (fun r => rfl) hp)
  · cases hp)
noncomputable def z1z : List PT → Option (Bool × AV × List Blk)
  | [.one (.s (.flt .f32 x))] => some ((z5x x), ((AV.v (TV.one (At.bool (z5l x)))), []))
  | _ => none
def zc7 (x : Nat) : Option (Bool) → Option (AV × List Blk)
  | some r => some ((AV.v (TV.one (At.bool r))), [])
  | none => none
theorem zf6 (x : Nat) : evFn Γ1 8 8 103 (impTs 0 [.one (.s (.flt .f32 x))]).1 (impTs 0 [.one (.s (.flt .f32 x))]).2 (expo (impTs 0 [.one (.s (.flt .f32 x))]).2.length) = z74 x (fun c0_ => some ((AV.v (TV.one (At.bool c0_))), [])) := by kernel_rfl
theorem z18 : SumOne Try.prog 103 z1z := sum_of (Γ := Γ1) (fuel := 8) (d := 8) tyTab_ok (FnL.ok fnTab_ok _ _) (LpL.ok lt1_ok) (SumL.ok tb1_ok _) mixed (by
  intro pts v news hp hc
  clear hc
  unfold z1z at hp
  split at hp
  · rename_i x
    exact Eq.trans (Eq.trans (zf6 x) (zdo (zc7 x) rfl x (fun c0_ => some c0_))) (fin_out (o := (zc7 x)) (x := z75 x) (d := default) (V := fun r => ((AV.v (TV.one (At.bool r))), [])) (fun r => rfl) hp)
  · cases hp)
noncomputable def z27 : List PT → Option (Bool × AV × List Blk)
  | [.one (.s (.flt .f32 x))] => some ((zaw x), ((AV.v (TV.one (At.bool (za6 x)))), []))
  | _ => none
def zcu (x : Nat) : Option (Bool) → Option (AV × List Blk)
  | some r => some ((AV.v (TV.one (At.bool r))), [])
  | none => none
theorem zfl (x : Nat) : evFn Γ1 8 8 111 (impTs 0 [.one (.s (.flt .f32 x))]).1 (impTs 0 [.one (.s (.flt .f32 x))]).2 (expo (impTs 0 [.one (.s (.flt .f32 x))]).2.length) = z7i x (fun c0_ => some ((AV.v (TV.one (At.bool c0_))), [])) := by kernel_rfl
theorem z1n : SumOne Try.prog 111 z27 := sum_of (Γ := Γ1) (fuel := 8) (d := 8) tyTab_ok (FnL.ok fnTab_ok _ _) (LpL.ok lt1_ok) (SumL.ok tb1_ok _) mixed (by
  intro pts v news hp hc
  clear hc
  unfold z27 at hp
  split at hp
  · rename_i x
    exact Eq.trans (Eq.trans (zfl x) (zdq (zcu x) rfl x (fun c0_ => some c0_))) (fin_out (o := (zcu x)) (x := z7s x) (d := default) (V := fun r => ((AV.v (TV.one (At.bool r))), [])) (fun r => rfl) hp)
  · cases hp)
noncomputable def z10 : List PT → Option (Bool × AV × List Blk)
  | [.one (.s (.flt .f32 x))] => some ((z8o x), ((AV.v (TV.one (At.bool (z83 x)))), []))
  | _ => none
def zbe (x : Nat) : Option (Bool) → Option (AV × List Blk)
  | some r => some ((AV.v (TV.one (At.bool r))), [])
  | none => none
theorem zdt (x : Nat) : evFn Γ1 8 8 118 (impTs 0 [.one (.s (.flt .f32 x))]).1 (impTs 0 [.one (.s (.flt .f32 x))]).2 (expo (impTs 0 [.one (.s (.flt .f32 x))]).2.length) = z5s x (fun c0_ => some ((AV.v (TV.one (At.bool c0_))), [])) := by kernel_rfl
theorem z0m : SumOne Try.prog 118 z10 := sum_of (Γ := Γ1) (fuel := 8) (d := 8) tyTab_ok (FnL.ok fnTab_ok _ _) (LpL.ok lt1_ok) (SumL.ok tb1_ok _) mixed (by
  intro pts v news hp hc
  clear hc
  unfold z10 at hp
  split at hp
  · rename_i x
    exact Eq.trans (Eq.trans (zdt x) (zca (zbe x) rfl x (fun c0_ => some c0_))) (fin_out (o := (zbe x)) (x := z5r x) (d := default) (V := fun r => ((AV.v (TV.one (At.bool r))), [])) (fun r => rfl) hp)
  · cases hp)
noncomputable def zb0 (an : Nat) (q13 : Nat) (i : Int) (b0 : List Nat) (b1 : List Nat) : Bool × LO := ((z5y an q13 b0 i b1), (LO.one (Ex.exit 0) (St.mk [(0, (AV.v (TV.one (At.vw 0 0 an 1)))), (3, (AV.v (TV.one (At.sl 1 0 q13 1)))), (4, (AV.v (TV.one (At.int IntKind.i64 (z89 an q13 b0 i b1))))), (11, (AV.v (TV.one (At.bool (z87 an q13 b0 i b1)))))] [(Blk.mk Bool.false (Body.fl FloatKind.f32 b0)), (Blk.mk Bool.true (Body.fl FloatKind.f32 (z56 an q13 b0 i b1)))])))
noncomputable def z0n : Nat → St → Option (Bool × LO) := lpT 1 (pSt [(pTm 0 (pV (pOne (pVw 0 (liN 0) 1)))), (pTm 3 (pV (pOne (pSl 1 (liN 0) 1)))), (pTm 4 (pV (pOne (pInt IntKind.i64))))] [(pBlk Bool.false (pFl FloatKind.f32)), (pBlk Bool.true (pFl FloatKind.f32))]) (fun hs => zb0 (hvN (hGet hs 0)) (hvN (hGet hs 1)) (hvI (hGet hs 2)) (hvLn (hGet hs 3)) (hvLn (hGet hs 4)))
def z7g (an : Nat) (q13 : Nat) (b0 : List Nat) : Option ((Int × Bool × (List Nat))) → Option (Ex × St)
  | none => none
  | some r => some ((Ex.exit 0), (St.mk [(0, (AV.v (TV.one (At.vw 0 0 an 1)))), (3, (AV.v (TV.one (At.sl 1 0 q13 1)))), (4, (AV.v (TV.one (At.int IntKind.i64 r.1)))), (11, (AV.v (TV.one (At.bool r.2.1))))] [(Blk.mk Bool.false (Body.fl FloatKind.f32 b0)), (Blk.mk Bool.true (Body.fl FloatKind.f32 r.2.2))]))
def zcq (an : Nat) (q13 : Nat) (b0 : List Nat) (x : Option ((Int × Bool × (List Nat)))) : LO := (LO.one (Ex.exit 0) (St.mk [(0, (AV.v (TV.one (At.vw 0 0 an 1)))), (3, (AV.v (TV.one (At.sl 1 0 q13 1)))), (4, (AV.v (TV.one (At.int IntKind.i64 (x.getD default).1)))), (11, (AV.v (TV.one (At.bool (x.getD default).2.1))))] [(Blk.mk Bool.false (Body.fl FloatKind.f32 b0)), (Blk.mk Bool.true (Body.fl FloatKind.f32 (x.getD default).2.2))]))
theorem zd3 (an : Nat) (q13 : Nat) (b0 : List Nat) : ∀ x : Option ((Int × Bool × (List Nat))), x.isSome = true → (z7g an q13 b0) x = some (pick (zcq an q13 b0 x))
  | none, h => by cases h
  | some r, _ => rfl
theorem zd4 (an : Nat) (q13 : Nat) (i : Int) (b0 : List Nat) (b1 : List Nat) (K : Ex → St → Option (Ex × St)) : evC (R := Ex × St) Γ1 (evFn Γ1 8 8) 52 1 fi52.nt fi52.live fi52.nl 8 (findL 3 (loopsIn fi52.code)) (St.mk [(0, (AV.v (TV.one (At.vw 0 0 an 1)))), (3, (AV.v (TV.one (At.sl 1 0 q13 1)))), (4, (AV.v (TV.one (At.int IntKind.i64 i))))] [(Blk.mk Bool.false (Body.fl FloatKind.f32 b0)), (Blk.mk Bool.true (Body.fl FloatKind.f32 b1))]) K = z4e an q13 b0 i b1 (fun i' b1' => K .normal (St.mk [(0, (AV.v (TV.one (At.vw 0 0 an 1)))), (3, (AV.v (TV.one (At.sl 1 0 q13 1)))), (4, (AV.v (TV.one (At.int IntKind.i64 i'))))] [(Blk.mk Bool.false (Body.fl FloatKind.f32 b0)), (Blk.mk Bool.true (Body.fl FloatKind.f32 b1'))])) (fun c0_ c1_ c2_ => K (Ex.exit 0) (St.mk [(0, (AV.v (TV.one (At.vw 0 0 an 1)))), (3, (AV.v (TV.one (At.sl 1 0 q13 1)))), (4, (AV.v (TV.one (At.int IntKind.i64 c0_)))), (11, (AV.v (TV.one (At.bool c1_))))] [(Blk.mk Bool.false (Body.fl FloatKind.f32 b0)), (Blk.mk Bool.true (Body.fl FloatKind.f32 c2_))])) := by kernel_rfl
theorem zd5 (an : Nat) (q13 : Nat) (b0 : List Nat) : ∀ (n : Nat) (i : Int) (b1 : List Nat), iter 52 3 1 (evC (R := Ex × St) Γ1 (evFn Γ1 8 8) 52 1 fi52.nt fi52.live fi52.nl 8 (findL 3 (loopsIn fi52.code))) n (St.mk [(0, (AV.v (TV.one (At.vw 0 0 an 1)))), (3, (AV.v (TV.one (At.sl 1 0 q13 1)))), (4, (AV.v (TV.one (At.int IntKind.i64 i))))] [(Blk.mk Bool.false (Body.fl FloatKind.f32 b0)), (Blk.mk Bool.true (Body.fl FloatKind.f32 b1))]) (fun e st => some (e, st)) = (z7g an q13 b0) (z3x an q13 b0 n i b1) := by
  intro n
  induction n with
  | zero => intros; rfl
  | succ n ih =>
    intro i b1
    refine Eq.trans (iter_succ ..) (Eq.trans (zd4 an q13 i b0 b1 (nextK 52 3 1 (evC (R := Ex × St) Γ1 (evFn Γ1 8 8) 52 1 fi52.nt fi52.live fi52.nl 8 (findL 3 (loopsIn fi52.code))) n (fun e st => some (e, st)))) (Eq.trans ?_ (zby (z7g an q13 b0) rfl an q13 b0 i b1 (fun i' b1' => z3x an q13 b0 n i' b1') (fun c0_ c1_ c2_ => some (c0_, c1_, c2_)))))
    exact congrArg (fun kn_ => z4e an q13 b0 i b1 kn_ (fun c0_ c1_ c2_ => (z7g an q13 b0) (some (c0_, c1_, c2_)))) (funext fun i' => funext fun b1' => ih i' b1')
theorem z0i : LoopOne Try.prog fnTab 52 3 z0n := lp_of (Γ := Γ1) tyTab_ok (FnL.ok fnTab_ok _ _) (LpL.ok lt1_ok) (SumL.ok tb1_ok _) mixed (fi := fi52) (by kernel_rfl) (by kernel_rfl) (by
  intro lo st out hp
  obtain ⟨hs, e1, e2, e3⟩ := lpT_inv hp
  clear hp
  obtain rfl : st = (St.mk [(0, (AV.v (TV.one (At.vw 0 0 (hvN (hGet hs 0)) 1)))), (3, (AV.v (TV.one (At.sl 1 0 (hvN (hGet hs 1)) 1)))), (4, (AV.v (TV.one (At.int IntKind.i64 (hvI (hGet hs 2))))))] [(Blk.mk Bool.false (Body.fl FloatKind.f32 (hvLn (hGet hs 3)))), (Blk.mk Bool.true (Body.fl FloatKind.f32 (hvLn (hGet hs 4))))]) := e2.trans (by kernel_rfl)
  clear e2
  subst e1
  unfold zb0 at e3
  injection e3 with h1 h2
  subst h2
  exact ⟨8, 8, big, Eq.trans (zd5 (hvN (hGet hs 0)) (hvN (hGet hs 1)) (hvLn (hGet hs 3)) big (hvI (hGet hs 2)) (hvLn (hGet hs 4))) (zd3 (hvN (hGet hs 0)) (hvN (hGet hs 1)) (hvLn (hGet hs 3)) (z3x (hvN (hGet hs 0)) (hvN (hGet hs 1)) (hvLn (hGet hs 3)) big (hvI (hGet hs 2)) (hvLn (hGet hs 4))) h1)⟩)
noncomputable def tb2 : List (Nat × (List PT → Option (Bool × AV × List Blk))) := [(125, z1b), (128, z0h), (134, z0r), (137, z1c), (18, z1k), (48, z16), (54, z1v), (61, z1h), (97, z1w), (102, z2n), (109, z1i), (14, z1q), (51, z1p), (56, z28), (103, z1z), (111, z27), (118, z10)]
noncomputable def lt2 : List ((Nat × Nat) × (Nat → St → Option (Bool × LO))) := [((52, 3), z0n)]
noncomputable def Γ2 : Ctx := ⟨tyTab, fnTab, tblSum tb2, tblLp lt2⟩
theorem tb2_ok : SumL Try.prog tb2 := SumL.cons z0q (SumL.cons z0g (SumL.cons z0k (SumL.cons z0p (SumL.cons z0v (SumL.cons z0o (SumL.cons z14 (SumL.cons z0t (SumL.cons z15 (SumL.cons z23 (SumL.cons z0u (SumL.cons z12 (SumL.cons z11 (SumL.cons z1m (SumL.cons z18 (SumL.cons z1n (SumL.cons z0m (SumL.nil)))))))))))))))))
theorem lt2_ok : LpL Try.prog fnTab lt2 := LpL.cons z0i (LpL.nil)
noncomputable def z1g : List PT → Option (Bool × AV × List Blk)
  | [.one (.row 1 a_n (.fl .f32 a))] => some ((z6a a_n a), ((AV.v (TV.one (At.sl 0 0 (z5q a_n a) 1))), [(Blk.mk Bool.true (Body.fl FloatKind.f32 (z5n a_n a)))]))
  | _ => none
def zbk (a_n : Nat) (a : List Nat) : Option (Nat × (List Nat)) → Option (AV × List Blk)
  | some r => some ((AV.v (TV.one (At.sl 0 0 r.1 1))), [(Blk.mk Bool.true (Body.fl FloatKind.f32 r.2))])
  | none => none
theorem zec (a_n : Nat) (a : List Nat) : evFn Γ2 8 8 52 (impTs 0 [.one (.row 1 a_n (.fl .f32 a))]).1 (impTs 0 [.one (.row 1 a_n (.fl .f32 a))]).2 (expo (impTs 0 [.one (.row 1 a_n (.fl .f32 a))]).2.length) = z60 a_n a (fun c0_ c1_ => some ((AV.v (TV.one (At.sl 0 0 c0_ 1))), [(Blk.mk Bool.true (Body.fl FloatKind.f32 c1_))])) := by kernel_rfl
theorem z0x : SumOne Try.prog 52 z1g := sum_of (Γ := Γ2) (fuel := 8) (d := 8) tyTab_ok (FnL.ok fnTab_ok _ _) (LpL.ok lt2_ok) (SumL.ok tb2_ok _) mixed (by
  intro pts v news hp hc
  clear hc
  unfold z1g at hp
  split at hp
  · rename_i a_n a
    exact Eq.trans (Eq.trans (zec a_n a) (zcl (zbk a_n a) rfl a_n a (fun c0_ c1_ => some (c0_, c1_)))) (fin_out (o := (zbk a_n a)) (x := z59 a_n a) (d := default) (V := fun r => ((AV.v (TV.one (At.sl 0 0 r.1 1))), [(Blk.mk Bool.true (Body.fl FloatKind.f32 r.2))])) (fun r => rfl) hp)
  · cases hp)
noncomputable def z1f : List PT → Option (Bool × AV × List Blk)
  | [.one (.s (.flt .f32 x))] => some ((z97 x), ((AV.v (TV.one (At.bool (z8n x)))), []))
  | _ => none
def zbn (x : Nat) : Option (Bool) → Option (AV × List Blk)
  | some r => some ((AV.v (TV.one (At.bool r))), [])
  | none => none
theorem zef (x : Nat) : evFn Γ2 8 8 119 (impTs 0 [.one (.s (.flt .f32 x))]).1 (impTs 0 [.one (.s (.flt .f32 x))]).2 (expo (impTs 0 [.one (.s (.flt .f32 x))]).2.length) = z63 x (fun c0_ => some ((AV.v (TV.one (At.bool c0_))), [])) := by kernel_rfl
theorem z0w : SumOne Try.prog 119 z1f := sum_of (Γ := Γ2) (fuel := 8) (d := 8) tyTab_ok (FnL.ok fnTab_ok _ _) (LpL.ok lt2_ok) (SumL.ok tb2_ok _) mixed (by
  intro pts v news hp hc
  clear hc
  unfold z1f at hp
  split at hp
  · rename_i x
    exact Eq.trans (Eq.trans (zef x) (zct (zbn x) rfl x (fun c0_ => some c0_))) (fin_out (o := (zbn x)) (x := z67 x) (d := default) (V := fun r => ((AV.v (TV.one (At.bool r))), [])) (fun r => rfl) hp)
  · cases hp)
noncomputable def zax (an : Nat) (bn : Nat) (i : Int) (b0 : List Nat) (b1 : List Nat) : Bool × LO := ((z7f an bn b0 b1 i), (LO.two (z76 an bn b0 b1 i) (LO.one Ex.ret (St.mk [(4, (AV.v (TV.one (At.bool Bool.false))))] [(Blk.mk Bool.false (Body.fl FloatKind.f32 b0)), (Blk.mk Bool.false (Body.fl FloatKind.f32 b1))])) (LO.one (Ex.exit 0) (St.mk [(0, (AV.v (TV.one (At.vw 0 0 an 1)))), (1, (AV.v (TV.one (At.vw 1 0 bn 1)))), (5, (AV.v (TV.one (At.int IntKind.i64 (z88 an bn b0 b1 i))))), (14, (AV.v (TV.one (At.bool (z8b an bn b0 b1 i)))))] [(Blk.mk Bool.false (Body.fl FloatKind.f32 b0)), (Blk.mk Bool.false (Body.fl FloatKind.f32 b1))]))))
noncomputable def z0s : Nat → St → Option (Bool × LO) := lpT 2 (pSt [(pTm 0 (pV (pOne (pVw 0 (liN 0) 1)))), (pTm 1 (pV (pOne (pVw 1 (liN 0) 1)))), (pTm 5 (pV (pOne (pInt IntKind.i64))))] [(pBlk Bool.false (pFl FloatKind.f32)), (pBlk Bool.false (pFl FloatKind.f32))]) (fun hs => zax (hvN (hGet hs 0)) (hvN (hGet hs 1)) (hvI (hGet hs 2)) (hvLn (hGet hs 3)) (hvLn (hGet hs 4)))
def z5w (an : Nat) (bn : Nat) (b0 : List Nat) (b1 : List Nat) : Option ((Unit) ⊕ (Int × Bool)) → Option (Ex × St)
  | none => none
  | some (Sum.inl r) => some (Ex.ret, (St.mk [(4, (AV.v (TV.one (At.bool Bool.false))))] [(Blk.mk Bool.false (Body.fl FloatKind.f32 b0)), (Blk.mk Bool.false (Body.fl FloatKind.f32 b1))]))
  | some (Sum.inr r) => some ((Ex.exit 0), (St.mk [(0, (AV.v (TV.one (At.vw 0 0 an 1)))), (1, (AV.v (TV.one (At.vw 1 0 bn 1)))), (5, (AV.v (TV.one (At.int IntKind.i64 r.1)))), (14, (AV.v (TV.one (At.bool r.2))))] [(Blk.mk Bool.false (Body.fl FloatKind.f32 b0)), (Blk.mk Bool.false (Body.fl FloatKind.f32 b1))]))
def zci (an : Nat) (bn : Nat) (b0 : List Nat) (b1 : List Nat) (x : Option ((Unit) ⊕ (Int × Bool))) : LO := (LO.two (oL x) (LO.one Ex.ret (St.mk [(4, (AV.v (TV.one (At.bool Bool.false))))] [(Blk.mk Bool.false (Body.fl FloatKind.f32 b0)), (Blk.mk Bool.false (Body.fl FloatKind.f32 b1))])) (LO.one (Ex.exit 0) (St.mk [(0, (AV.v (TV.one (At.vw 0 0 an 1)))), (1, (AV.v (TV.one (At.vw 1 0 bn 1)))), (5, (AV.v (TV.one (At.int IntKind.i64 ((tR x).getD default).1)))), (14, (AV.v (TV.one (At.bool ((tR x).getD default).2))))] [(Blk.mk Bool.false (Body.fl FloatKind.f32 b0)), (Blk.mk Bool.false (Body.fl FloatKind.f32 b1))])))
theorem zd9 (an : Nat) (bn : Nat) (b0 : List Nat) (b1 : List Nat) : ∀ x : Option ((Unit) ⊕ (Int × Bool)), x.isSome = true → (z5w an bn b0 b1) x = some (pick (zci an bn b0 b1 x))
  | none, h => by cases h
  | some (Sum.inl r), _ => rfl
  | some (Sum.inr r), _ => rfl
theorem zd0 (an : Nat) (bn : Nat) (i : Int) (b0 : List Nat) (b1 : List Nat) (K : Ex → St → Option (Ex × St)) : evC (R := Ex × St) Γ2 (evFn Γ2 8 8) 57 2 fi57.nt fi57.live fi57.nl 8 (findL 4 (loopsIn fi57.code)) (St.mk [(0, (AV.v (TV.one (At.vw 0 0 an 1)))), (1, (AV.v (TV.one (At.vw 1 0 bn 1)))), (5, (AV.v (TV.one (At.int IntKind.i64 i))))] [(Blk.mk Bool.false (Body.fl FloatKind.f32 b0)), (Blk.mk Bool.false (Body.fl FloatKind.f32 b1))]) K = z4f an bn b0 b1 i (fun i' => K .normal (St.mk [(0, (AV.v (TV.one (At.vw 0 0 an 1)))), (1, (AV.v (TV.one (At.vw 1 0 bn 1)))), (5, (AV.v (TV.one (At.int IntKind.i64 i'))))] [(Blk.mk Bool.false (Body.fl FloatKind.f32 b0)), (Blk.mk Bool.false (Body.fl FloatKind.f32 b1))])) (fun _ => K Ex.ret (St.mk [(4, (AV.v (TV.one (At.bool Bool.false))))] [(Blk.mk Bool.false (Body.fl FloatKind.f32 b0)), (Blk.mk Bool.false (Body.fl FloatKind.f32 b1))])) (fun c0_ c1_ => K (Ex.exit 0) (St.mk [(0, (AV.v (TV.one (At.vw 0 0 an 1)))), (1, (AV.v (TV.one (At.vw 1 0 bn 1)))), (5, (AV.v (TV.one (At.int IntKind.i64 c0_)))), (14, (AV.v (TV.one (At.bool c1_))))] [(Blk.mk Bool.false (Body.fl FloatKind.f32 b0)), (Blk.mk Bool.false (Body.fl FloatKind.f32 b1))])) := by kernel_rfl
theorem zd2 (an : Nat) (bn : Nat) (b0 : List Nat) (b1 : List Nat) : ∀ (n : Nat) (i : Int), iter 57 4 2 (evC (R := Ex × St) Γ2 (evFn Γ2 8 8) 57 2 fi57.nt fi57.live fi57.nl 8 (findL 4 (loopsIn fi57.code))) n (St.mk [(0, (AV.v (TV.one (At.vw 0 0 an 1)))), (1, (AV.v (TV.one (At.vw 1 0 bn 1)))), (5, (AV.v (TV.one (At.int IntKind.i64 i))))] [(Blk.mk Bool.false (Body.fl FloatKind.f32 b0)), (Blk.mk Bool.false (Body.fl FloatKind.f32 b1))]) (fun e st => some (e, st)) = (z5w an bn b0 b1) (z3w an bn b0 b1 n i) := by
  intro n
  induction n with
  | zero => intros; rfl
  | succ n ih =>
    intro i
    refine Eq.trans (iter_succ ..) (Eq.trans (zd0 an bn i b0 b1 (nextK 57 4 2 (evC (R := Ex × St) Γ2 (evFn Γ2 8 8) 57 2 fi57.nt fi57.live fi57.nl 8 (findL 4 (loopsIn fi57.code))) n (fun e st => some (e, st)))) (Eq.trans ?_ (zbv (z5w an bn b0 b1) rfl an bn b0 b1 i (fun i' => z3w an bn b0 b1 n i') (fun _ => some (Sum.inl ())) (fun c0_ c1_ => some (Sum.inr (c0_, c1_))))))
    exact congrArg (fun kn_ => z4f an bn b0 b1 i kn_ (fun _ => (z5w an bn b0 b1) (some (Sum.inl ()))) (fun c0_ c1_ => (z5w an bn b0 b1) (some (Sum.inr (c0_, c1_))))) (funext fun i' => ih i')
theorem z0j : LoopOne Try.prog fnTab 57 4 z0s := lp_of (Γ := Γ2) tyTab_ok (FnL.ok fnTab_ok _ _) (LpL.ok lt2_ok) (SumL.ok tb2_ok _) mixed (fi := fi57) (by kernel_rfl) (by kernel_rfl) (by
  intro lo st out hp
  obtain ⟨hs, e1, e2, e3⟩ := lpT_inv hp
  clear hp
  obtain rfl : st = (St.mk [(0, (AV.v (TV.one (At.vw 0 0 (hvN (hGet hs 0)) 1)))), (1, (AV.v (TV.one (At.vw 1 0 (hvN (hGet hs 1)) 1)))), (5, (AV.v (TV.one (At.int IntKind.i64 (hvI (hGet hs 2))))))] [(Blk.mk Bool.false (Body.fl FloatKind.f32 (hvLn (hGet hs 3)))), (Blk.mk Bool.false (Body.fl FloatKind.f32 (hvLn (hGet hs 4))))]) := e2.trans (by kernel_rfl)
  clear e2
  subst e1
  unfold zax at e3
  injection e3 with h1 h2
  subst h2
  exact ⟨8, 8, big, Eq.trans (zd2 (hvN (hGet hs 0)) (hvN (hGet hs 1)) (hvLn (hGet hs 3)) (hvLn (hGet hs 4)) big (hvI (hGet hs 2))) (zd9 (hvN (hGet hs 0)) (hvN (hGet hs 1)) (hvLn (hGet hs 3)) (hvLn (hGet hs 4)) (z3w (hvN (hGet hs 0)) (hvN (hGet hs 1)) (hvLn (hGet hs 3)) (hvLn (hGet hs 4)) big (hvI (hGet hs 2))) h1)⟩)
noncomputable def tb3 : List (Nat × (List PT → Option (Bool × AV × List Blk))) := [(125, z1b), (128, z0h), (134, z0r), (137, z1c), (18, z1k), (48, z16), (54, z1v), (61, z1h), (97, z1w), (102, z2n), (109, z1i), (14, z1q), (51, z1p), (56, z28), (103, z1z), (111, z27), (118, z10), (52, z1g), (119, z1f)]
noncomputable def lt3 : List ((Nat × Nat) × (Nat → St → Option (Bool × LO))) := [((52, 3), z0n), ((57, 4), z0s)]
noncomputable def Γ3 : Ctx := ⟨tyTab, fnTab, tblSum tb3, tblLp lt3⟩
theorem tb3_ok : SumL Try.prog tb3 := SumL.cons z0q (SumL.cons z0g (SumL.cons z0k (SumL.cons z0p (SumL.cons z0v (SumL.cons z0o (SumL.cons z14 (SumL.cons z0t (SumL.cons z15 (SumL.cons z23 (SumL.cons z0u (SumL.cons z12 (SumL.cons z11 (SumL.cons z1m (SumL.cons z18 (SumL.cons z1n (SumL.cons z0m (SumL.cons z0x (SumL.cons z0w (SumL.nil)))))))))))))))))))
theorem lt3_ok : LpL Try.prog fnTab lt3 := LpL.cons z0i (LpL.cons z0j (LpL.nil))
noncomputable def z1x : List PT → Option (Bool × AV × List Blk)
  | [.agg [.row 1 q0g (.fl .f32 q0n), .row 1 q0i (.fl .f32 q0o), .row 1 q0l (.fl .f32 q0p)]] => some ((z5m q0g q0n q0i q0o q0l q0p), ((AV.v (TV.agg [(At.sl 0 0 (z2e q0g q0n q0i q0o q0l q0p) 1), (At.sl 1 0 (z2f q0g q0n q0i q0o q0l q0p) 1), (At.sl 2 0 (z2h q0g q0n q0i q0o q0l q0p) 1)])), [(Blk.mk Bool.true (Body.fl FloatKind.f32 (z3k q0g q0n q0i q0o q0l q0p))), (Blk.mk Bool.true (Body.fl FloatKind.f32 (z3j q0g q0n q0i q0o q0l q0p))), (Blk.mk Bool.true (Body.fl FloatKind.f32 (z3l q0g q0n q0i q0o q0l q0p)))]))
  | _ => none
def zbr (q0g : Nat) (q0n : List Nat) (q0i : Nat) (q0o : List Nat) (q0l : Nat) (q0p : List Nat) : Option (Nat × Nat × Nat × (List Nat) × (List Nat) × (List Nat)) → Option (AV × List Blk)
  | some r => some ((AV.v (TV.agg [(At.sl 0 0 r.1 1), (At.sl 1 0 r.2.1 1), (At.sl 2 0 r.2.2.1 1)])), [(Blk.mk Bool.true (Body.fl FloatKind.f32 r.2.2.2.1)), (Blk.mk Bool.true (Body.fl FloatKind.f32 r.2.2.2.2.1)), (Blk.mk Bool.true (Body.fl FloatKind.f32 r.2.2.2.2.2))])
  | none => none
theorem zex (q0g : Nat) (q0n : List Nat) (q0i : Nat) (q0o : List Nat) (q0l : Nat) (q0p : List Nat) : evFn Γ3 8 8 16 (impTs 0 [.agg [.row 1 q0g (.fl .f32 q0n), .row 1 q0i (.fl .f32 q0o), .row 1 q0l (.fl .f32 q0p)]]).1 (impTs 0 [.agg [.row 1 q0g (.fl .f32 q0n), .row 1 q0i (.fl .f32 q0o), .row 1 q0l (.fl .f32 q0p)]]).2 (expo (impTs 0 [.agg [.row 1 q0g (.fl .f32 q0n), .row 1 q0i (.fl .f32 q0o), .row 1 q0l (.fl .f32 q0p)]]).2.length) = z6q q0g q0n q0i q0o q0l q0p (fun c0_ c1_ c2_ c3_ c4_ c5_ => some ((AV.v (TV.agg [(At.sl 0 0 c0_ 1), (At.sl 1 0 c1_ 1), (At.sl 2 0 c2_ 1)])), [(Blk.mk Bool.true (Body.fl FloatKind.f32 c3_)), (Blk.mk Bool.true (Body.fl FloatKind.f32 c4_)), (Blk.mk Bool.true (Body.fl FloatKind.f32 c5_))])) := by kernel_rfl
theorem z1a : SumOne Try.prog 16 z1x := sum_of (Γ := Γ3) (fuel := 8) (d := 8) tyTab_ok (FnL.ok fnTab_ok _ _) (LpL.ok lt3_ok) (SumL.ok tb3_ok _) mixed (by
  intro pts v news hp hc
  clear hc
  unfold z1x at hp
  split at hp
  · rename_i q0g q0n q0i q0o q0l q0p
    exact Eq.trans (Eq.trans (zex q0g q0n q0i q0o q0l q0p) (zcz (zbr q0g q0n q0i q0o q0l q0p) rfl q0g q0n q0i q0o q0l q0p (fun c0_ c1_ c2_ c3_ c4_ c5_ => some (c0_, c1_, c2_, c3_, c4_, c5_)))) (fin_out (o := (zbr q0g q0n q0i q0o q0l q0p)) (x := z4l q0g q0n q0i q0o q0l q0p) (d := default) (V := fun r => ((AV.v (TV.agg [(At.sl 0 0 r.1 1), (At.sl 1 0 r.2.1 1), (At.sl 2 0 r.2.2.1 1)])), [(Blk.mk Bool.true (Body.fl FloatKind.f32 r.2.2.2.1)), (Blk.mk Bool.true (Body.fl FloatKind.f32 r.2.2.2.2.1)), (Blk.mk Bool.true (Body.fl FloatKind.f32 r.2.2.2.2.2))])) (fun r => rfl) hp)
  · cases hp)
noncomputable def z1l : List PT → Option (Bool × AV × List Blk)
  | [.one (.row 1 a_n (.fl .f32 a)), .one (.row 1 b_n (.fl .f32 b))] => some ((z61 a_n a b_n b), ((AV.v (TV.one (At.bool (z5p a_n a b_n b)))), []))
  | _ => none
def zbm (a_n : Nat) (a : List Nat) (b_n : Nat) (b : List Nat) : Option (Bool) → Option (AV × List Blk)
  | some r => some ((AV.v (TV.one (At.bool r))), [])
  | none => none
theorem zeo (a_n : Nat) (a : List Nat) (b_n : Nat) (b : List Nat) : evFn Γ3 8 8 57 (impTs 0 [.one (.row 1 a_n (.fl .f32 a)), .one (.row 1 b_n (.fl .f32 b))]).1 (impTs 0 [.one (.row 1 a_n (.fl .f32 a)), .one (.row 1 b_n (.fl .f32 b))]).2 (expo (impTs 0 [.one (.row 1 a_n (.fl .f32 a)), .one (.row 1 b_n (.fl .f32 b))]).2.length) = z64 a_n a b_n b (fun c0_ => some ((AV.v (TV.one (At.bool c0_))), [])) := by kernel_rfl
theorem z13 : SumOne Try.prog 57 z1l := sum_of (Γ := Γ3) (fuel := 8) (d := 8) tyTab_ok (FnL.ok fnTab_ok _ _) (LpL.ok lt3_ok) (SumL.ok tb3_ok _) mixed (by
  intro pts v news hp hc
  clear hc
  unfold z1l at hp
  split at hp
  · rename_i a_n a b_n b
    exact Eq.trans (Eq.trans (zeo a_n a b_n b) (zcp (zbm a_n a b_n b) rfl a_n a b_n b (fun c0_ => some c0_))) (fin_out (o := (zbm a_n a b_n b)) (x := z5z a_n a b_n b) (d := default) (V := fun r => ((AV.v (TV.one (At.bool r))), [])) (fun r => rfl) hp)
  · cases hp)
noncomputable def zbi (t3 : Int) (t4 : Int) (b0 : List Nat) (b1 : List Nat) (b2 : List Nat) (q0m : Nat) (q0s : Nat) (q0r : Nat) : Bool × LO := ((z5d t3 b0 b1 b2 q0m q0s q0r t4), (LO.two (z53 t3 b0 b1 b2 q0m q0s q0r t4) (LO.one Ex.ret (St.mk [(2, (AV.v (TV.one (At.bool Bool.false))))] [(Blk.mk Bool.false (Body.fl FloatKind.f32 b0)), (Blk.mk Bool.false (Body.fl FloatKind.f32 b1)), (Blk.mk Bool.false (Body.fl FloatKind.f32 b2)), (Blk.mk Bool.false (Body.cells [(At.vw 0 0 q0m 1), (At.vw 1 0 q0s 1), (At.vw 2 0 q0r 1)]))])) (LO.one (Ex.exit 0) (St.mk [(0, (AV.v (TV.one (At.ptr 3 0 3)))), (3, (AV.v (TV.one (At.int IntKind.i64 t3)))), (4, (AV.v (TV.one (At.int IntKind.i64 (zag t3 b0 b1 b2 q0m q0s q0r t4))))), (36, (AV.v (TV.one (At.bool (zai t3 b0 b1 b2 q0m q0s q0r t4)))))] [(Blk.mk Bool.false (Body.fl FloatKind.f32 b0)), (Blk.mk Bool.false (Body.fl FloatKind.f32 b1)), (Blk.mk Bool.false (Body.fl FloatKind.f32 b2)), (Blk.mk Bool.false (Body.cells [(At.vw 0 0 q0m 1), (At.vw 1 0 q0s 1), (At.vw 2 0 q0r 1)]))]))))
noncomputable def z2a : Nat → St → Option (Bool × LO) := lpT 4 (pSt [(pTm 0 (pV (pOne (pPtr 3 (liN 0) 3)))), (pTm 3 (pV (pOne (pInt IntKind.i64)))), (pTm 4 (pV (pOne (pInt IntKind.i64))))] [(pBlk Bool.false (pFl FloatKind.f32)), (pBlk Bool.false (pFl FloatKind.f32)), (pBlk Bool.false (pFl FloatKind.f32)), (pBlk Bool.false (pCells [(pVw 0 (liN 0) 1), (pVw 1 (liN 0) 1), (pVw 2 (liN 0) 1)]))]) (fun hs => zbi (hvI (hGet hs 0)) (hvI (hGet hs 1)) (hvLn (hGet hs 2)) (hvLn (hGet hs 3)) (hvLn (hGet hs 4)) (hvN (hGet hs 5)) (hvN (hGet hs 6)) (hvN (hGet hs 7)))
def z8j (t3 : Int) (b0 : List Nat) (b1 : List Nat) (b2 : List Nat) (q0m : Nat) (q0s : Nat) (q0r : Nat) : Option ((Unit) ⊕ (Int × Bool)) → Option (Ex × St)
  | none => none
  | some (Sum.inl r) => some (Ex.ret, (St.mk [(2, (AV.v (TV.one (At.bool Bool.false))))] [(Blk.mk Bool.false (Body.fl FloatKind.f32 b0)), (Blk.mk Bool.false (Body.fl FloatKind.f32 b1)), (Blk.mk Bool.false (Body.fl FloatKind.f32 b2)), (Blk.mk Bool.false (Body.cells [(At.vw 0 0 q0m 1), (At.vw 1 0 q0s 1), (At.vw 2 0 q0r 1)]))]))
  | some (Sum.inr r) => some ((Ex.exit 0), (St.mk [(0, (AV.v (TV.one (At.ptr 3 0 3)))), (3, (AV.v (TV.one (At.int IntKind.i64 t3)))), (4, (AV.v (TV.one (At.int IntKind.i64 r.1)))), (36, (AV.v (TV.one (At.bool r.2))))] [(Blk.mk Bool.false (Body.fl FloatKind.f32 b0)), (Blk.mk Bool.false (Body.fl FloatKind.f32 b1)), (Blk.mk Bool.false (Body.fl FloatKind.f32 b2)), (Blk.mk Bool.false (Body.cells [(At.vw 0 0 q0m 1), (At.vw 1 0 q0s 1), (At.vw 2 0 q0r 1)]))]))
def zer (t3 : Int) (b0 : List Nat) (b1 : List Nat) (b2 : List Nat) (q0m : Nat) (q0s : Nat) (q0r : Nat) (x : Option ((Unit) ⊕ (Int × Bool))) : LO := (LO.two (oL x) (LO.one Ex.ret (St.mk [(2, (AV.v (TV.one (At.bool Bool.false))))] [(Blk.mk Bool.false (Body.fl FloatKind.f32 b0)), (Blk.mk Bool.false (Body.fl FloatKind.f32 b1)), (Blk.mk Bool.false (Body.fl FloatKind.f32 b2)), (Blk.mk Bool.false (Body.cells [(At.vw 0 0 q0m 1), (At.vw 1 0 q0s 1), (At.vw 2 0 q0r 1)]))])) (LO.one (Ex.exit 0) (St.mk [(0, (AV.v (TV.one (At.ptr 3 0 3)))), (3, (AV.v (TV.one (At.int IntKind.i64 t3)))), (4, (AV.v (TV.one (At.int IntKind.i64 ((tR x).getD default).1)))), (36, (AV.v (TV.one (At.bool ((tR x).getD default).2))))] [(Blk.mk Bool.false (Body.fl FloatKind.f32 b0)), (Blk.mk Bool.false (Body.fl FloatKind.f32 b1)), (Blk.mk Bool.false (Body.fl FloatKind.f32 b2)), (Blk.mk Bool.false (Body.cells [(At.vw 0 0 q0m 1), (At.vw 1 0 q0s 1), (At.vw 2 0 q0r 1)]))])))
theorem zfh (t3 : Int) (b0 : List Nat) (b1 : List Nat) (b2 : List Nat) (q0m : Nat) (q0s : Nat) (q0r : Nat) : ∀ x : Option ((Unit) ⊕ (Int × Bool)), x.isSome = true → (z8j t3 b0 b1 b2 q0m q0s q0r) x = some (pick (zer t3 b0 b1 b2 q0m q0s q0r x))
  | none, h => by cases h
  | some (Sum.inl r), _ => rfl
  | some (Sum.inr r), _ => rfl
theorem zf7 (t3 : Int) (t4 : Int) (b0 : List Nat) (b1 : List Nat) (b2 : List Nat) (q0m : Nat) (q0s : Nat) (q0r : Nat) (K : Ex → St → Option (Ex × St)) : evC (R := Ex × St) Γ3 (evFn Γ3 8 8) 62 4 fi62.nt fi62.live fi62.nl 8 (findL 5 (loopsIn fi62.code)) (St.mk [(0, (AV.v (TV.one (At.ptr 3 0 3)))), (3, (AV.v (TV.one (At.int IntKind.i64 t3)))), (4, (AV.v (TV.one (At.int IntKind.i64 t4))))] [(Blk.mk Bool.false (Body.fl FloatKind.f32 b0)), (Blk.mk Bool.false (Body.fl FloatKind.f32 b1)), (Blk.mk Bool.false (Body.fl FloatKind.f32 b2)), (Blk.mk Bool.false (Body.cells [(At.vw 0 0 q0m 1), (At.vw 1 0 q0s 1), (At.vw 2 0 q0r 1)]))]) K = z4y t3 b0 b1 b2 q0m q0s q0r t4 (fun t4' => K .normal (St.mk [(0, (AV.v (TV.one (At.ptr 3 0 3)))), (3, (AV.v (TV.one (At.int IntKind.i64 t3)))), (4, (AV.v (TV.one (At.int IntKind.i64 t4'))))] [(Blk.mk Bool.false (Body.fl FloatKind.f32 b0)), (Blk.mk Bool.false (Body.fl FloatKind.f32 b1)), (Blk.mk Bool.false (Body.fl FloatKind.f32 b2)), (Blk.mk Bool.false (Body.cells [(At.vw 0 0 q0m 1), (At.vw 1 0 q0s 1), (At.vw 2 0 q0r 1)]))])) (fun _ => K Ex.ret (St.mk [(2, (AV.v (TV.one (At.bool Bool.false))))] [(Blk.mk Bool.false (Body.fl FloatKind.f32 b0)), (Blk.mk Bool.false (Body.fl FloatKind.f32 b1)), (Blk.mk Bool.false (Body.fl FloatKind.f32 b2)), (Blk.mk Bool.false (Body.cells [(At.vw 0 0 q0m 1), (At.vw 1 0 q0s 1), (At.vw 2 0 q0r 1)]))])) (fun c0_ c1_ => K (Ex.exit 0) (St.mk [(0, (AV.v (TV.one (At.ptr 3 0 3)))), (3, (AV.v (TV.one (At.int IntKind.i64 t3)))), (4, (AV.v (TV.one (At.int IntKind.i64 c0_)))), (36, (AV.v (TV.one (At.bool c1_))))] [(Blk.mk Bool.false (Body.fl FloatKind.f32 b0)), (Blk.mk Bool.false (Body.fl FloatKind.f32 b1)), (Blk.mk Bool.false (Body.fl FloatKind.f32 b2)), (Blk.mk Bool.false (Body.cells [(At.vw 0 0 q0m 1), (At.vw 1 0 q0s 1), (At.vw 2 0 q0r 1)]))])) := by kernel_rfl
theorem zfe (t3 : Int) (b0 : List Nat) (b1 : List Nat) (b2 : List Nat) (q0m : Nat) (q0s : Nat) (q0r : Nat) : ∀ (n : Nat) (t4 : Int), iter 62 5 4 (evC (R := Ex × St) Γ3 (evFn Γ3 8 8) 62 4 fi62.nt fi62.live fi62.nl 8 (findL 5 (loopsIn fi62.code))) n (St.mk [(0, (AV.v (TV.one (At.ptr 3 0 3)))), (3, (AV.v (TV.one (At.int IntKind.i64 t3)))), (4, (AV.v (TV.one (At.int IntKind.i64 t4))))] [(Blk.mk Bool.false (Body.fl FloatKind.f32 b0)), (Blk.mk Bool.false (Body.fl FloatKind.f32 b1)), (Blk.mk Bool.false (Body.fl FloatKind.f32 b2)), (Blk.mk Bool.false (Body.cells [(At.vw 0 0 q0m 1), (At.vw 1 0 q0s 1), (At.vw 2 0 q0r 1)]))]) (fun e st => some (e, st)) = (z8j t3 b0 b1 b2 q0m q0s q0r) (z49 t3 b0 b1 b2 q0m q0s q0r n t4) := by
  intro n
  induction n with
  | zero => intros; rfl
  | succ n ih =>
    intro t4
    refine Eq.trans (iter_succ ..) (Eq.trans (zf7 t3 t4 b0 b1 b2 q0m q0s q0r (nextK 62 5 4 (evC (R := Ex × St) Γ3 (evFn Γ3 8 8) 62 4 fi62.nt fi62.live fi62.nl 8 (findL 5 (loopsIn fi62.code))) n (fun e st => some (e, st)))) (Eq.trans ?_ (zdp (z8j t3 b0 b1 b2 q0m q0s q0r) rfl t3 b0 b1 b2 q0m q0s q0r t4 (fun t4' => z49 t3 b0 b1 b2 q0m q0s q0r n t4') (fun _ => some (Sum.inl ())) (fun c0_ c1_ => some (Sum.inr (c0_, c1_))))))
    exact congrArg (fun kn_ => z4y t3 b0 b1 b2 q0m q0s q0r t4 kn_ (fun _ => (z8j t3 b0 b1 b2 q0m q0s q0r) (some (Sum.inl ()))) (fun c0_ c1_ => (z8j t3 b0 b1 b2 q0m q0s q0r) (some (Sum.inr (c0_, c1_))))) (funext fun t4' => ih t4')
theorem z1o : LoopOne Try.prog fnTab 62 5 z2a := lp_of (Γ := Γ3) tyTab_ok (FnL.ok fnTab_ok _ _) (LpL.ok lt3_ok) (SumL.ok tb3_ok _) mixed (fi := fi62) (by kernel_rfl) (by kernel_rfl) (by
  intro lo st out hp
  obtain ⟨hs, e1, e2, e3⟩ := lpT_inv hp
  clear hp
  obtain rfl : st = (St.mk [(0, (AV.v (TV.one (At.ptr 3 0 3)))), (3, (AV.v (TV.one (At.int IntKind.i64 (hvI (hGet hs 0)))))), (4, (AV.v (TV.one (At.int IntKind.i64 (hvI (hGet hs 1))))))] [(Blk.mk Bool.false (Body.fl FloatKind.f32 (hvLn (hGet hs 2)))), (Blk.mk Bool.false (Body.fl FloatKind.f32 (hvLn (hGet hs 3)))), (Blk.mk Bool.false (Body.fl FloatKind.f32 (hvLn (hGet hs 4)))), (Blk.mk Bool.false (Body.cells [(At.vw 0 0 (hvN (hGet hs 5)) 1), (At.vw 1 0 (hvN (hGet hs 6)) 1), (At.vw 2 0 (hvN (hGet hs 7)) 1)]))]) := e2.trans (by kernel_rfl)
  clear e2
  subst e1
  unfold zbi at e3
  injection e3 with h1 h2
  subst h2
  exact ⟨8, 8, big, Eq.trans (zfe (hvI (hGet hs 0)) (hvLn (hGet hs 2)) (hvLn (hGet hs 3)) (hvLn (hGet hs 4)) (hvN (hGet hs 5)) (hvN (hGet hs 6)) (hvN (hGet hs 7)) big (hvI (hGet hs 1))) (zfh (hvI (hGet hs 0)) (hvLn (hGet hs 2)) (hvLn (hGet hs 3)) (hvLn (hGet hs 4)) (hvN (hGet hs 5)) (hvN (hGet hs 6)) (hvN (hGet hs 7)) (z49 (hvI (hGet hs 0)) (hvLn (hGet hs 2)) (hvLn (hGet hs 3)) (hvLn (hGet hs 4)) (hvN (hGet hs 5)) (hvN (hGet hs 6)) (hvN (hGet hs 7)) big (hvI (hGet hs 1))) h1)⟩)
noncomputable def z5h (sn : Nat) (t7 : Int) (t8 : Int) (b0 : List Nat) : Bool × LO := ((z3h sn t7 b0 t8), (LO.two (z3e sn t7 b0 t8) (LO.one Ex.ret (St.mk [(4, (AV.v (TV.one (At.int IntKind.i64 (z42 sn t7 b0 t8)))))] [(Blk.mk Bool.false (Body.fl FloatKind.f32 b0))])) (LO.one (Ex.exit 0) (St.mk [(0, (AV.v (TV.one (At.vw 0 0 sn 1)))), (1, (AV.v (TV.one (At.fn 118 [])))), (7, (AV.v (TV.one (At.int IntKind.i64 t7)))), (8, (AV.v (TV.one (At.int IntKind.i64 (z4o sn t7 b0 t8))))), (9, (AV.v (TV.one (At.bool (z4q sn t7 b0 t8)))))] [(Blk.mk Bool.false (Body.fl FloatKind.f32 b0))]))))
noncomputable def z03 : Nat → St → Option (Bool × LO) := lpT 1 (pSt [(pTm 0 (pV (pOne (pVw 0 (liN 0) 1)))), (pTm 1 (pV (pOne (pFn 118 [])))), (pTm 7 (pV (pOne (pInt IntKind.i64)))), (pTm 8 (pV (pOne (pInt IntKind.i64))))] [(pBlk Bool.false (pFl FloatKind.f32))]) (fun hs => z5h (hvN (hGet hs 0)) (hvI (hGet hs 1)) (hvI (hGet hs 2)) (hvLn (hGet hs 3)))
def z3y (sn : Nat) (t7 : Int) (b0 : List Nat) : Option ((Int) ⊕ (Int × Bool)) → Option (Ex × St)
  | none => none
  | some (Sum.inl r) => some (Ex.ret, (St.mk [(4, (AV.v (TV.one (At.int IntKind.i64 r))))] [(Blk.mk Bool.false (Body.fl FloatKind.f32 b0))]))
  | some (Sum.inr r) => some ((Ex.exit 0), (St.mk [(0, (AV.v (TV.one (At.vw 0 0 sn 1)))), (1, (AV.v (TV.one (At.fn 118 [])))), (7, (AV.v (TV.one (At.int IntKind.i64 t7)))), (8, (AV.v (TV.one (At.int IntKind.i64 r.1)))), (9, (AV.v (TV.one (At.bool r.2))))] [(Blk.mk Bool.false (Body.fl FloatKind.f32 b0))]))
def z91 (sn : Nat) (t7 : Int) (b0 : List Nat) (x : Option ((Int) ⊕ (Int × Bool))) : LO := (LO.two (oL x) (LO.one Ex.ret (St.mk [(4, (AV.v (TV.one (At.int IntKind.i64 ((tL x).getD default)))))] [(Blk.mk Bool.false (Body.fl FloatKind.f32 b0))])) (LO.one (Ex.exit 0) (St.mk [(0, (AV.v (TV.one (At.vw 0 0 sn 1)))), (1, (AV.v (TV.one (At.fn 118 [])))), (7, (AV.v (TV.one (At.int IntKind.i64 t7)))), (8, (AV.v (TV.one (At.int IntKind.i64 ((tR x).getD default).1)))), (9, (AV.v (TV.one (At.bool ((tR x).getD default).2))))] [(Blk.mk Bool.false (Body.fl FloatKind.f32 b0))])))
theorem z9f (sn : Nat) (t7 : Int) (b0 : List Nat) : ∀ x : Option ((Int) ⊕ (Int × Bool)), x.isSome = true → (z3y sn t7 b0) x = some (pick (z91 sn t7 b0 x))
  | none, h => by cases h
  | some (Sum.inl r), _ => rfl
  | some (Sum.inr r), _ => rfl
theorem z98 (sn : Nat) (t7 : Int) (t8 : Int) (b0 : List Nat) (K : Ex → St → Option (Ex × St)) : evC (R := Ex × St) Γ3 (evFn Γ3 8 8) 99 1 fi99.nt fi99.live fi99.nl 8 (findL 2 (loopsIn fi99.code)) (St.mk [(0, (AV.v (TV.one (At.vw 0 0 sn 1)))), (1, (AV.v (TV.one (At.fn 118 [])))), (7, (AV.v (TV.one (At.int IntKind.i64 t7)))), (8, (AV.v (TV.one (At.int IntKind.i64 t8))))] [(Blk.mk Bool.false (Body.fl FloatKind.f32 b0))]) K = z2t sn t7 b0 t8 (fun t8' => K .normal (St.mk [(0, (AV.v (TV.one (At.vw 0 0 sn 1)))), (1, (AV.v (TV.one (At.fn 118 [])))), (7, (AV.v (TV.one (At.int IntKind.i64 t7)))), (8, (AV.v (TV.one (At.int IntKind.i64 t8'))))] [(Blk.mk Bool.false (Body.fl FloatKind.f32 b0))])) (fun c0_ => K Ex.ret (St.mk [(4, (AV.v (TV.one (At.int IntKind.i64 c0_))))] [(Blk.mk Bool.false (Body.fl FloatKind.f32 b0))])) (fun c0_ c1_ => K (Ex.exit 0) (St.mk [(0, (AV.v (TV.one (At.vw 0 0 sn 1)))), (1, (AV.v (TV.one (At.fn 118 [])))), (7, (AV.v (TV.one (At.int IntKind.i64 t7)))), (8, (AV.v (TV.one (At.int IntKind.i64 c0_)))), (9, (AV.v (TV.one (At.bool c1_))))] [(Blk.mk Bool.false (Body.fl FloatKind.f32 b0))])) := by kernel_rfl
theorem z9a (sn : Nat) (t7 : Int) (b0 : List Nat) : ∀ (n : Nat) (t8 : Int), iter 99 2 1 (evC (R := Ex × St) Γ3 (evFn Γ3 8 8) 99 1 fi99.nt fi99.live fi99.nl 8 (findL 2 (loopsIn fi99.code))) n (St.mk [(0, (AV.v (TV.one (At.vw 0 0 sn 1)))), (1, (AV.v (TV.one (At.fn 118 [])))), (7, (AV.v (TV.one (At.int IntKind.i64 t7)))), (8, (AV.v (TV.one (At.int IntKind.i64 t8))))] [(Blk.mk Bool.false (Body.fl FloatKind.f32 b0))]) (fun e st => some (e, st)) = (z3y sn t7 b0) (z19 sn t7 b0 n t8) := by
  intro n
  induction n with
  | zero => intros; rfl
  | succ n ih =>
    intro t8
    refine Eq.trans (iter_succ ..) (Eq.trans (z98 sn t7 t8 b0 (nextK 99 2 1 (evC (R := Ex × St) Γ3 (evFn Γ3 8 8) 99 1 fi99.nt fi99.live fi99.nl 8 (findL 2 (loopsIn fi99.code))) n (fun e st => some (e, st)))) (Eq.trans ?_ (z8c (z3y sn t7 b0) rfl sn t7 b0 t8 (fun t8' => z19 sn t7 b0 n t8') (fun c0_ => some (Sum.inl c0_)) (fun c0_ c1_ => some (Sum.inr (c0_, c1_))))))
    exact congrArg (fun kn_ => z2t sn t7 b0 t8 kn_ (fun c0_ => (z3y sn t7 b0) (some (Sum.inl c0_))) (fun c0_ c1_ => (z3y sn t7 b0) (some (Sum.inr (c0_, c1_))))) (funext fun t8' => ih t8')
theorem z02 : LoopOne Try.prog fnTab 99 2 z03 := lp_of (Γ := Γ3) tyTab_ok (FnL.ok fnTab_ok _ _) (LpL.ok lt3_ok) (SumL.ok tb3_ok _) mixed (fi := fi99) (by kernel_rfl) (by kernel_rfl) (by
  intro lo st out hp
  obtain ⟨hs, e1, e2, e3⟩ := lpT_inv hp
  clear hp
  obtain rfl : st = (St.mk [(0, (AV.v (TV.one (At.vw 0 0 (hvN (hGet hs 0)) 1)))), (1, (AV.v (TV.one (At.fn 118 [])))), (7, (AV.v (TV.one (At.int IntKind.i64 (hvI (hGet hs 1)))))), (8, (AV.v (TV.one (At.int IntKind.i64 (hvI (hGet hs 2))))))] [(Blk.mk Bool.false (Body.fl FloatKind.f32 (hvLn (hGet hs 3))))]) := e2.trans (by kernel_rfl)
  clear e2
  subst e1
  unfold z5h at e3
  injection e3 with h1 h2
  subst h2
  exact ⟨8, 8, big, Eq.trans (z9a (hvN (hGet hs 0)) (hvI (hGet hs 1)) (hvLn (hGet hs 3)) big (hvI (hGet hs 2))) (z9f (hvN (hGet hs 0)) (hvI (hGet hs 1)) (hvLn (hGet hs 3)) (z19 (hvN (hGet hs 0)) (hvI (hGet hs 1)) (hvLn (hGet hs 3)) big (hvI (hGet hs 2))) h1)⟩)
noncomputable def tb4 : List (Nat × (List PT → Option (Bool × AV × List Blk))) := [(125, z1b), (128, z0h), (134, z0r), (137, z1c), (18, z1k), (48, z16), (54, z1v), (61, z1h), (97, z1w), (102, z2n), (109, z1i), (14, z1q), (51, z1p), (56, z28), (103, z1z), (111, z27), (118, z10), (52, z1g), (119, z1f), (16, z1x), (57, z1l)]
noncomputable def lt4 : List ((Nat × Nat) × (Nat → St → Option (Bool × LO))) := [((52, 3), z0n), ((57, 4), z0s), ((62, 5), z2a), ((99, 2), z03)]
noncomputable def Γ4 : Ctx := ⟨tyTab, fnTab, tblSum tb4, tblLp lt4⟩
theorem tb4_ok : SumL Try.prog tb4 := SumL.cons z0q (SumL.cons z0g (SumL.cons z0k (SumL.cons z0p (SumL.cons z0v (SumL.cons z0o (SumL.cons z14 (SumL.cons z0t (SumL.cons z15 (SumL.cons z23 (SumL.cons z0u (SumL.cons z12 (SumL.cons z11 (SumL.cons z1m (SumL.cons z18 (SumL.cons z1n (SumL.cons z0m (SumL.cons z0x (SumL.cons z0w (SumL.cons z1a (SumL.cons z13 (SumL.nil)))))))))))))))))))))
theorem lt4_ok : LpL Try.prog fnTab lt4 := LpL.cons z0i (LpL.cons z0j (LpL.cons z1o (LpL.cons z02 (LpL.nil))))
noncomputable def z22 : List PT → Option (Bool × AV × List Blk)
  | [.agg [.row 1 q0g (.fl .f32 q0n), .row 1 q0i (.fl .f32 q0o), .row 1 q0l (.fl .f32 q0p)], .agg [.row 1 q0u (.fl .f32 q0y), .row 1 q0v (.fl .f32 q11), .row 1 q0w (.fl .f32 q12)]] => some ((z82 q0g q0n q0i q0o q0l q0p q0u q0y q0v q11 q0w q12), ((AV.v (TV.one (At.bool (z7b q0g q0n q0i q0o q0l q0p q0u q0y q0v q11 q0w q12)))), []))
  | _ => none
def zc0 (q0g : Nat) (q0n : List Nat) (q0i : Nat) (q0o : List Nat) (q0l : Nat) (q0p : List Nat) (q0u : Nat) (q0y : List Nat) (q0v : Nat) (q11 : List Nat) (q0w : Nat) (q12 : List Nat) : Option (Bool) → Option (AV × List Blk)
  | some r => some ((AV.v (TV.one (At.bool r))), [])
  | none => none
theorem zeu (q0g : Nat) (q0n : List Nat) (q0i : Nat) (q0o : List Nat) (q0l : Nat) (q0p : List Nat) (q0u : Nat) (q0y : List Nat) (q0v : Nat) (q11 : List Nat) (q0w : Nat) (q12 : List Nat) : evFn Γ4 8 8 19 (impTs 0 [.agg [.row 1 q0g (.fl .f32 q0n), .row 1 q0i (.fl .f32 q0o), .row 1 q0l (.fl .f32 q0p)], .agg [.row 1 q0u (.fl .f32 q0y), .row 1 q0v (.fl .f32 q11), .row 1 q0w (.fl .f32 q12)]]).1 (impTs 0 [.agg [.row 1 q0g (.fl .f32 q0n), .row 1 q0i (.fl .f32 q0o), .row 1 q0l (.fl .f32 q0p)], .agg [.row 1 q0u (.fl .f32 q0y), .row 1 q0v (.fl .f32 q11), .row 1 q0w (.fl .f32 q12)]]).2 (expo (impTs 0 [.agg [.row 1 q0g (.fl .f32 q0n), .row 1 q0i (.fl .f32 q0o), .row 1 q0l (.fl .f32 q0p)], .agg [.row 1 q0u (.fl .f32 q0y), .row 1 q0v (.fl .f32 q11), .row 1 q0w (.fl .f32 q12)]]).2.length) = z6i q0g q0n q0i q0o q0l q0p q0u q0y q0v q11 q0w q12 (fun c0_ => some ((AV.v (TV.one (At.bool c0_))), [])) := by kernel_rfl
theorem z1j : SumOne Try.prog 19 z22 := sum_of (Γ := Γ4) (fuel := 8) (d := 8) tyTab_ok (FnL.ok fnTab_ok _ _) (LpL.ok lt4_ok) (SumL.ok tb4_ok _) mixed (by
  intro pts v news hp hc
  clear hc
  unfold z22 at hp
  split at hp
  · rename_i q0g q0n q0i q0o q0l q0p q0u q0y q0v q11 q0w q12
    exact Eq.trans (Eq.trans (zeu q0g q0n q0i q0o q0l q0p q0u q0y q0v q11 q0w q12) (zdb (zc0 q0g q0n q0i q0o q0l q0p q0u q0y q0v q11 q0w q12) rfl q0g q0n q0i q0o q0l q0p q0u q0y q0v q11 q0w q12 (fun c0_ => some c0_))) (fin_out (o := (zc0 q0g q0n q0i q0o q0l q0p q0u q0y q0v q11 q0w q12)) (x := z6w q0g q0n q0i q0o q0l q0p q0u q0y q0v q11 q0w q12) (d := default) (V := fun r => ((AV.v (TV.one (At.bool r))), [])) (fun r => rfl) hp)
  · cases hp)
noncomputable def z2x : List PT → Option (Bool × AV × List Blk)
  | [.ptr [.row 1 q00 (.fl .f32 q01), .row 1 q0c (.fl .f32 q0d), .row 1 q0b (.fl .f32 q0e)]] => some ((zb6 q00 q01 q0c q0d q0b q0e), ((AV.v (TV.one (At.bool (zb3 q00 q01 q0c q0d q0b q0e)))), []))
  | _ => none
def ze0 (q00 : Nat) (q01 : List Nat) (q0c : Nat) (q0d : List Nat) (q0b : Nat) (q0e : List Nat) : Option (Bool) → Option (AV × List Blk)
  | some r => some ((AV.v (TV.one (At.bool r))), [])
  | none => none
theorem zg2 (q00 : Nat) (q01 : List Nat) (q0c : Nat) (q0d : List Nat) (q0b : Nat) (q0e : List Nat) : evFn Γ4 8 8 62 (impTs 0 [.ptr [.row 1 q00 (.fl .f32 q01), .row 1 q0c (.fl .f32 q0d), .row 1 q0b (.fl .f32 q0e)]]).1 (impTs 0 [.ptr [.row 1 q00 (.fl .f32 q01), .row 1 q0c (.fl .f32 q0d), .row 1 q0b (.fl .f32 q0e)]]).2 (expo (impTs 0 [.ptr [.row 1 q00 (.fl .f32 q01), .row 1 q0c (.fl .f32 q0d), .row 1 q0b (.fl .f32 q0e)]]).2.length) = z9k q00 q01 q0c q0d q0b q0e (fun c0_ => some ((AV.v (TV.one (At.bool c0_))), [])) := by kernel_rfl
theorem z2i : SumOne Try.prog 62 z2x := sum_of (Γ := Γ4) (fuel := 8) (d := 8) tyTab_ok (FnL.ok fnTab_ok _ _) (LpL.ok lt4_ok) (SumL.ok tb4_ok _) mixed (by
  intro pts v news hp hc
  clear hc
  unfold z2x at hp
  split at hp
  · rename_i q00 q01 q0c q0d q0b q0e
    exact Eq.trans (Eq.trans (zg2 q00 q01 q0c q0d q0b q0e) (zez (ze0 q00 q01 q0c q0d q0b q0e) rfl q00 q01 q0c q0d q0b q0e (fun c0_ => some c0_))) (fin_out (o := (ze0 q00 q01 q0c q0d q0b q0e)) (x := z9e q00 q01 q0c q0d q0b q0e) (d := default) (V := fun r => ((AV.v (TV.one (At.bool r))), [])) (fun r => rfl) hp)
  · cases hp)
noncomputable def z0a : List PT → Option (Bool × AV × List Blk)
  | [.one (.row 1 s_n (.fl .f32 s)), .fn 118 []] => some ((z4i s_n s), ((AV.v (TV.one (At.int IntKind.i64 (z4g s_n s)))), []))
  | _ => none
def z6c (s_n : Nat) (s : List Nat) : Option (Int) → Option (AV × List Blk)
  | some r => some ((AV.v (TV.one (At.int IntKind.i64 r))), [])
  | none => none
theorem za0 (s_n : Nat) (s : List Nat) : evFn Γ4 8 8 99 (impTs 0 [.one (.row 1 s_n (.fl .f32 s)), .fn 118 []]).1 (impTs 0 [.one (.row 1 s_n (.fl .f32 s)), .fn 118 []]).2 (expo (impTs 0 [.one (.row 1 s_n (.fl .f32 s)), .fn 118 []]).2.length) = z3q s_n s (fun c0_ => some ((AV.v (TV.one (At.int IntKind.i64 c0_))), [])) := by kernel_rfl
theorem z08 : SumOne Try.prog 99 z0a := sum_of (Γ := Γ4) (fuel := 8) (d := 8) tyTab_ok (FnL.ok fnTab_ok _ _) (LpL.ok lt4_ok) (SumL.ok tb4_ok _) mixed (by
  intro pts v news hp hc
  clear hc
  unfold z0a at hp
  split at hp
  · rename_i s_n s
    exact Eq.trans (Eq.trans (za0 s_n s) (z8z (z6c s_n s) rfl s_n s (fun c0_ => some c0_))) (fin_out (o := (z6c s_n s)) (x := z3r s_n s) (d := default) (V := fun r => ((AV.v (TV.one (At.int IntKind.i64 r))), [])) (fun r => rfl) hp)
  · cases hp)
noncomputable def z5j (sn : Nat) (t7 : Int) (t8 : Int) (b0 : List Nat) : Bool × LO := ((z3n sn t7 b0 t8), (LO.two (z3g sn t7 b0 t8) (LO.one Ex.ret (St.mk [(4, (AV.v (TV.one (At.int IntKind.i64 (z46 sn t7 b0 t8)))))] [(Blk.mk Bool.false (Body.fl FloatKind.f32 b0))])) (LO.one (Ex.exit 0) (St.mk [(0, (AV.v (TV.one (At.vw 0 0 sn 1)))), (1, (AV.v (TV.one (At.fn 119 [])))), (7, (AV.v (TV.one (At.int IntKind.i64 t7)))), (8, (AV.v (TV.one (At.int IntKind.i64 (z4u sn t7 b0 t8))))), (9, (AV.v (TV.one (At.bool (z4r sn t7 b0 t8)))))] [(Blk.mk Bool.false (Body.fl FloatKind.f32 b0))]))))
noncomputable def z05 : Nat → St → Option (Bool × LO) := lpT 1 (pSt [(pTm 0 (pV (pOne (pVw 0 (liN 0) 1)))), (pTm 1 (pV (pOne (pFn 119 [])))), (pTm 7 (pV (pOne (pInt IntKind.i64)))), (pTm 8 (pV (pOne (pInt IntKind.i64))))] [(pBlk Bool.false (pFl FloatKind.f32))]) (fun hs => z5j (hvN (hGet hs 0)) (hvI (hGet hs 1)) (hvI (hGet hs 2)) (hvLn (hGet hs 3)))
def z3z (sn : Nat) (t7 : Int) (b0 : List Nat) : Option ((Int) ⊕ (Int × Bool)) → Option (Ex × St)
  | none => none
  | some (Sum.inl r) => some (Ex.ret, (St.mk [(4, (AV.v (TV.one (At.int IntKind.i64 r))))] [(Blk.mk Bool.false (Body.fl FloatKind.f32 b0))]))
  | some (Sum.inr r) => some ((Ex.exit 0), (St.mk [(0, (AV.v (TV.one (At.vw 0 0 sn 1)))), (1, (AV.v (TV.one (At.fn 119 [])))), (7, (AV.v (TV.one (At.int IntKind.i64 t7)))), (8, (AV.v (TV.one (At.int IntKind.i64 r.1)))), (9, (AV.v (TV.one (At.bool r.2))))] [(Blk.mk Bool.false (Body.fl FloatKind.f32 b0))]))
def z9j (sn : Nat) (t7 : Int) (b0 : List Nat) (x : Option ((Int) ⊕ (Int × Bool))) : LO := (LO.two (oL x) (LO.one Ex.ret (St.mk [(4, (AV.v (TV.one (At.int IntKind.i64 ((tL x).getD default)))))] [(Blk.mk Bool.false (Body.fl FloatKind.f32 b0))])) (LO.one (Ex.exit 0) (St.mk [(0, (AV.v (TV.one (At.vw 0 0 sn 1)))), (1, (AV.v (TV.one (At.fn 119 [])))), (7, (AV.v (TV.one (At.int IntKind.i64 t7)))), (8, (AV.v (TV.one (At.int IntKind.i64 ((tR x).getD default).1)))), (9, (AV.v (TV.one (At.bool ((tR x).getD default).2))))] [(Blk.mk Bool.false (Body.fl FloatKind.f32 b0))])))
theorem z9m (sn : Nat) (t7 : Int) (b0 : List Nat) : ∀ x : Option ((Int) ⊕ (Int × Bool)), x.isSome = true → (z3z sn t7 b0) x = some (pick (z9j sn t7 b0 x))
  | none, h => by cases h
  | some (Sum.inl r), _ => rfl
  | some (Sum.inr r), _ => rfl
theorem z9o (sn : Nat) (t7 : Int) (t8 : Int) (b0 : List Nat) (K : Ex → St → Option (Ex × St)) : evC (R := Ex × St) Γ4 (evFn Γ4 8 8) 99 1 fi99.nt fi99.live fi99.nl 8 (findL 2 (loopsIn fi99.code)) (St.mk [(0, (AV.v (TV.one (At.vw 0 0 sn 1)))), (1, (AV.v (TV.one (At.fn 119 [])))), (7, (AV.v (TV.one (At.int IntKind.i64 t7)))), (8, (AV.v (TV.one (At.int IntKind.i64 t8))))] [(Blk.mk Bool.false (Body.fl FloatKind.f32 b0))]) K = z2u sn t7 b0 t8 (fun t8' => K .normal (St.mk [(0, (AV.v (TV.one (At.vw 0 0 sn 1)))), (1, (AV.v (TV.one (At.fn 119 [])))), (7, (AV.v (TV.one (At.int IntKind.i64 t7)))), (8, (AV.v (TV.one (At.int IntKind.i64 t8'))))] [(Blk.mk Bool.false (Body.fl FloatKind.f32 b0))])) (fun c0_ => K Ex.ret (St.mk [(4, (AV.v (TV.one (At.int IntKind.i64 c0_))))] [(Blk.mk Bool.false (Body.fl FloatKind.f32 b0))])) (fun c0_ c1_ => K (Ex.exit 0) (St.mk [(0, (AV.v (TV.one (At.vw 0 0 sn 1)))), (1, (AV.v (TV.one (At.fn 119 [])))), (7, (AV.v (TV.one (At.int IntKind.i64 t7)))), (8, (AV.v (TV.one (At.int IntKind.i64 c0_)))), (9, (AV.v (TV.one (At.bool c1_))))] [(Blk.mk Bool.false (Body.fl FloatKind.f32 b0))])) := by kernel_rfl
theorem z9n (sn : Nat) (t7 : Int) (b0 : List Nat) : ∀ (n : Nat) (t8 : Int), iter 99 2 1 (evC (R := Ex × St) Γ4 (evFn Γ4 8 8) 99 1 fi99.nt fi99.live fi99.nl 8 (findL 2 (loopsIn fi99.code))) n (St.mk [(0, (AV.v (TV.one (At.vw 0 0 sn 1)))), (1, (AV.v (TV.one (At.fn 119 [])))), (7, (AV.v (TV.one (At.int IntKind.i64 t7)))), (8, (AV.v (TV.one (At.int IntKind.i64 t8))))] [(Blk.mk Bool.false (Body.fl FloatKind.f32 b0))]) (fun e st => some (e, st)) = (z3z sn t7 b0) (z1e sn t7 b0 n t8) := by
  intro n
  induction n with
  | zero => intros; rfl
  | succ n ih =>
    intro t8
    refine Eq.trans (iter_succ ..) (Eq.trans (z9o sn t7 t8 b0 (nextK 99 2 1 (evC (R := Ex × St) Γ4 (evFn Γ4 8 8) 99 1 fi99.nt fi99.live fi99.nl 8 (findL 2 (loopsIn fi99.code))) n (fun e st => some (e, st)))) (Eq.trans ?_ (z8k (z3z sn t7 b0) rfl sn t7 b0 t8 (fun t8' => z1e sn t7 b0 n t8') (fun c0_ => some (Sum.inl c0_)) (fun c0_ c1_ => some (Sum.inr (c0_, c1_))))))
    exact congrArg (fun kn_ => z2u sn t7 b0 t8 kn_ (fun c0_ => (z3z sn t7 b0) (some (Sum.inl c0_))) (fun c0_ c1_ => (z3z sn t7 b0) (some (Sum.inr (c0_, c1_))))) (funext fun t8' => ih t8')
theorem z04 : LoopOne Try.prog fnTab 99 2 z05 := lp_of (Γ := Γ4) tyTab_ok (FnL.ok fnTab_ok _ _) (LpL.ok lt4_ok) (SumL.ok tb4_ok _) mixed (fi := fi99) (by kernel_rfl) (by kernel_rfl) (by
  intro lo st out hp
  obtain ⟨hs, e1, e2, e3⟩ := lpT_inv hp
  clear hp
  obtain rfl : st = (St.mk [(0, (AV.v (TV.one (At.vw 0 0 (hvN (hGet hs 0)) 1)))), (1, (AV.v (TV.one (At.fn 119 [])))), (7, (AV.v (TV.one (At.int IntKind.i64 (hvI (hGet hs 1)))))), (8, (AV.v (TV.one (At.int IntKind.i64 (hvI (hGet hs 2))))))] [(Blk.mk Bool.false (Body.fl FloatKind.f32 (hvLn (hGet hs 3))))]) := e2.trans (by kernel_rfl)
  clear e2
  subst e1
  unfold z5j at e3
  injection e3 with h1 h2
  subst h2
  exact ⟨8, 8, big, Eq.trans (z9n (hvN (hGet hs 0)) (hvI (hGet hs 1)) (hvLn (hGet hs 3)) big (hvI (hGet hs 2))) (z9m (hvN (hGet hs 0)) (hvI (hGet hs 1)) (hvLn (hGet hs 3)) (z1e (hvN (hGet hs 0)) (hvI (hGet hs 1)) (hvLn (hGet hs 3)) big (hvI (hGet hs 2))) h1)⟩)
noncomputable def tb5 : List (Nat × (List PT → Option (Bool × AV × List Blk))) := [(125, z1b), (128, z0h), (134, z0r), (137, z1c), (18, z1k), (48, z16), (54, z1v), (61, z1h), (97, z1w), (102, z2n), (109, z1i), (14, z1q), (51, z1p), (56, z28), (103, z1z), (111, z27), (118, z10), (52, z1g), (119, z1f), (16, z1x), (57, z1l), (19, z22), (62, z2x), (99, z0a)]
noncomputable def lt5 : List ((Nat × Nat) × (Nat → St → Option (Bool × LO))) := [((52, 3), z0n), ((57, 4), z0s), ((62, 5), z2a), ((99, 2), z03), ((99, 2), z05)]
noncomputable def Γ5 : Ctx := ⟨tyTab, fnTab, tblSum tb5, tblLp lt5⟩
theorem tb5_ok : SumL Try.prog tb5 := SumL.cons z0q (SumL.cons z0g (SumL.cons z0k (SumL.cons z0p (SumL.cons z0v (SumL.cons z0o (SumL.cons z14 (SumL.cons z0t (SumL.cons z15 (SumL.cons z23 (SumL.cons z0u (SumL.cons z12 (SumL.cons z11 (SumL.cons z1m (SumL.cons z18 (SumL.cons z1n (SumL.cons z0m (SumL.cons z0x (SumL.cons z0w (SumL.cons z1a (SumL.cons z13 (SumL.cons z1j (SumL.cons z2i (SumL.cons z08 (SumL.nil))))))))))))))))))))))))
theorem lt5_ok : LpL Try.prog fnTab lt5 := LpL.cons z0i (LpL.cons z0j (LpL.cons z1o (LpL.cons z02 (LpL.cons z04 (LpL.nil)))))
noncomputable def z2q : List PT → Option (Bool × AV × List Blk)
  | [.ptr [.row 1 q02 (.fl .f32 q06), .row 1 q03 (.fl .f32 q09), .row 1 q04 (.fl .f32 q0a)], .one (.s (.flt .f32 q0f))] => some ((zb4 q02 q06 q03 q09 q04 q0a q0f), ((AV.v (TV.one (At.bool (zas q02 q06 q03 q09 q04 q0a q0f)))), []))
  | _ => none
def zdg (q02 : Nat) (q06 : List Nat) (q03 : Nat) (q09 : List Nat) (q04 : Nat) (q0a : List Nat) (q0f : Nat) : Option (Bool) → Option (AV × List Blk)
  | some r => some ((AV.v (TV.one (At.bool r))), [])
  | none => none
theorem zfw (q02 : Nat) (q06 : List Nat) (q03 : Nat) (q09 : List Nat) (q04 : Nat) (q0a : List Nat) (q0f : Nat) : evFn Γ5 8 8 49 (impTs 0 [.ptr [.row 1 q02 (.fl .f32 q06), .row 1 q03 (.fl .f32 q09), .row 1 q04 (.fl .f32 q0a)], .one (.s (.flt .f32 q0f))]).1 (impTs 0 [.ptr [.row 1 q02 (.fl .f32 q06), .row 1 q03 (.fl .f32 q09), .row 1 q04 (.fl .f32 q0a)], .one (.s (.flt .f32 q0f))]).2 (expo (impTs 0 [.ptr [.row 1 q02 (.fl .f32 q06), .row 1 q03 (.fl .f32 q09), .row 1 q04 (.fl .f32 q0a)], .one (.s (.flt .f32 q0f))]).2.length) = z8g q02 q06 q03 q09 q04 q0a q0f (fun c0_ => some ((AV.v (TV.one (At.bool c0_))), [])) := by kernel_rfl
theorem z2d : SumOne Try.prog 49 z2q := sum_of (Γ := Γ5) (fuel := 8) (d := 8) tyTab_ok (FnL.ok fnTab_ok _ _) (LpL.ok lt5_ok) (SumL.ok tb5_ok _) mixed (by
  intro pts v news hp hc
  clear hc
  unfold z2q at hp
  split at hp
  · rename_i q02 q06 q03 q09 q04 q0a q0f
    exact Eq.trans (Eq.trans (zfw q02 q06 q03 q09 q04 q0a q0f) (ze5 (zdg q02 q06 q03 q09 q04 q0a q0f) rfl q02 q06 q03 q09 q04 q0a q0f (fun c0_ => some c0_))) (fin_out (o := (zdg q02 q06 q03 q09 q04 q0a q0f)) (x := z8e q02 q06 q03 q09 q04 q0a q0f) (d := default) (V := fun r => ((AV.v (TV.one (At.bool r))), [])) (fun r => rfl) hp)
  · cases hp)
noncomputable def z0f : List PT → Option (Bool × AV × List Blk)
  | [.one (.row 1 s_n (.fl .f32 s)), .fn 119 []] => some ((z4m s_n s), ((AV.v (TV.one (At.int IntKind.i64 (z4h s_n s)))), []))
  | _ => none
def z6d (s_n : Nat) (s : List Nat) : Option (Int) → Option (AV × List Blk)
  | some r => some ((AV.v (TV.one (At.int IntKind.i64 r))), [])
  | none => none
theorem za3 (s_n : Nat) (s : List Nat) : evFn Γ5 8 8 99 (impTs 0 [.one (.row 1 s_n (.fl .f32 s)), .fn 119 []]).1 (impTs 0 [.one (.row 1 s_n (.fl .f32 s)), .fn 119 []]).2 (expo (impTs 0 [.one (.row 1 s_n (.fl .f32 s)), .fn 119 []]).2.length) = z3u s_n s (fun c0_ => some ((AV.v (TV.one (At.int IntKind.i64 c0_))), [])) := by kernel_rfl
theorem z0e : SumOne Try.prog 99 z0f := sum_of (Γ := Γ5) (fuel := 8) (d := 8) tyTab_ok (FnL.ok fnTab_ok _ _) (LpL.ok lt5_ok) (SumL.ok tb5_ok _) mixed (by
  intro pts v news hp hc
  clear hc
  unfold z0f at hp
  split at hp
  · rename_i s_n s
    exact Eq.trans (Eq.trans (za3 s_n s) (z9h (z6d s_n s) rfl s_n s (fun c0_ => some c0_))) (fin_out (o := (z6d s_n s)) (x := z3t s_n s) (d := default) (V := fun r => ((AV.v (TV.one (At.int IntKind.i64 r))), [])) (fun r => rfl) hp)
  · cases hp)
noncomputable def z31 : List PT → Option (Bool × AV × List Blk)
  | [.one (.s (.flt .f64 x))] => some ((zaf x), ((AV.v (TV.one (At.flt FloatKind.f64 (z5i x)))), []))
  | _ => none
def ze2 (x : Nat) : Option (Nat) → Option (AV × List Blk)
  | some r => some ((AV.v (TV.one (At.flt FloatKind.f64 r))), [])
  | none => none
theorem zg1 (x : Nat) : evFn Γ5 8 8 116 (impTs 0 [.one (.s (.flt .f64 x))]).1 (impTs 0 [.one (.s (.flt .f64 x))]).2 (expo (impTs 0 [.one (.s (.flt .f64 x))]).2.length) = z9c x (fun c0_ => some ((AV.v (TV.one (At.flt FloatKind.f64 c0_))), [])) := by kernel_rfl
theorem z2k : SumOne Try.prog 116 z31 := sum_of (Γ := Γ5) (fuel := 8) (d := 8) tyTab_ok (FnL.ok fnTab_ok _ _) (LpL.ok lt5_ok) (SumL.ok tb5_ok _) mixed (by
  intro pts v news hp hc
  clear hc
  unfold z31 at hp
  split at hp
  · rename_i x
    exact Eq.trans (Eq.trans (zg1 x) (zf4 (ze2 x) rfl x (fun c0_ => some c0_))) (fin_out (o := (ze2 x)) (x := z9d x) (d := default) (V := fun r => ((AV.v (TV.one (At.flt FloatKind.f64 r))), [])) (fun r => rfl) hp)
  · cases hp)
noncomputable def tb6 : List (Nat × (List PT → Option (Bool × AV × List Blk))) := [(125, z1b), (128, z0h), (134, z0r), (137, z1c), (18, z1k), (48, z16), (54, z1v), (61, z1h), (97, z1w), (102, z2n), (109, z1i), (14, z1q), (51, z1p), (56, z28), (103, z1z), (111, z27), (118, z10), (52, z1g), (119, z1f), (16, z1x), (57, z1l), (19, z22), (62, z2x), (99, z0a), (49, z2q), (99, z0f), (116, z31)]
noncomputable def lt6 : List ((Nat × Nat) × (Nat → St → Option (Bool × LO))) := [((52, 3), z0n), ((57, 4), z0s), ((62, 5), z2a), ((99, 2), z03), ((99, 2), z05)]
noncomputable def Γ6 : Ctx := ⟨tyTab, fnTab, tblSum tb6, tblLp lt6⟩
theorem tb6_ok : SumL Try.prog tb6 := SumL.cons z0q (SumL.cons z0g (SumL.cons z0k (SumL.cons z0p (SumL.cons z0v (SumL.cons z0o (SumL.cons z14 (SumL.cons z0t (SumL.cons z15 (SumL.cons z23 (SumL.cons z0u (SumL.cons z12 (SumL.cons z11 (SumL.cons z1m (SumL.cons z18 (SumL.cons z1n (SumL.cons z0m (SumL.cons z0x (SumL.cons z0w (SumL.cons z1a (SumL.cons z13 (SumL.cons z1j (SumL.cons z2i (SumL.cons z08 (SumL.cons z2d (SumL.cons z0e (SumL.cons z2k (SumL.nil)))))))))))))))))))))))))))
theorem lt6_ok : LpL Try.prog fnTab lt6 := LpL.cons z0i (LpL.cons z0j (LpL.cons z1o (LpL.cons z02 (LpL.cons z04 (LpL.nil)))))
noncomputable def z2p : List PT → Option (Bool × AV × List Blk)
  | [.one (.s (.flt .f32 x))] => some ((zat x), ((AV.v (TV.one (At.flt FloatKind.f32 (z01 x)))), []))
  | _ => none
def zcx (x : Nat) : Option (Nat) → Option (AV × List Blk)
  | some r => some ((AV.v (TV.one (At.flt FloatKind.f32 r))), [])
  | none => none
theorem zfp (x : Nat) : evFn Γ6 8 8 94 (impTs 0 [.one (.s (.flt .f32 x))]).1 (impTs 0 [.one (.s (.flt .f32 x))]).2 (expo (impTs 0 [.one (.s (.flt .f32 x))]).2.length) = z7p x (fun c0_ => some ((AV.v (TV.one (At.flt FloatKind.f32 c0_))), [])) := by kernel_rfl
theorem z2b : SumOne Try.prog 94 z2p := sum_of (Γ := Γ6) (fuel := 8) (d := 8) tyTab_ok (FnL.ok fnTab_ok _ _) (LpL.ok lt6_ok) (SumL.ok tb6_ok _) mixed (by
  intro pts v news hp hc
  clear hc
  unfold z2p at hp
  split at hp
  · rename_i x
    exact Eq.trans (Eq.trans (zfp x) (ze3 (zcx x) rfl x (fun c0_ => some c0_))) (fin_out (o := (zcx x)) (x := z7j x) (d := default) (V := fun r => ((AV.v (TV.one (At.flt FloatKind.f32 r))), [])) (fun r => rfl) hp)
  · cases hp)
noncomputable def z29 : List PT → Option (Bool × AV × List Blk)
  | [.one (.s (.flt .f32 x))] => some ((z9t x), ((AV.v (TV.one (At.flt FloatKind.f32 (z39 x)))), []))
  | _ => none
def zbs (x : Nat) : Option (Nat) → Option (AV × List Blk)
  | some r => some ((AV.v (TV.one (At.flt FloatKind.f32 r))), [])
  | none => none
theorem zeq (x : Nat) : evFn Γ6 8 8 98 (impTs 0 [.one (.s (.flt .f32 x))]).1 (impTs 0 [.one (.s (.flt .f32 x))]).2 (expo (impTs 0 [.one (.s (.flt .f32 x))]).2.length) = z6s x (fun c0_ => some ((AV.v (TV.one (At.flt FloatKind.f32 c0_))), [])) := by kernel_rfl
theorem z1u : SumOne Try.prog 98 z29 := sum_of (Γ := Γ6) (fuel := 8) (d := 8) tyTab_ok (FnL.ok fnTab_ok _ _) (LpL.ok lt6_ok) (SumL.ok tb6_ok _) mixed (by
  intro pts v news hp hc
  clear hc
  unfold z29 at hp
  split at hp
  · rename_i x
    exact Eq.trans (Eq.trans (zeq x) (zd7 (zbs x) rfl x (fun c0_ => some c0_))) (fin_out (o := (zbs x)) (x := z6p x) (d := default) (V := fun r => ((AV.v (TV.one (At.flt FloatKind.f32 r))), [])) (fun r => rfl) hp)
  · cases hp)
noncomputable def z09 : List PT → Option (Bool × AV × List Blk)
  | [.one (.row 1 s_n (.fl .f32 s)), .fn 118 []] => some ((z48 s_n s), ((AV.v (TV.one (At.bool (z47 s_n s)))), []))
  | _ => none
def z5o (s_n : Nat) (s : List Nat) : Option (Bool) → Option (AV × List Blk)
  | some r => some ((AV.v (TV.one (At.bool r))), [])
  | none => none
theorem z9b (s_n : Nat) (s : List Nat) : evFn Γ6 8 8 117 (impTs 0 [.one (.row 1 s_n (.fl .f32 s)), .fn 118 []]).1 (impTs 0 [.one (.row 1 s_n (.fl .f32 s)), .fn 118 []]).2 (expo (impTs 0 [.one (.row 1 s_n (.fl .f32 s)), .fn 118 []]).2.length) = z3f s_n s (fun c0_ => some ((AV.v (TV.one (At.bool c0_))), [])) := by kernel_rfl
theorem z06 : SumOne Try.prog 117 z09 := sum_of (Γ := Γ6) (fuel := 8) (d := 8) tyTab_ok (FnL.ok fnTab_ok _ _) (LpL.ok lt6_ok) (SumL.ok tb6_ok _) mixed (by
  intro pts v news hp hc
  clear hc
  unfold z09 at hp
  split at hp
  · rename_i s_n s
    exact Eq.trans (Eq.trans (z9b s_n s) (z8a (z5o s_n s) rfl s_n s (fun c0_ => some c0_))) (fin_out (o := (z5o s_n s)) (x := z3i s_n s) (d := default) (V := fun r => ((AV.v (TV.one (At.bool r))), [])) (fun r => rfl) hp)
  · cases hp)
noncomputable def z0c : List PT → Option (Bool × AV × List Blk)
  | [.one (.row 1 s_n (.fl .f32 s)), .fn 119 []] => some ((z4d s_n s), ((AV.v (TV.one (At.bool (z4a s_n s)))), []))
  | _ => none
def z5t (s_n : Nat) (s : List Nat) : Option (Bool) → Option (AV × List Blk)
  | some r => some ((AV.v (TV.one (At.bool r))), [])
  | none => none
theorem z9p (s_n : Nat) (s : List Nat) : evFn Γ6 8 8 117 (impTs 0 [.one (.row 1 s_n (.fl .f32 s)), .fn 119 []]).1 (impTs 0 [.one (.row 1 s_n (.fl .f32 s)), .fn 119 []]).2 (expo (impTs 0 [.one (.row 1 s_n (.fl .f32 s)), .fn 119 []]).2.length) = z3p s_n s (fun c0_ => some ((AV.v (TV.one (At.bool c0_))), [])) := by kernel_rfl
theorem z0b : SumOne Try.prog 117 z0c := sum_of (Γ := Γ6) (fuel := 8) (d := 8) tyTab_ok (FnL.ok fnTab_ok _ _) (LpL.ok lt6_ok) (SumL.ok tb6_ok _) mixed (by
  intro pts v news hp hc
  clear hc
  unfold z0c at hp
  split at hp
  · rename_i s_n s
    exact Eq.trans (Eq.trans (z9p s_n s) (z8q (z5t s_n s) rfl s_n s (fun c0_ => some c0_))) (fin_out (o := (z5t s_n s)) (x := z3o s_n s) (d := default) (V := fun r => ((AV.v (TV.one (At.bool r))), [])) (fun r => rfl) hp)
  · cases hp)
noncomputable def tb7 : List (Nat × (List PT → Option (Bool × AV × List Blk))) := [(125, z1b), (128, z0h), (134, z0r), (137, z1c), (18, z1k), (48, z16), (54, z1v), (61, z1h), (97, z1w), (102, z2n), (109, z1i), (14, z1q), (51, z1p), (56, z28), (103, z1z), (111, z27), (118, z10), (52, z1g), (119, z1f), (16, z1x), (57, z1l), (19, z22), (62, z2x), (99, z0a), (49, z2q), (99, z0f), (116, z31), (94, z2p), (98, z29), (117, z09), (117, z0c)]
noncomputable def lt7 : List ((Nat × Nat) × (Nat → St → Option (Bool × LO))) := [((52, 3), z0n), ((57, 4), z0s), ((62, 5), z2a), ((99, 2), z03), ((99, 2), z05)]
noncomputable def Γ7 : Ctx := ⟨tyTab, fnTab, tblSum tb7, tblLp lt7⟩
theorem tb7_ok : SumL Try.prog tb7 := SumL.cons z0q (SumL.cons z0g (SumL.cons z0k (SumL.cons z0p (SumL.cons z0v (SumL.cons z0o (SumL.cons z14 (SumL.cons z0t (SumL.cons z15 (SumL.cons z23 (SumL.cons z0u (SumL.cons z12 (SumL.cons z11 (SumL.cons z1m (SumL.cons z18 (SumL.cons z1n (SumL.cons z0m (SumL.cons z0x (SumL.cons z0w (SumL.cons z1a (SumL.cons z13 (SumL.cons z1j (SumL.cons z2i (SumL.cons z08 (SumL.cons z2d (SumL.cons z0e (SumL.cons z2k (SumL.cons z2b (SumL.cons z1u (SumL.cons z06 (SumL.cons z0b (SumL.nil)))))))))))))))))))))))))))))))
theorem lt7_ok : LpL Try.prog fnTab lt7 := LpL.cons z0i (LpL.cons z0j (LpL.cons z1o (LpL.cons z02 (LpL.cons z04 (LpL.nil)))))
noncomputable def z2c : List PT → Option (Bool × AV × List Blk)
  | [.one (.row 1 q0q (.fl .f32 q0t))] => some ((z9v q0q q0t), ((AV.v (TV.one (At.bool (z93 q0q q0t)))), []))
  | _ => none
def zbu (q0q : Nat) (q0t : List Nat) : Option (Bool) → Option (AV × List Blk)
  | some r => some ((AV.v (TV.one (At.bool r))), [])
  | none => none
theorem zey (q0q : Nat) (q0t : List Nat) : evFn Γ7 8 8 95 (impTs 0 [.one (.row 1 q0q (.fl .f32 q0t))]).1 (impTs 0 [.one (.row 1 q0q (.fl .f32 q0t))]).2 (expo (impTs 0 [.one (.row 1 q0q (.fl .f32 q0t))]).2.length) = z6o q0q q0t (fun c0_ => some ((AV.v (TV.one (At.bool c0_))), [])) := by kernel_rfl
theorem z20 : SumOne Try.prog 95 z2c := sum_of (Γ := Γ7) (fuel := 8) (d := 8) tyTab_ok (FnL.ok fnTab_ok _ _) (LpL.ok lt7_ok) (SumL.ok tb7_ok _) mixed (by
  intro pts v news hp hc
  clear hc
  unfold z2c at hp
  split at hp
  · rename_i q0q q0t
    exact Eq.trans (Eq.trans (zey q0q q0t) (zd1 (zbu q0q q0t) rfl q0q q0t (fun c0_ => some c0_))) (fin_out (o := (zbu q0q q0t)) (x := z6f q0q q0t) (d := default) (V := fun r => ((AV.v (TV.one (At.bool r))), [])) (fun r => rfl) hp)
  · cases hp)
noncomputable def z2l : List PT → Option (Bool × AV × List Blk)
  | [.one (.row 1 q0q (.fl .f32 q0t))] => some ((za4 q0q q0t), ((AV.v (TV.one (At.bool (z9x q0q q0t)))), []))
  | _ => none
def zc6 (q0q : Nat) (q0t : List Nat) : Option (Bool) → Option (AV × List Blk)
  | some r => some ((AV.v (TV.one (At.bool r))), [])
  | none => none
theorem zfj (q0q : Nat) (q0t : List Nat) : evFn Γ7 8 8 96 (impTs 0 [.one (.row 1 q0q (.fl .f32 q0t))]).1 (impTs 0 [.one (.row 1 q0q (.fl .f32 q0t))]).2 (expo (impTs 0 [.one (.row 1 q0q (.fl .f32 q0t))]).2.length) = z70 q0q q0t (fun c0_ => some ((AV.v (TV.one (At.bool c0_))), [])) := by kernel_rfl
theorem z25 : SumOne Try.prog 96 z2l := sum_of (Γ := Γ7) (fuel := 8) (d := 8) tyTab_ok (FnL.ok fnTab_ok _ _) (LpL.ok lt7_ok) (SumL.ok tb7_ok _) mixed (by
  intro pts v news hp hc
  clear hc
  unfold z2l at hp
  split at hp
  · rename_i q0q q0t
    exact Eq.trans (Eq.trans (zfj q0q q0t) (zdm (zc6 q0q q0t) rfl q0q q0t (fun c0_ => some c0_))) (fin_out (o := (zc6 q0q q0t)) (x := z73 q0q q0t) (d := default) (V := fun r => ((AV.v (TV.one (At.bool r))), [])) (fun r => rfl) hp)
  · cases hp)
noncomputable def tb8 : List (Nat × (List PT → Option (Bool × AV × List Blk))) := [(125, z1b), (128, z0h), (134, z0r), (137, z1c), (18, z1k), (48, z16), (54, z1v), (61, z1h), (97, z1w), (102, z2n), (109, z1i), (14, z1q), (51, z1p), (56, z28), (103, z1z), (111, z27), (118, z10), (52, z1g), (119, z1f), (16, z1x), (57, z1l), (19, z22), (62, z2x), (99, z0a), (49, z2q), (99, z0f), (116, z31), (94, z2p), (98, z29), (117, z09), (117, z0c), (95, z2c), (96, z2l)]
noncomputable def lt8 : List ((Nat × Nat) × (Nat → St → Option (Bool × LO))) := [((52, 3), z0n), ((57, 4), z0s), ((62, 5), z2a), ((99, 2), z03), ((99, 2), z05)]
noncomputable def Γ8 : Ctx := ⟨tyTab, fnTab, tblSum tb8, tblLp lt8⟩
theorem tb8_ok : SumL Try.prog tb8 := SumL.cons z0q (SumL.cons z0g (SumL.cons z0k (SumL.cons z0p (SumL.cons z0v (SumL.cons z0o (SumL.cons z14 (SumL.cons z0t (SumL.cons z15 (SumL.cons z23 (SumL.cons z0u (SumL.cons z12 (SumL.cons z11 (SumL.cons z1m (SumL.cons z18 (SumL.cons z1n (SumL.cons z0m (SumL.cons z0x (SumL.cons z0w (SumL.cons z1a (SumL.cons z13 (SumL.cons z1j (SumL.cons z2i (SumL.cons z08 (SumL.cons z2d (SumL.cons z0e (SumL.cons z2k (SumL.cons z2b (SumL.cons z1u (SumL.cons z06 (SumL.cons z0b (SumL.cons z20 (SumL.cons z25 (SumL.nil)))))))))))))))))))))))))))))))))
theorem lt8_ok : LpL Try.prog fnTab lt8 := LpL.cons z0i (LpL.cons z0j (LpL.cons z1o (LpL.cons z02 (LpL.cons z04 (LpL.nil)))))
noncomputable def zbc (t8 : Nat) (t9 : Int) (t10 : Int) (b0 : List Nat) (b1 : List Nat) (b2 : List Nat) (q0m : Nat) (q0s : Nat) (q0r : Nat) : Bool × LO := ((z95 t8 b0 q0m t10), (LO.one (Ex.exit 0) (St.mk [(0, (AV.v (TV.one (At.ptr 3 0 3)))), (8, (AV.v (TV.one (At.flt FloatKind.f32 t8)))), (9, (AV.v (TV.one (At.int IntKind.i64 t9)))), (10, (AV.v (TV.one (At.int IntKind.i64 (z00 t8 b0 q0m t10))))), (36, (AV.v (TV.one (At.bool (z9r t8 b0 q0m t10)))))] [(Blk.mk Bool.false (Body.fl FloatKind.f32 b0)), (Blk.mk Bool.false (Body.fl FloatKind.f32 b1)), (Blk.mk Bool.false (Body.fl FloatKind.f32 b2)), (Blk.mk Bool.false (Body.cells [(At.vw 0 0 q0m 1), (At.vw 1 0 q0s 1), (At.vw 2 0 q0r 1)]))])))
noncomputable def z2g : Nat → St → Option (Bool × LO) := lpT 4 (pSt [(pTm 0 (pV (pOne (pPtr 3 (liN 0) 3)))), (pTm 8 (pV (pOne (pFlt FloatKind.f32)))), (pTm 9 (pV (pOne (pInt IntKind.i64)))), (pTm 10 (pV (pOne (pInt IntKind.i64))))] [(pBlk Bool.false (pFl FloatKind.f32)), (pBlk Bool.false (pFl FloatKind.f32)), (pBlk Bool.false (pFl FloatKind.f32)), (pBlk Bool.false (pCells [(pVw 0 (liN 0) 1), (pVw 1 (liN 0) 1), (pVw 2 (liN 0) 1)]))]) (fun hs => zbc (hvN (hGet hs 0)) (hvI (hGet hs 1)) (hvI (hGet hs 2)) (hvLn (hGet hs 3)) (hvLn (hGet hs 4)) (hvLn (hGet hs 5)) (hvN (hGet hs 6)) (hvN (hGet hs 7)) (hvN (hGet hs 8)))
def z92 (t8 : Nat) (t9 : Int) (b0 : List Nat) (b1 : List Nat) (b2 : List Nat) (q0m : Nat) (q0s : Nat) (q0r : Nat) : Option ((Int × Bool)) → Option (Ex × St)
  | none => none
  | some r => some ((Ex.exit 0), (St.mk [(0, (AV.v (TV.one (At.ptr 3 0 3)))), (8, (AV.v (TV.one (At.flt FloatKind.f32 t8)))), (9, (AV.v (TV.one (At.int IntKind.i64 t9)))), (10, (AV.v (TV.one (At.int IntKind.i64 r.1)))), (36, (AV.v (TV.one (At.bool r.2))))] [(Blk.mk Bool.false (Body.fl FloatKind.f32 b0)), (Blk.mk Bool.false (Body.fl FloatKind.f32 b1)), (Blk.mk Bool.false (Body.fl FloatKind.f32 b2)), (Blk.mk Bool.false (Body.cells [(At.vw 0 0 q0m 1), (At.vw 1 0 q0s 1), (At.vw 2 0 q0r 1)]))]))
def zdz (t8 : Nat) (t9 : Int) (b0 : List Nat) (b1 : List Nat) (b2 : List Nat) (q0m : Nat) (q0s : Nat) (q0r : Nat) (x : Option ((Int × Bool))) : LO := (LO.one (Ex.exit 0) (St.mk [(0, (AV.v (TV.one (At.ptr 3 0 3)))), (8, (AV.v (TV.one (At.flt FloatKind.f32 t8)))), (9, (AV.v (TV.one (At.int IntKind.i64 t9)))), (10, (AV.v (TV.one (At.int IntKind.i64 (x.getD default).1)))), (36, (AV.v (TV.one (At.bool (x.getD default).2))))] [(Blk.mk Bool.false (Body.fl FloatKind.f32 b0)), (Blk.mk Bool.false (Body.fl FloatKind.f32 b1)), (Blk.mk Bool.false (Body.fl FloatKind.f32 b2)), (Blk.mk Bool.false (Body.cells [(At.vw 0 0 q0m 1), (At.vw 1 0 q0s 1), (At.vw 2 0 q0r 1)]))]))
theorem zee (t8 : Nat) (t9 : Int) (b0 : List Nat) (b1 : List Nat) (b2 : List Nat) (q0m : Nat) (q0s : Nat) (q0r : Nat) : ∀ x : Option ((Int × Bool)), x.isSome = true → (z92 t8 t9 b0 b1 b2 q0m q0s q0r) x = some (pick (zdz t8 t9 b0 b1 b2 q0m q0s q0r x))
  | none, h => by cases h
  | some r, _ => rfl
theorem ze9 (t8 : Nat) (t9 : Int) (t10 : Int) (b0 : List Nat) (b1 : List Nat) (b2 : List Nat) (q0m : Nat) (q0s : Nat) (q0r : Nat) (K : Ex → St → Option (Ex × St)) : evC (R := Ex × St) Γ8 (evFn Γ8 8 8) 50 4 fi50.nt fi50.live fi50.nl 8 (findL 4 (loopsIn fi50.code)) (St.mk [(0, (AV.v (TV.one (At.ptr 3 0 3)))), (8, (AV.v (TV.one (At.flt FloatKind.f32 t8)))), (9, (AV.v (TV.one (At.int IntKind.i64 t9)))), (10, (AV.v (TV.one (At.int IntKind.i64 t10))))] [(Blk.mk Bool.false (Body.fl FloatKind.f32 b0)), (Blk.mk Bool.false (Body.fl FloatKind.f32 b1)), (Blk.mk Bool.false (Body.fl FloatKind.f32 b2)), (Blk.mk Bool.false (Body.cells [(At.vw 0 0 q0m 1), (At.vw 1 0 q0s 1), (At.vw 2 0 q0r 1)]))]) K = z4v t8 b0 q0m t10 (fun t10' => K .normal (St.mk [(0, (AV.v (TV.one (At.ptr 3 0 3)))), (8, (AV.v (TV.one (At.flt FloatKind.f32 t8)))), (9, (AV.v (TV.one (At.int IntKind.i64 t9)))), (10, (AV.v (TV.one (At.int IntKind.i64 t10'))))] [(Blk.mk Bool.false (Body.fl FloatKind.f32 b0)), (Blk.mk Bool.false (Body.fl FloatKind.f32 b1)), (Blk.mk Bool.false (Body.fl FloatKind.f32 b2)), (Blk.mk Bool.false (Body.cells [(At.vw 0 0 q0m 1), (At.vw 1 0 q0s 1), (At.vw 2 0 q0r 1)]))])) (fun c0_ c1_ => K (Ex.exit 0) (St.mk [(0, (AV.v (TV.one (At.ptr 3 0 3)))), (8, (AV.v (TV.one (At.flt FloatKind.f32 t8)))), (9, (AV.v (TV.one (At.int IntKind.i64 t9)))), (10, (AV.v (TV.one (At.int IntKind.i64 c0_)))), (36, (AV.v (TV.one (At.bool c1_))))] [(Blk.mk Bool.false (Body.fl FloatKind.f32 b0)), (Blk.mk Bool.false (Body.fl FloatKind.f32 b1)), (Blk.mk Bool.false (Body.fl FloatKind.f32 b2)), (Blk.mk Bool.false (Body.cells [(At.vw 0 0 q0m 1), (At.vw 1 0 q0s 1), (At.vw 2 0 q0r 1)]))])) := by kernel_rfl
theorem ze7 (t8 : Nat) (t9 : Int) (b0 : List Nat) (b1 : List Nat) (b2 : List Nat) (q0m : Nat) (q0s : Nat) (q0r : Nat) : ∀ (n : Nat) (t10 : Int), iter 50 4 4 (evC (R := Ex × St) Γ8 (evFn Γ8 8 8) 50 4 fi50.nt fi50.live fi50.nl 8 (findL 4 (loopsIn fi50.code))) n (St.mk [(0, (AV.v (TV.one (At.ptr 3 0 3)))), (8, (AV.v (TV.one (At.flt FloatKind.f32 t8)))), (9, (AV.v (TV.one (At.int IntKind.i64 t9)))), (10, (AV.v (TV.one (At.int IntKind.i64 t10))))] [(Blk.mk Bool.false (Body.fl FloatKind.f32 b0)), (Blk.mk Bool.false (Body.fl FloatKind.f32 b1)), (Blk.mk Bool.false (Body.fl FloatKind.f32 b2)), (Blk.mk Bool.false (Body.cells [(At.vw 0 0 q0m 1), (At.vw 1 0 q0s 1), (At.vw 2 0 q0r 1)]))]) (fun e st => some (e, st)) = (z92 t8 t9 b0 b1 b2 q0m q0s q0r) (z43 t8 b0 q0m n t10) := by
  intro n
  induction n with
  | zero => intros; rfl
  | succ n ih =>
    intro t10
    refine Eq.trans (iter_succ ..) (Eq.trans (ze9 t8 t9 t10 b0 b1 b2 q0m q0s q0r (nextK 50 4 4 (evC (R := Ex × St) Γ8 (evFn Γ8 8 8) 50 4 fi50.nt fi50.live fi50.nl 8 (findL 4 (loopsIn fi50.code))) n (fun e st => some (e, st)))) (Eq.trans ?_ (zcj (z92 t8 t9 b0 b1 b2 q0m q0s q0r) rfl t8 b0 q0m t10 (fun t10' => z43 t8 b0 q0m n t10') (fun c0_ c1_ => some (c0_, c1_)))))
    exact congrArg (fun kn_ => z4v t8 b0 q0m t10 kn_ (fun c0_ c1_ => (z92 t8 t9 b0 b1 b2 q0m q0s q0r) (some (c0_, c1_)))) (funext fun t10' => ih t10')
theorem z1y : LoopOne Try.prog fnTab 50 4 z2g := lp_of (Γ := Γ8) tyTab_ok (FnL.ok fnTab_ok _ _) (LpL.ok lt8_ok) (SumL.ok tb8_ok _) mixed (fi := fi50) (by kernel_rfl) (by kernel_rfl) (by
  intro lo st out hp
  obtain ⟨hs, e1, e2, e3⟩ := lpT_inv hp
  clear hp
  obtain rfl : st = (St.mk [(0, (AV.v (TV.one (At.ptr 3 0 3)))), (8, (AV.v (TV.one (At.flt FloatKind.f32 (hvN (hGet hs 0)))))), (9, (AV.v (TV.one (At.int IntKind.i64 (hvI (hGet hs 1)))))), (10, (AV.v (TV.one (At.int IntKind.i64 (hvI (hGet hs 2))))))] [(Blk.mk Bool.false (Body.fl FloatKind.f32 (hvLn (hGet hs 3)))), (Blk.mk Bool.false (Body.fl FloatKind.f32 (hvLn (hGet hs 4)))), (Blk.mk Bool.false (Body.fl FloatKind.f32 (hvLn (hGet hs 5)))), (Blk.mk Bool.false (Body.cells [(At.vw 0 0 (hvN (hGet hs 6)) 1), (At.vw 1 0 (hvN (hGet hs 7)) 1), (At.vw 2 0 (hvN (hGet hs 8)) 1)]))]) := e2.trans (by kernel_rfl)
  clear e2
  subst e1
  unfold zbc at e3
  injection e3 with h1 h2
  subst h2
  exact ⟨8, 8, big, Eq.trans (ze7 (hvN (hGet hs 0)) (hvI (hGet hs 1)) (hvLn (hGet hs 3)) (hvLn (hGet hs 4)) (hvLn (hGet hs 5)) (hvN (hGet hs 6)) (hvN (hGet hs 7)) (hvN (hGet hs 8)) big (hvI (hGet hs 2))) (zee (hvN (hGet hs 0)) (hvI (hGet hs 1)) (hvLn (hGet hs 3)) (hvLn (hGet hs 4)) (hvLn (hGet hs 5)) (hvN (hGet hs 6)) (hvN (hGet hs 7)) (hvN (hGet hs 8)) (z43 (hvN (hGet hs 0)) (hvLn (hGet hs 3)) (hvN (hGet hs 6)) big (hvI (hGet hs 2))) h1)⟩)
noncomputable def z55 (sn : Nat) (t7 : Int) (t8 : Int) (b0 : List Nat) (b1 : List Nat) (b2 : List Nat) (q0m : Nat) (q0s : Nat) (q0r : Nat) (b4 : Nat) : Bool × LO := ((z3c sn t7 b0 b4 t8), (LO.two (z3b sn t7 b0 b4 t8) (LO.one Ex.ret (St.mk [(4, (AV.v (TV.one (At.int IntKind.i64 (z1r sn t7 b0 b4 t8)))))] [(Blk.mk Bool.false (Body.fl FloatKind.f32 b0)), (Blk.mk Bool.false (Body.fl FloatKind.f32 b1)), (Blk.mk Bool.false (Body.fl FloatKind.f32 b2)), (Blk.mk Bool.true (Body.cells [(At.vw 0 0 q0m 1), (At.vw 1 0 q0s 1), (At.vw 2 0 q0r 1)])), (Blk.mk Bool.true (Body.cells [(At.flt FloatKind.f32 b4)]))])) (LO.one (Ex.exit 0) (St.mk [(0, (AV.v (TV.one (At.vw 0 0 sn 1)))), (1, (AV.v (TV.one (At.fn 100 [(At.ptr 4 0 1)])))), (7, (AV.v (TV.one (At.int IntKind.i64 t7)))), (8, (AV.v (TV.one (At.int IntKind.i64 (z4k sn t7 b0 b4 t8))))), (9, (AV.v (TV.one (At.bool (z4j sn t7 b0 b4 t8)))))] [(Blk.mk Bool.false (Body.fl FloatKind.f32 b0)), (Blk.mk Bool.false (Body.fl FloatKind.f32 b1)), (Blk.mk Bool.false (Body.fl FloatKind.f32 b2)), (Blk.mk Bool.true (Body.cells [(At.vw 0 0 q0m 1), (At.vw 1 0 q0s 1), (At.vw 2 0 q0r 1)])), (Blk.mk Bool.true (Body.cells [(At.flt FloatKind.f32 b4)]))]))))
noncomputable def z0d : Nat → St → Option (Bool × LO) := lpT 5 (pSt [(pTm 0 (pV (pOne (pVw 0 (liN 0) 1)))), (pTm 1 (pV (pOne (pFn 100 [(pPtr 4 (liN 0) 1)])))), (pTm 7 (pV (pOne (pInt IntKind.i64)))), (pTm 8 (pV (pOne (pInt IntKind.i64))))] [(pBlk Bool.false (pFl FloatKind.f32)), (pBlk Bool.false (pFl FloatKind.f32)), (pBlk Bool.false (pFl FloatKind.f32)), (pBlk Bool.true (pCells [(pVw 0 (liN 0) 1), (pVw 1 (liN 0) 1), (pVw 2 (liN 0) 1)])), (pBlk Bool.true (pCells [(pFlt FloatKind.f32)]))]) (fun hs => z55 (hvN (hGet hs 0)) (hvI (hGet hs 1)) (hvI (hGet hs 2)) (hvLn (hGet hs 3)) (hvLn (hGet hs 4)) (hvLn (hGet hs 5)) (hvN (hGet hs 6)) (hvN (hGet hs 7)) (hvN (hGet hs 8)) (hvN (hGet hs 9)))
def z3s (sn : Nat) (t7 : Int) (b0 : List Nat) (b1 : List Nat) (b2 : List Nat) (q0m : Nat) (q0s : Nat) (q0r : Nat) (b4 : Nat) : Option ((Int) ⊕ (Int × Bool)) → Option (Ex × St)
  | none => none
  | some (Sum.inl r) => some (Ex.ret, (St.mk [(4, (AV.v (TV.one (At.int IntKind.i64 r))))] [(Blk.mk Bool.false (Body.fl FloatKind.f32 b0)), (Blk.mk Bool.false (Body.fl FloatKind.f32 b1)), (Blk.mk Bool.false (Body.fl FloatKind.f32 b2)), (Blk.mk Bool.true (Body.cells [(At.vw 0 0 q0m 1), (At.vw 1 0 q0s 1), (At.vw 2 0 q0r 1)])), (Blk.mk Bool.true (Body.cells [(At.flt FloatKind.f32 b4)]))]))
  | some (Sum.inr r) => some ((Ex.exit 0), (St.mk [(0, (AV.v (TV.one (At.vw 0 0 sn 1)))), (1, (AV.v (TV.one (At.fn 100 [(At.ptr 4 0 1)])))), (7, (AV.v (TV.one (At.int IntKind.i64 t7)))), (8, (AV.v (TV.one (At.int IntKind.i64 r.1)))), (9, (AV.v (TV.one (At.bool r.2))))] [(Blk.mk Bool.false (Body.fl FloatKind.f32 b0)), (Blk.mk Bool.false (Body.fl FloatKind.f32 b1)), (Blk.mk Bool.false (Body.fl FloatKind.f32 b2)), (Blk.mk Bool.true (Body.cells [(At.vw 0 0 q0m 1), (At.vw 1 0 q0s 1), (At.vw 2 0 q0r 1)])), (Blk.mk Bool.true (Body.cells [(At.flt FloatKind.f32 b4)]))]))
def z86 (sn : Nat) (t7 : Int) (b0 : List Nat) (b1 : List Nat) (b2 : List Nat) (q0m : Nat) (q0s : Nat) (q0r : Nat) (b4 : Nat) (x : Option ((Int) ⊕ (Int × Bool))) : LO := (LO.two (oL x) (LO.one Ex.ret (St.mk [(4, (AV.v (TV.one (At.int IntKind.i64 ((tL x).getD default)))))] [(Blk.mk Bool.false (Body.fl FloatKind.f32 b0)), (Blk.mk Bool.false (Body.fl FloatKind.f32 b1)), (Blk.mk Bool.false (Body.fl FloatKind.f32 b2)), (Blk.mk Bool.true (Body.cells [(At.vw 0 0 q0m 1), (At.vw 1 0 q0s 1), (At.vw 2 0 q0r 1)])), (Blk.mk Bool.true (Body.cells [(At.flt FloatKind.f32 b4)]))])) (LO.one (Ex.exit 0) (St.mk [(0, (AV.v (TV.one (At.vw 0 0 sn 1)))), (1, (AV.v (TV.one (At.fn 100 [(At.ptr 4 0 1)])))), (7, (AV.v (TV.one (At.int IntKind.i64 t7)))), (8, (AV.v (TV.one (At.int IntKind.i64 ((tR x).getD default).1)))), (9, (AV.v (TV.one (At.bool ((tR x).getD default).2))))] [(Blk.mk Bool.false (Body.fl FloatKind.f32 b0)), (Blk.mk Bool.false (Body.fl FloatKind.f32 b1)), (Blk.mk Bool.false (Body.fl FloatKind.f32 b2)), (Blk.mk Bool.true (Body.cells [(At.vw 0 0 q0m 1), (At.vw 1 0 q0s 1), (At.vw 2 0 q0r 1)])), (Blk.mk Bool.true (Body.cells [(At.flt FloatKind.f32 b4)]))])))
theorem z8t (sn : Nat) (t7 : Int) (b0 : List Nat) (b1 : List Nat) (b2 : List Nat) (q0m : Nat) (q0s : Nat) (q0r : Nat) (b4 : Nat) : ∀ x : Option ((Int) ⊕ (Int × Bool)), x.isSome = true → (z3s sn t7 b0 b1 b2 q0m q0s q0r b4) x = some (pick (z86 sn t7 b0 b1 b2 q0m q0s q0r b4 x))
  | none, h => by cases h
  | some (Sum.inl r), _ => rfl
  | some (Sum.inr r), _ => rfl
theorem z8r (sn : Nat) (t7 : Int) (t8 : Int) (b0 : List Nat) (b1 : List Nat) (b2 : List Nat) (q0m : Nat) (q0s : Nat) (q0r : Nat) (b4 : Nat) (K : Ex → St → Option (Ex × St)) : evC (R := Ex × St) Γ8 (evFn Γ8 8 8) 99 5 fi99.nt fi99.live fi99.nl 8 (findL 2 (loopsIn fi99.code)) (St.mk [(0, (AV.v (TV.one (At.vw 0 0 sn 1)))), (1, (AV.v (TV.one (At.fn 100 [(At.ptr 4 0 1)])))), (7, (AV.v (TV.one (At.int IntKind.i64 t7)))), (8, (AV.v (TV.one (At.int IntKind.i64 t8))))] [(Blk.mk Bool.false (Body.fl FloatKind.f32 b0)), (Blk.mk Bool.false (Body.fl FloatKind.f32 b1)), (Blk.mk Bool.false (Body.fl FloatKind.f32 b2)), (Blk.mk Bool.true (Body.cells [(At.vw 0 0 q0m 1), (At.vw 1 0 q0s 1), (At.vw 2 0 q0r 1)])), (Blk.mk Bool.true (Body.cells [(At.flt FloatKind.f32 b4)]))]) K = z2o sn t7 b0 b4 t8 (fun t8' => K .normal (St.mk [(0, (AV.v (TV.one (At.vw 0 0 sn 1)))), (1, (AV.v (TV.one (At.fn 100 [(At.ptr 4 0 1)])))), (7, (AV.v (TV.one (At.int IntKind.i64 t7)))), (8, (AV.v (TV.one (At.int IntKind.i64 t8'))))] [(Blk.mk Bool.false (Body.fl FloatKind.f32 b0)), (Blk.mk Bool.false (Body.fl FloatKind.f32 b1)), (Blk.mk Bool.false (Body.fl FloatKind.f32 b2)), (Blk.mk Bool.true (Body.cells [(At.vw 0 0 q0m 1), (At.vw 1 0 q0s 1), (At.vw 2 0 q0r 1)])), (Blk.mk Bool.true (Body.cells [(At.flt FloatKind.f32 b4)]))])) (fun c0_ => K Ex.ret (St.mk [(4, (AV.v (TV.one (At.int IntKind.i64 c0_))))] [(Blk.mk Bool.false (Body.fl FloatKind.f32 b0)), (Blk.mk Bool.false (Body.fl FloatKind.f32 b1)), (Blk.mk Bool.false (Body.fl FloatKind.f32 b2)), (Blk.mk Bool.true (Body.cells [(At.vw 0 0 q0m 1), (At.vw 1 0 q0s 1), (At.vw 2 0 q0r 1)])), (Blk.mk Bool.true (Body.cells [(At.flt FloatKind.f32 b4)]))])) (fun c0_ c1_ => K (Ex.exit 0) (St.mk [(0, (AV.v (TV.one (At.vw 0 0 sn 1)))), (1, (AV.v (TV.one (At.fn 100 [(At.ptr 4 0 1)])))), (7, (AV.v (TV.one (At.int IntKind.i64 t7)))), (8, (AV.v (TV.one (At.int IntKind.i64 c0_)))), (9, (AV.v (TV.one (At.bool c1_))))] [(Blk.mk Bool.false (Body.fl FloatKind.f32 b0)), (Blk.mk Bool.false (Body.fl FloatKind.f32 b1)), (Blk.mk Bool.false (Body.fl FloatKind.f32 b2)), (Blk.mk Bool.true (Body.cells [(At.vw 0 0 q0m 1), (At.vw 1 0 q0s 1), (At.vw 2 0 q0r 1)])), (Blk.mk Bool.true (Body.cells [(At.flt FloatKind.f32 b4)]))])) := by kernel_rfl
theorem z8i (sn : Nat) (t7 : Int) (b0 : List Nat) (b1 : List Nat) (b2 : List Nat) (q0m : Nat) (q0s : Nat) (q0r : Nat) (b4 : Nat) : ∀ (n : Nat) (t8 : Int), iter 99 2 5 (evC (R := Ex × St) Γ8 (evFn Γ8 8 8) 99 5 fi99.nt fi99.live fi99.nl 8 (findL 2 (loopsIn fi99.code))) n (St.mk [(0, (AV.v (TV.one (At.vw 0 0 sn 1)))), (1, (AV.v (TV.one (At.fn 100 [(At.ptr 4 0 1)])))), (7, (AV.v (TV.one (At.int IntKind.i64 t7)))), (8, (AV.v (TV.one (At.int IntKind.i64 t8))))] [(Blk.mk Bool.false (Body.fl FloatKind.f32 b0)), (Blk.mk Bool.false (Body.fl FloatKind.f32 b1)), (Blk.mk Bool.false (Body.fl FloatKind.f32 b2)), (Blk.mk Bool.true (Body.cells [(At.vw 0 0 q0m 1), (At.vw 1 0 q0s 1), (At.vw 2 0 q0r 1)])), (Blk.mk Bool.true (Body.cells [(At.flt FloatKind.f32 b4)]))]) (fun e st => some (e, st)) = (z3s sn t7 b0 b1 b2 q0m q0s q0r b4) (z0l sn t7 b0 b4 n t8) := by
  intro n
  induction n with
  | zero => intros; rfl
  | succ n ih =>
    intro t8
    refine Eq.trans (iter_succ ..) (Eq.trans (z8r sn t7 t8 b0 b1 b2 q0m q0s q0r b4 (nextK 99 2 5 (evC (R := Ex × St) Γ8 (evFn Γ8 8 8) 99 5 fi99.nt fi99.live fi99.nl 8 (findL 2 (loopsIn fi99.code))) n (fun e st => some (e, st)))) (Eq.trans ?_ (z7o (z3s sn t7 b0 b1 b2 q0m q0s q0r b4) rfl sn t7 b0 b4 t8 (fun t8' => z0l sn t7 b0 b4 n t8') (fun c0_ => some (Sum.inl c0_)) (fun c0_ c1_ => some (Sum.inr (c0_, c1_))))))
    exact congrArg (fun kn_ => z2o sn t7 b0 b4 t8 kn_ (fun c0_ => (z3s sn t7 b0 b1 b2 q0m q0s q0r b4) (some (Sum.inl c0_))) (fun c0_ c1_ => (z3s sn t7 b0 b1 b2 q0m q0s q0r b4) (some (Sum.inr (c0_, c1_))))) (funext fun t8' => ih t8')
theorem z07 : LoopOne Try.prog fnTab 99 2 z0d := lp_of (Γ := Γ8) tyTab_ok (FnL.ok fnTab_ok _ _) (LpL.ok lt8_ok) (SumL.ok tb8_ok _) mixed (fi := fi99) (by kernel_rfl) (by kernel_rfl) (by
  intro lo st out hp
  obtain ⟨hs, e1, e2, e3⟩ := lpT_inv hp
  clear hp
  obtain rfl : st = (St.mk [(0, (AV.v (TV.one (At.vw 0 0 (hvN (hGet hs 0)) 1)))), (1, (AV.v (TV.one (At.fn 100 [(At.ptr 4 0 1)])))), (7, (AV.v (TV.one (At.int IntKind.i64 (hvI (hGet hs 1)))))), (8, (AV.v (TV.one (At.int IntKind.i64 (hvI (hGet hs 2))))))] [(Blk.mk Bool.false (Body.fl FloatKind.f32 (hvLn (hGet hs 3)))), (Blk.mk Bool.false (Body.fl FloatKind.f32 (hvLn (hGet hs 4)))), (Blk.mk Bool.false (Body.fl FloatKind.f32 (hvLn (hGet hs 5)))), (Blk.mk Bool.true (Body.cells [(At.vw 0 0 (hvN (hGet hs 6)) 1), (At.vw 1 0 (hvN (hGet hs 7)) 1), (At.vw 2 0 (hvN (hGet hs 8)) 1)])), (Blk.mk Bool.true (Body.cells [(At.flt FloatKind.f32 (hvN (hGet hs 9)))]))]) := e2.trans (by kernel_rfl)
  clear e2
  subst e1
  unfold z55 at e3
  injection e3 with h1 h2
  subst h2
  exact ⟨8, 8, big, Eq.trans (z8i (hvN (hGet hs 0)) (hvI (hGet hs 1)) (hvLn (hGet hs 3)) (hvLn (hGet hs 4)) (hvLn (hGet hs 5)) (hvN (hGet hs 6)) (hvN (hGet hs 7)) (hvN (hGet hs 8)) (hvN (hGet hs 9)) big (hvI (hGet hs 2))) (z8t (hvN (hGet hs 0)) (hvI (hGet hs 1)) (hvLn (hGet hs 3)) (hvLn (hGet hs 4)) (hvLn (hGet hs 5)) (hvN (hGet hs 6)) (hvN (hGet hs 7)) (hvN (hGet hs 8)) (hvN (hGet hs 9)) (z0l (hvN (hGet hs 0)) (hvI (hGet hs 1)) (hvLn (hGet hs 3)) (hvN (hGet hs 9)) big (hvI (hGet hs 2))) h1)⟩)
noncomputable def tb9 : List (Nat × (List PT → Option (Bool × AV × List Blk))) := [(125, z1b), (128, z0h), (134, z0r), (137, z1c), (18, z1k), (48, z16), (54, z1v), (61, z1h), (97, z1w), (102, z2n), (109, z1i), (14, z1q), (51, z1p), (56, z28), (103, z1z), (111, z27), (118, z10), (52, z1g), (119, z1f), (16, z1x), (57, z1l), (19, z22), (62, z2x), (99, z0a), (49, z2q), (99, z0f), (116, z31), (94, z2p), (98, z29), (117, z09), (117, z0c), (95, z2c), (96, z2l)]
noncomputable def lt9 : List ((Nat × Nat) × (Nat → St → Option (Bool × LO))) := [((52, 3), z0n), ((57, 4), z0s), ((62, 5), z2a), ((99, 2), z03), ((99, 2), z05), ((50, 4), z2g), ((99, 2), z0d)]
noncomputable def Γ9 : Ctx := ⟨tyTab, fnTab, tblSum tb9, tblLp lt9⟩
theorem tb9_ok : SumL Try.prog tb9 := SumL.cons z0q (SumL.cons z0g (SumL.cons z0k (SumL.cons z0p (SumL.cons z0v (SumL.cons z0o (SumL.cons z14 (SumL.cons z0t (SumL.cons z15 (SumL.cons z23 (SumL.cons z0u (SumL.cons z12 (SumL.cons z11 (SumL.cons z1m (SumL.cons z18 (SumL.cons z1n (SumL.cons z0m (SumL.cons z0x (SumL.cons z0w (SumL.cons z1a (SumL.cons z13 (SumL.cons z1j (SumL.cons z2i (SumL.cons z08 (SumL.cons z2d (SumL.cons z0e (SumL.cons z2k (SumL.cons z2b (SumL.cons z1u (SumL.cons z06 (SumL.cons z0b (SumL.cons z20 (SumL.cons z25 (SumL.nil)))))))))))))))))))))))))))))))))
theorem lt9_ok : LpL Try.prog fnTab lt9 := LpL.cons z0i (LpL.cons z0j (LpL.cons z1o (LpL.cons z02 (LpL.cons z04 (LpL.cons z1y (LpL.cons z07 (LpL.nil)))))))
noncomputable def z2y : List PT → Option (Bool × AV × List Blk)
  | [.ptr [.row 1 q00 (.fl .f32 q01), .row 1 q0c (.fl .f32 q0d), .row 1 q0b (.fl .f32 q0e)], .one (.s (.flt .f32 x1))] => some ((zau q00 q01 q0c q0d q0b q0e x1), ((AV.tup [(TV.one (At.int IntKind.i64 (z5u q00 q01 q0c q0d q0b q0e x1))), (TV.one (At.int IntKind.i64 (z8p q00 q01 q0c q0d q0b q0e x1))), (TV.one (At.flt FloatKind.f32 (zaa q00 q01 q0c q0d q0b q0e x1))), (TV.one (At.flt FloatKind.f32 (zb8 q00 q01 q0c q0d q0b q0e x1)))]), []))
  | _ => none
def zcw (q00 : Nat) (q01 : List Nat) (q0c : Nat) (q0d : List Nat) (q0b : Nat) (q0e : List Nat) (x1 : Nat) : Option (Int × Int × Nat × Nat) → Option (AV × List Blk)
  | some r => some ((AV.tup [(TV.one (At.int IntKind.i64 r.1)), (TV.one (At.int IntKind.i64 r.2.1)), (TV.one (At.flt FloatKind.f32 r.2.2.1)), (TV.one (At.flt FloatKind.f32 r.2.2.2))]), [])
  | none => none
theorem zfq (q00 : Nat) (q01 : List Nat) (q0c : Nat) (q0d : List Nat) (q0b : Nat) (q0e : List Nat) (x1 : Nat) : evFn Γ9 8 8 50 (impTs 0 [.ptr [.row 1 q00 (.fl .f32 q01), .row 1 q0c (.fl .f32 q0d), .row 1 q0b (.fl .f32 q0e)], .one (.s (.flt .f32 x1))]).1 (impTs 0 [.ptr [.row 1 q00 (.fl .f32 q01), .row 1 q0c (.fl .f32 q0d), .row 1 q0b (.fl .f32 q0e)], .one (.s (.flt .f32 x1))]).2 (expo (impTs 0 [.ptr [.row 1 q00 (.fl .f32 q01), .row 1 q0c (.fl .f32 q0d), .row 1 q0b (.fl .f32 q0e)], .one (.s (.flt .f32 x1))]).2.length) = z6l q00 q01 q0c q0d q0b q0e x1 (fun c0_ c1_ c2_ c3_ => some ((AV.tup [(TV.one (At.int IntKind.i64 c0_)), (TV.one (At.int IntKind.i64 c1_)), (TV.one (At.flt FloatKind.f32 c2_)), (TV.one (At.flt FloatKind.f32 c3_))]), [])) := by kernel_rfl
theorem z2m : SumOne Try.prog 50 z2y := sum_of (Γ := Γ9) (fuel := 8) (d := 8) tyTab_ok (FnL.ok fnTab_ok _ _) (LpL.ok lt9_ok) (SumL.ok tb9_ok _) mixed (by
  intro pts v news hp hc
  clear hc
  unfold z2y at hp
  split at hp
  · rename_i q00 q01 q0c q0d q0b q0e x1
    exact Eq.trans (Eq.trans (zfq q00 q01 q0c q0d q0b q0e x1) (zdy (zcw q00 q01 q0c q0d q0b q0e x1) rfl q00 q01 q0c q0d q0b q0e x1 (fun c0_ c1_ c2_ c3_ => some (c0_, c1_, c2_, c3_)))) (fin_out (o := (zcw q00 q01 q0c q0d q0b q0e x1)) (x := z4x q00 q01 q0c q0d q0b q0e x1) (d := default) (V := fun r => ((AV.tup [(TV.one (At.int IntKind.i64 r.1)), (TV.one (At.int IntKind.i64 r.2.1)), (TV.one (At.flt FloatKind.f32 r.2.2.1)), (TV.one (At.flt FloatKind.f32 r.2.2.2))]), [])) (fun r => rfl) hp)
  · cases hp)
noncomputable def z17 : List PT → Option (Bool × AV × List Blk)
  | [.agg [.row 1 q00 (.fl .f32 q01), .row 1 q0c (.fl .f32 q0d), .row 1 q0b (.fl .f32 q0e)], .one (.s (.flt .f32 x1))] => some ((z6x q00 q01 q0c q0d q0b q0e x1), ((AV.tup [(TV.one (At.int IntKind.i64 (z40 q00 q01 q0c q0d q0b q0e x1))), (TV.one (At.int IntKind.i64 (z41 q00 q01 q0c q0d q0b q0e x1))), (TV.one (At.flt FloatKind.f32 (z4c q00 q01 q0c q0d q0b q0e x1))), (TV.one (At.flt FloatKind.f32 (z4w q00 q01 q0c q0d q0b q0e x1))), (TV.one (At.flt FloatKind.f32 (z57 q00 q01 q0c q0d q0b q0e x1)))]), []))
  | _ => none
def zay (q00 : Nat) (q01 : List Nat) (q0c : Nat) (q0d : List Nat) (q0b : Nat) (q0e : List Nat) (x1 : Nat) : Option (Int × Int × Nat × Nat × Nat) → Option (AV × List Blk)
  | some r => some ((AV.tup [(TV.one (At.int IntKind.i64 r.1)), (TV.one (At.int IntKind.i64 r.2.1)), (TV.one (At.flt FloatKind.f32 r.2.2.1)), (TV.one (At.flt FloatKind.f32 r.2.2.2.1)), (TV.one (At.flt FloatKind.f32 r.2.2.2.2))]), [])
  | none => none
theorem zcg (q00 : Nat) (q01 : List Nat) (q0c : Nat) (q0d : List Nat) (q0b : Nat) (q0e : List Nat) (x1 : Nat) : evFn Γ9 8 8 55 (impTs 0 [.agg [.row 1 q00 (.fl .f32 q01), .row 1 q0c (.fl .f32 q0d), .row 1 q0b (.fl .f32 q0e)], .one (.s (.flt .f32 x1))]).1 (impTs 0 [.agg [.row 1 q00 (.fl .f32 q01), .row 1 q0c (.fl .f32 q0d), .row 1 q0b (.fl .f32 q0e)], .one (.s (.flt .f32 x1))]).2 (expo (impTs 0 [.agg [.row 1 q00 (.fl .f32 q01), .row 1 q0c (.fl .f32 q0d), .row 1 q0b (.fl .f32 q0e)], .one (.s (.flt .f32 x1))]).2.length) = z4s q00 q01 q0c q0d q0b q0e x1 (fun c0_ c1_ c2_ c3_ c4_ => some ((AV.tup [(TV.one (At.int IntKind.i64 c0_)), (TV.one (At.int IntKind.i64 c1_)), (TV.one (At.flt FloatKind.f32 c2_)), (TV.one (At.flt FloatKind.f32 c3_)), (TV.one (At.flt FloatKind.f32 c4_))]), [])) := by kernel_rfl
theorem z0y : SumOne Try.prog 55 z17 := sum_of (Γ := Γ9) (fuel := 8) (d := 8) tyTab_ok (FnL.ok fnTab_ok _ _) (LpL.ok lt9_ok) (SumL.ok tb9_ok _) mixed (by
  intro pts v news hp hc
  clear hc
  unfold z17 at hp
  split at hp
  · rename_i q00 q01 q0c q0d q0b q0e x1
    exact Eq.trans (Eq.trans (zcg q00 q01 q0c q0d q0b q0e x1) (zbh (zay q00 q01 q0c q0d q0b q0e x1) rfl q00 q01 q0c q0d q0b q0e x1 (fun c0_ c1_ c2_ c3_ c4_ => some (c0_, c1_, c2_, c3_, c4_)))) (fin_out (o := (zay q00 q01 q0c q0d q0b q0e x1)) (x := z3v q00 q01 q0c q0d q0b q0e x1) (d := default) (V := fun r => ((AV.tup [(TV.one (At.int IntKind.i64 r.1)), (TV.one (At.int IntKind.i64 r.2.1)), (TV.one (At.flt FloatKind.f32 r.2.2.1)), (TV.one (At.flt FloatKind.f32 r.2.2.2.1)), (TV.one (At.flt FloatKind.f32 r.2.2.2.2))]), [])) (fun r => rfl) hp)
  · cases hp)
noncomputable def zam (q0z : Nat) (t43 : Int) (t44 : Int) (b0 : List Nat) (b1 : List Nat) (b2 : List Nat) (q0m : Nat) (q0s : Nat) (q0r : Nat) : Bool × LO := ((z4t q0z t43 b0 q0m t44), (LO.two (z4n q0z t43 b0 q0m t44) (LO.one Ex.ret (St.mk [(2, (AV.v (TV.one (At.bool Bool.false))))] [(Blk.mk Bool.false (Body.fl FloatKind.f32 b0)), (Blk.mk Bool.false (Body.fl FloatKind.f32 b1)), (Blk.mk Bool.false (Body.fl FloatKind.f32 b2))])) (LO.one (Ex.exit 0) (St.mk [(1, (AV.v (TV.one (At.ptr 3 0 3)))), (42, (AV.v (TV.one (At.vw 0 0 q0z 1)))), (43, (AV.v (TV.one (At.int IntKind.i64 t43)))), (44, (AV.v (TV.one (At.int IntKind.i64 (z7e q0z t43 b0 q0m t44))))), (45, (AV.v (TV.one (At.bool (z7h q0z t43 b0 q0m t44)))))] [(Blk.mk Bool.false (Body.fl FloatKind.f32 b0)), (Blk.mk Bool.false (Body.fl FloatKind.f32 b1)), (Blk.mk Bool.false (Body.fl FloatKind.f32 b2)), (Blk.mk Bool.true (Body.cells [(At.vw 0 0 q0m 1), (At.vw 1 0 q0s 1), (At.vw 2 0 q0r 1)]))]))))
noncomputable def z1d : Nat → St → Option (Bool × LO) := lpT 3 (pSt [(pTm 1 (pV (pOne (pPtr 3 (liN 0) 3)))), (pTm 42 (pV (pOne (pVw 0 (liN 0) 1)))), (pTm 43 (pV (pOne (pInt IntKind.i64)))), (pTm 44 (pV (pOne (pInt IntKind.i64))))] [(pBlk Bool.false (pFl FloatKind.f32)), (pBlk Bool.false (pFl FloatKind.f32)), (pBlk Bool.false (pFl FloatKind.f32)), (pBlk Bool.true (pCells [(pVw 0 (liN 0) 1), (pVw 1 (liN 0) 1), (pVw 2 (liN 0) 1)]))]) (fun hs => zam (hvN (hGet hs 0)) (hvI (hGet hs 1)) (hvI (hGet hs 2)) (hvLn (hGet hs 3)) (hvLn (hGet hs 4)) (hvLn (hGet hs 5)) (hvN (hGet hs 6)) (hvN (hGet hs 7)) (hvN (hGet hs 8)))
def z5g (q0z : Nat) (t43 : Int) (b0 : List Nat) (b1 : List Nat) (b2 : List Nat) (q0m : Nat) (q0s : Nat) (q0r : Nat) : Option ((Unit) ⊕ (Int × Bool)) → Option (Ex × St)
  | none => none
  | some (Sum.inl r) => some (Ex.ret, (St.mk [(2, (AV.v (TV.one (At.bool Bool.false))))] [(Blk.mk Bool.false (Body.fl FloatKind.f32 b0)), (Blk.mk Bool.false (Body.fl FloatKind.f32 b1)), (Blk.mk Bool.false (Body.fl FloatKind.f32 b2))]))
  | some (Sum.inr r) => some ((Ex.exit 0), (St.mk [(1, (AV.v (TV.one (At.ptr 3 0 3)))), (42, (AV.v (TV.one (At.vw 0 0 q0z 1)))), (43, (AV.v (TV.one (At.int IntKind.i64 t43)))), (44, (AV.v (TV.one (At.int IntKind.i64 r.1)))), (45, (AV.v (TV.one (At.bool r.2))))] [(Blk.mk Bool.false (Body.fl FloatKind.f32 b0)), (Blk.mk Bool.false (Body.fl FloatKind.f32 b1)), (Blk.mk Bool.false (Body.fl FloatKind.f32 b2)), (Blk.mk Bool.true (Body.cells [(At.vw 0 0 q0m 1), (At.vw 1 0 q0s 1), (At.vw 2 0 q0r 1)]))]))
def zc3 (q0z : Nat) (t43 : Int) (b0 : List Nat) (b1 : List Nat) (b2 : List Nat) (q0m : Nat) (q0s : Nat) (q0r : Nat) (x : Option ((Unit) ⊕ (Int × Bool))) : LO := (LO.two (oL x) (LO.one Ex.ret (St.mk [(2, (AV.v (TV.one (At.bool Bool.false))))] [(Blk.mk Bool.false (Body.fl FloatKind.f32 b0)), (Blk.mk Bool.false (Body.fl FloatKind.f32 b1)), (Blk.mk Bool.false (Body.fl FloatKind.f32 b2))])) (LO.one (Ex.exit 0) (St.mk [(1, (AV.v (TV.one (At.ptr 3 0 3)))), (42, (AV.v (TV.one (At.vw 0 0 q0z 1)))), (43, (AV.v (TV.one (At.int IntKind.i64 t43)))), (44, (AV.v (TV.one (At.int IntKind.i64 ((tR x).getD default).1)))), (45, (AV.v (TV.one (At.bool ((tR x).getD default).2))))] [(Blk.mk Bool.false (Body.fl FloatKind.f32 b0)), (Blk.mk Bool.false (Body.fl FloatKind.f32 b1)), (Blk.mk Bool.false (Body.fl FloatKind.f32 b2)), (Blk.mk Bool.true (Body.cells [(At.vw 0 0 q0m 1), (At.vw 1 0 q0s 1), (At.vw 2 0 q0r 1)]))])))
theorem zcc (q0z : Nat) (t43 : Int) (b0 : List Nat) (b1 : List Nat) (b2 : List Nat) (q0m : Nat) (q0s : Nat) (q0r : Nat) : ∀ x : Option ((Unit) ⊕ (Int × Bool)), x.isSome = true → (z5g q0z t43 b0 b1 b2 q0m q0s q0r) x = some (pick (zc3 q0z t43 b0 b1 b2 q0m q0s q0r x))
  | none, h => by cases h
  | some (Sum.inl r), _ => rfl
  | some (Sum.inr r), _ => rfl
theorem zcf (q0z : Nat) (t43 : Int) (t44 : Int) (b0 : List Nat) (b1 : List Nat) (b2 : List Nat) (q0m : Nat) (q0s : Nat) (q0r : Nat) (K : Ex → St → Option (Ex × St)) : evC (R := Ex × St) Γ9 (evFn Γ9 8 8) 53 3 fi53.nt fi53.live fi53.nl 8 (findL 5 (loopsIn fi53.code)) (St.mk [(1, (AV.v (TV.one (At.ptr 3 0 3)))), (42, (AV.v (TV.one (At.vw 0 0 q0z 1)))), (43, (AV.v (TV.one (At.int IntKind.i64 t43)))), (44, (AV.v (TV.one (At.int IntKind.i64 t44))))] [(Blk.mk Bool.false (Body.fl FloatKind.f32 b0)), (Blk.mk Bool.false (Body.fl FloatKind.f32 b1)), (Blk.mk Bool.false (Body.fl FloatKind.f32 b2)), (Blk.mk Bool.true (Body.cells [(At.vw 0 0 q0m 1), (At.vw 1 0 q0s 1), (At.vw 2 0 q0r 1)]))]) K = z45 q0z t43 b0 q0m t44 (fun t44' => K .normal (St.mk [(1, (AV.v (TV.one (At.ptr 3 0 3)))), (42, (AV.v (TV.one (At.vw 0 0 q0z 1)))), (43, (AV.v (TV.one (At.int IntKind.i64 t43)))), (44, (AV.v (TV.one (At.int IntKind.i64 t44'))))] [(Blk.mk Bool.false (Body.fl FloatKind.f32 b0)), (Blk.mk Bool.false (Body.fl FloatKind.f32 b1)), (Blk.mk Bool.false (Body.fl FloatKind.f32 b2)), (Blk.mk Bool.true (Body.cells [(At.vw 0 0 q0m 1), (At.vw 1 0 q0s 1), (At.vw 2 0 q0r 1)]))])) (fun _ => K Ex.ret (St.mk [(2, (AV.v (TV.one (At.bool Bool.false))))] [(Blk.mk Bool.false (Body.fl FloatKind.f32 b0)), (Blk.mk Bool.false (Body.fl FloatKind.f32 b1)), (Blk.mk Bool.false (Body.fl FloatKind.f32 b2))])) (fun c0_ c1_ => K (Ex.exit 0) (St.mk [(1, (AV.v (TV.one (At.ptr 3 0 3)))), (42, (AV.v (TV.one (At.vw 0 0 q0z 1)))), (43, (AV.v (TV.one (At.int IntKind.i64 t43)))), (44, (AV.v (TV.one (At.int IntKind.i64 c0_)))), (45, (AV.v (TV.one (At.bool c1_))))] [(Blk.mk Bool.false (Body.fl FloatKind.f32 b0)), (Blk.mk Bool.false (Body.fl FloatKind.f32 b1)), (Blk.mk Bool.false (Body.fl FloatKind.f32 b2)), (Blk.mk Bool.true (Body.cells [(At.vw 0 0 q0m 1), (At.vw 1 0 q0s 1), (At.vw 2 0 q0r 1)]))])) := by kernel_rfl
theorem zcb (q0z : Nat) (t43 : Int) (b0 : List Nat) (b1 : List Nat) (b2 : List Nat) (q0m : Nat) (q0s : Nat) (q0r : Nat) : ∀ (n : Nat) (t44 : Int), iter 53 5 3 (evC (R := Ex × St) Γ9 (evFn Γ9 8 8) 53 3 fi53.nt fi53.live fi53.nl 8 (findL 5 (loopsIn fi53.code))) n (St.mk [(1, (AV.v (TV.one (At.ptr 3 0 3)))), (42, (AV.v (TV.one (At.vw 0 0 q0z 1)))), (43, (AV.v (TV.one (At.int IntKind.i64 t43)))), (44, (AV.v (TV.one (At.int IntKind.i64 t44))))] [(Blk.mk Bool.false (Body.fl FloatKind.f32 b0)), (Blk.mk Bool.false (Body.fl FloatKind.f32 b1)), (Blk.mk Bool.false (Body.fl FloatKind.f32 b2)), (Blk.mk Bool.true (Body.cells [(At.vw 0 0 q0m 1), (At.vw 1 0 q0s 1), (At.vw 2 0 q0r 1)]))]) (fun e st => some (e, st)) = (z5g q0z t43 b0 b1 b2 q0m q0s q0r) (z3d q0z t43 b0 q0m n t44) := by
  intro n
  induction n with
  | zero => intros; rfl
  | succ n ih =>
    intro t44
    refine Eq.trans (iter_succ ..) (Eq.trans (zcf q0z t43 t44 b0 b1 b2 q0m q0s q0r (nextK 53 5 3 (evC (R := Ex × St) Γ9 (evFn Γ9 8 8) 53 3 fi53.nt fi53.live fi53.nl 8 (findL 5 (loopsIn fi53.code))) n (fun e st => some (e, st)))) (Eq.trans ?_ (zbg (z5g q0z t43 b0 b1 b2 q0m q0s q0r) rfl q0z t43 b0 q0m t44 (fun t44' => z3d q0z t43 b0 q0m n t44') (fun _ => some (Sum.inl ())) (fun c0_ c1_ => some (Sum.inr (c0_, c1_))))))
    exact congrArg (fun kn_ => z45 q0z t43 b0 q0m t44 kn_ (fun _ => (z5g q0z t43 b0 b1 b2 q0m q0s q0r) (some (Sum.inl ()))) (fun c0_ c1_ => (z5g q0z t43 b0 b1 b2 q0m q0s q0r) (some (Sum.inr (c0_, c1_))))) (funext fun t44' => ih t44')
theorem z0z : LoopOne Try.prog fnTab 53 5 z1d := lp_of (Γ := Γ9) tyTab_ok (FnL.ok fnTab_ok _ _) (LpL.ok lt9_ok) (SumL.ok tb9_ok _) mixed (fi := fi53) (by kernel_rfl) (by kernel_rfl) (by
  intro lo st out hp
  obtain ⟨hs, e1, e2, e3⟩ := lpT_inv hp
  clear hp
  obtain rfl : st = (St.mk [(1, (AV.v (TV.one (At.ptr 3 0 3)))), (42, (AV.v (TV.one (At.vw 0 0 (hvN (hGet hs 0)) 1)))), (43, (AV.v (TV.one (At.int IntKind.i64 (hvI (hGet hs 1)))))), (44, (AV.v (TV.one (At.int IntKind.i64 (hvI (hGet hs 2))))))] [(Blk.mk Bool.false (Body.fl FloatKind.f32 (hvLn (hGet hs 3)))), (Blk.mk Bool.false (Body.fl FloatKind.f32 (hvLn (hGet hs 4)))), (Blk.mk Bool.false (Body.fl FloatKind.f32 (hvLn (hGet hs 5)))), (Blk.mk Bool.true (Body.cells [(At.vw 0 0 (hvN (hGet hs 6)) 1), (At.vw 1 0 (hvN (hGet hs 7)) 1), (At.vw 2 0 (hvN (hGet hs 8)) 1)]))]) := e2.trans (by kernel_rfl)
  clear e2
  subst e1
  unfold zam at e3
  injection e3 with h1 h2
  subst h2
  exact ⟨8, 8, big, Eq.trans (zcb (hvN (hGet hs 0)) (hvI (hGet hs 1)) (hvLn (hGet hs 3)) (hvLn (hGet hs 4)) (hvLn (hGet hs 5)) (hvN (hGet hs 6)) (hvN (hGet hs 7)) (hvN (hGet hs 8)) big (hvI (hGet hs 2))) (zcc (hvN (hGet hs 0)) (hvI (hGet hs 1)) (hvLn (hGet hs 3)) (hvLn (hGet hs 4)) (hvLn (hGet hs 5)) (hvN (hGet hs 6)) (hvN (hGet hs 7)) (hvN (hGet hs 8)) (z3d (hvN (hGet hs 0)) (hvI (hGet hs 1)) (hvLn (hGet hs 3)) (hvN (hGet hs 6)) big (hvI (hGet hs 2))) h1)⟩)
noncomputable def tb10 : List (Nat × (List PT → Option (Bool × AV × List Blk))) := [(125, z1b), (128, z0h), (134, z0r), (137, z1c), (18, z1k), (48, z16), (54, z1v), (61, z1h), (97, z1w), (102, z2n), (109, z1i), (14, z1q), (51, z1p), (56, z28), (103, z1z), (111, z27), (118, z10), (52, z1g), (119, z1f), (16, z1x), (57, z1l), (19, z22), (62, z2x), (99, z0a), (49, z2q), (99, z0f), (116, z31), (94, z2p), (98, z29), (117, z09), (117, z0c), (95, z2c), (96, z2l), (50, z2y), (55, z17)]
noncomputable def lt10 : List ((Nat × Nat) × (Nat → St → Option (Bool × LO))) := [((52, 3), z0n), ((57, 4), z0s), ((62, 5), z2a), ((99, 2), z03), ((99, 2), z05), ((50, 4), z2g), ((99, 2), z0d), ((53, 5), z1d)]
noncomputable def Γ10 : Ctx := ⟨tyTab, fnTab, tblSum tb10, tblLp lt10⟩
theorem tb10_ok : SumL Try.prog tb10 := SumL.cons z0q (SumL.cons z0g (SumL.cons z0k (SumL.cons z0p (SumL.cons z0v (SumL.cons z0o (SumL.cons z14 (SumL.cons z0t (SumL.cons z15 (SumL.cons z23 (SumL.cons z0u (SumL.cons z12 (SumL.cons z11 (SumL.cons z1m (SumL.cons z18 (SumL.cons z1n (SumL.cons z0m (SumL.cons z0x (SumL.cons z0w (SumL.cons z1a (SumL.cons z13 (SumL.cons z1j (SumL.cons z2i (SumL.cons z08 (SumL.cons z2d (SumL.cons z0e (SumL.cons z2k (SumL.cons z2b (SumL.cons z1u (SumL.cons z06 (SumL.cons z0b (SumL.cons z20 (SumL.cons z25 (SumL.cons z2m (SumL.cons z0y (SumL.nil)))))))))))))))))))))))))))))))))))
theorem lt10_ok : LpL Try.prog fnTab lt10 := LpL.cons z0i (LpL.cons z0j (LpL.cons z1o (LpL.cons z02 (LpL.cons z04 (LpL.cons z1y (LpL.cons z07 (LpL.cons z0z (LpL.nil))))))))
noncomputable def z24 : List PT → Option (Bool × AV × List Blk)
  | [.agg [.row 1 q00 (.fl .f32 q01), .row 1 q0c (.fl .f32 q0d), .row 1 q0b (.fl .f32 q0e)]] => some ((z6e q00 q01 q0c q0d q0b q0e), ((AV.v (TV.one (At.bool (z5v q00 q01 q0c q0d q0b q0e)))), []))
  | _ => none
def zbd (q00 : Nat) (q01 : List Nat) (q0c : Nat) (q0d : List Nat) (q0b : Nat) (q0e : List Nat) : Option (Bool) → Option (AV × List Blk)
  | some r => some ((AV.v (TV.one (At.bool r))), [])
  | none => none
theorem zdn (q00 : Nat) (q01 : List Nat) (q0c : Nat) (q0d : List Nat) (q0b : Nat) (q0e : List Nat) : evFn Γ10 8 8 53 (impTs 0 [.agg [.row 1 q00 (.fl .f32 q01), .row 1 q0c (.fl .f32 q0d), .row 1 q0b (.fl .f32 q0e)]]).1 (impTs 0 [.agg [.row 1 q00 (.fl .f32 q01), .row 1 q0c (.fl .f32 q0d), .row 1 q0b (.fl .f32 q0e)]]).2 (expo (impTs 0 [.agg [.row 1 q00 (.fl .f32 q01), .row 1 q0c (.fl .f32 q0d), .row 1 q0b (.fl .f32 q0e)]]).2.length) = z5e q00 q01 q0c q0d q0b q0e (fun c0_ => some ((AV.v (TV.one (At.bool c0_))), [])) := by kernel_rfl
theorem z1t : SumOne Try.prog 53 z24 := sum_of (Γ := Γ10) (fuel := 8) (d := 8) tyTab_ok (FnL.ok fnTab_ok _ _) (LpL.ok lt10_ok) (SumL.ok tb10_ok _) mixed (by
  intro pts v news hp hc
  clear hc
  unfold z24 at hp
  split at hp
  · rename_i q00 q01 q0c q0d q0b q0e
    exact Eq.trans (Eq.trans (zdn q00 q01 q0c q0d q0b q0e) (zc4 (zbd q00 q01 q0c q0d q0b q0e) rfl q00 q01 q0c q0d q0b q0e (fun c0_ => some c0_))) (fin_out (o := (zbd q00 q01 q0c q0d q0b q0e)) (x := z5f q00 q01 q0c q0d q0b q0e) (d := default) (V := fun r => ((AV.v (TV.one (At.bool r))), [])) (fun r => rfl) hp)
  · cases hp)
noncomputable def z2j : List PT → Option (Bool × AV × List Blk)
  | [.agg [.row 1 q02 (.fl .f32 q06), .row 1 q03 (.fl .f32 q09), .row 1 q04 (.fl .f32 q0a)], .one (.row 1 q0q (.fl .f32 q0t)), .one (.s (.flt .f32 q0f))] => some ((z7a q02 q06 q03 q09 q04 q0a q0q q0t q0f), ((AV.v (TV.one (At.flt FloatKind.f32 (z4p q02 q06 q03 q09 q04 q0a q0q q0t q0f)))), []))
  | _ => none
def zbl (q02 : Nat) (q06 : List Nat) (q03 : Nat) (q09 : List Nat) (q04 : Nat) (q0a : List Nat) (q0q : Nat) (q0t : List Nat) (q0f : Nat) : Option (Nat) → Option (AV × List Blk)
  | some r => some ((AV.v (TV.one (At.flt FloatKind.f32 r))), [])
  | none => none
theorem zen (q02 : Nat) (q06 : List Nat) (q03 : Nat) (q09 : List Nat) (q04 : Nat) (q0a : List Nat) (q0q : Nat) (q0t : List Nat) (q0f : Nat) : evFn Γ10 8 8 59 (impTs 0 [.agg [.row 1 q02 (.fl .f32 q06), .row 1 q03 (.fl .f32 q09), .row 1 q04 (.fl .f32 q0a)], .one (.row 1 q0q (.fl .f32 q0t)), .one (.s (.flt .f32 q0f))]).1 (impTs 0 [.agg [.row 1 q02 (.fl .f32 q06), .row 1 q03 (.fl .f32 q09), .row 1 q04 (.fl .f32 q0a)], .one (.row 1 q0q (.fl .f32 q0t)), .one (.s (.flt .f32 q0f))]).2 (expo (impTs 0 [.agg [.row 1 q02 (.fl .f32 q06), .row 1 q03 (.fl .f32 q09), .row 1 q04 (.fl .f32 q0a)], .one (.row 1 q0q (.fl .f32 q0t)), .one (.s (.flt .f32 q0f))]).2.length) = z66 q02 q06 q03 q09 q04 q0a q0q q0t q0f (fun c0_ => some ((AV.v (TV.one (At.flt FloatKind.f32 c0_))), [])) := by kernel_rfl
theorem z26 : SumOne Try.prog 59 z2j := sum_of (Γ := Γ10) (fuel := 8) (d := 8) tyTab_ok (FnL.ok fnTab_ok _ _) (LpL.ok lt10_ok) (SumL.ok tb10_ok _) mixed (by
  intro pts v news hp hc
  clear hc
  unfold z2j at hp
  split at hp
  · rename_i q02 q06 q03 q09 q04 q0a q0q q0t q0f
    exact Eq.trans (Eq.trans (zen q02 q06 q03 q09 q04 q0a q0q q0t q0f) (zcs (zbl q02 q06 q03 q09 q04 q0a q0q q0t q0f) rfl q02 q06 q03 q09 q04 q0a q0q q0t q0f (fun c0_ => some c0_))) (fin_out (o := (zbl q02 q06 q03 q09 q04 q0a q0q q0t q0f)) (x := z65 q02 q06 q03 q09 q04 q0a q0q q0t q0f) (d := default) (V := fun r => ((AV.v (TV.one (At.flt FloatKind.f32 r))), [])) (fun r => rfl) hp)
  · cases hp)
noncomputable def z3a : List PT → Option (Bool × AV × List Blk)
  | [.ptr [.row 1 q02 (.fl .f32 q06), .row 1 q03 (.fl .f32 q09), .row 1 q04 (.fl .f32 q0a)], .one (.row 1 q0q (.fl .f32 q0t)), .one (.s (.flt .f32 q0f))] => some ((zad q02 q06 q03 q09 q04 q0a q0q q0t q0f), ((AV.v (TV.one (At.flt FloatKind.f32 (z9z q02 q06 q03 q09 q04 q0a q0q q0t q0f)))), []))
  | _ => none
def zds (q02 : Nat) (q06 : List Nat) (q03 : Nat) (q09 : List Nat) (q04 : Nat) (q0a : List Nat) (q0q : Nat) (q0t : List Nat) (q0f : Nat) : Option (Nat) → Option (AV × List Blk)
  | some r => some ((AV.v (TV.one (At.flt FloatKind.f32 r))), [])
  | none => none
theorem zg3 (q02 : Nat) (q06 : List Nat) (q03 : Nat) (q09 : List Nat) (q04 : Nat) (q0a : List Nat) (q0q : Nat) (q0t : List Nat) (q0f : Nat) : evFn Γ10 8 8 101 (impTs 0 [.ptr [.row 1 q02 (.fl .f32 q06), .row 1 q03 (.fl .f32 q09), .row 1 q04 (.fl .f32 q0a)], .one (.row 1 q0q (.fl .f32 q0t)), .one (.s (.flt .f32 q0f))]).1 (impTs 0 [.ptr [.row 1 q02 (.fl .f32 q06), .row 1 q03 (.fl .f32 q09), .row 1 q04 (.fl .f32 q0a)], .one (.row 1 q0q (.fl .f32 q0t)), .one (.s (.flt .f32 q0f))]).2 (expo (impTs 0 [.ptr [.row 1 q02 (.fl .f32 q06), .row 1 q03 (.fl .f32 q09), .row 1 q04 (.fl .f32 q0a)], .one (.row 1 q0q (.fl .f32 q0t)), .one (.s (.flt .f32 q0f))]).2.length) = z9g q02 q06 q03 q09 q04 q0a q0q q0t q0f (fun c0_ => some ((AV.v (TV.one (At.flt FloatKind.f32 c0_))), [])) := by kernel_rfl
theorem z32 : SumOne Try.prog 101 z3a := sum_of (Γ := Γ10) (fuel := 8) (d := 8) tyTab_ok (FnL.ok fnTab_ok _ _) (LpL.ok lt10_ok) (SumL.ok tb10_ok _) mixed (by
  intro pts v news hp hc
  clear hc
  unfold z3a at hp
  split at hp
  · rename_i q02 q06 q03 q09 q04 q0a q0q q0t q0f
    exact Eq.trans (Eq.trans (zg3 q02 q06 q03 q09 q04 q0a q0q q0t q0f) (zf0 (zds q02 q06 q03 q09 q04 q0a q0q q0t q0f) rfl q02 q06 q03 q09 q04 q0a q0q q0t q0f (fun c0_ => some c0_))) (fin_out (o := (zds q02 q06 q03 q09 q04 q0a q0q q0t q0f)) (x := z9i q02 q06 q03 q09 q04 q0a q0q q0t q0f) (d := default) (V := fun r => ((AV.v (TV.one (At.flt FloatKind.f32 r))), [])) (fun r => rfl) hp)
  · cases hp)
noncomputable def tb11 : List (Nat × (List PT → Option (Bool × AV × List Blk))) := [(125, z1b), (128, z0h), (134, z0r), (137, z1c), (18, z1k), (48, z16), (54, z1v), (61, z1h), (97, z1w), (102, z2n), (109, z1i), (14, z1q), (51, z1p), (56, z28), (103, z1z), (111, z27), (118, z10), (52, z1g), (119, z1f), (16, z1x), (57, z1l), (19, z22), (62, z2x), (99, z0a), (49, z2q), (99, z0f), (116, z31), (94, z2p), (98, z29), (117, z09), (117, z0c), (95, z2c), (96, z2l), (50, z2y), (55, z17), (53, z24), (59, z2j), (101, z3a)]
noncomputable def lt11 : List ((Nat × Nat) × (Nat → St → Option (Bool × LO))) := [((52, 3), z0n), ((57, 4), z0s), ((62, 5), z2a), ((99, 2), z03), ((99, 2), z05), ((50, 4), z2g), ((99, 2), z0d), ((53, 5), z1d)]
noncomputable def Γ11 : Ctx := ⟨tyTab, fnTab, tblSum tb11, tblLp lt11⟩
theorem tb11_ok : SumL Try.prog tb11 := SumL.cons z0q (SumL.cons z0g (SumL.cons z0k (SumL.cons z0p (SumL.cons z0v (SumL.cons z0o (SumL.cons z14 (SumL.cons z0t (SumL.cons z15 (SumL.cons z23 (SumL.cons z0u (SumL.cons z12 (SumL.cons z11 (SumL.cons z1m (SumL.cons z18 (SumL.cons z1n (SumL.cons z0m (SumL.cons z0x (SumL.cons z0w (SumL.cons z1a (SumL.cons z13 (SumL.cons z1j (SumL.cons z2i (SumL.cons z08 (SumL.cons z2d (SumL.cons z0e (SumL.cons z2k (SumL.cons z2b (SumL.cons z1u (SumL.cons z06 (SumL.cons z0b (SumL.cons z20 (SumL.cons z25 (SumL.cons z2m (SumL.cons z0y (SumL.cons z1t (SumL.cons z26 (SumL.cons z32 (SumL.nil))))))))))))))))))))))))))))))))))))))
theorem lt11_ok : LpL Try.prog fnTab lt11 := LpL.cons z0i (LpL.cons z0j (LpL.cons z1o (LpL.cons z02 (LpL.cons z04 (LpL.cons z1y (LpL.cons z07 (LpL.cons z0z (LpL.nil))))))))
noncomputable def z38 : List PT → Option (Bool × AV × List Blk)
  | [.agg [.row 1 q02 (.fl .f32 q06), .row 1 q03 (.fl .f32 q09), .row 1 q04 (.fl .f32 q0a)], .one (.s (.flt .f32 q0f))] => some ((zb2 q02 q06 q03 q09 q04 q0a q0f), ((AV.tup [(TV.one (At.flt FloatKind.f32 (z7t q02 q06 q03 q09 q04 q0a q0f))), (TV.one (At.bool (zaq q02 q06 q03 q09 q04 q0a q0f)))]), []))
  | _ => none
def zde (q02 : Nat) (q06 : List Nat) (q03 : Nat) (q09 : List Nat) (q04 : Nat) (q0a : List Nat) (q0f : Nat) : Option (Nat × Bool) → Option (AV × List Blk)
  | some r => some ((AV.tup [(TV.one (At.flt FloatKind.f32 r.1)), (TV.one (At.bool r.2))]), [])
  | none => none
theorem zfz (q02 : Nat) (q06 : List Nat) (q03 : Nat) (q09 : List Nat) (q04 : Nat) (q0a : List Nat) (q0f : Nat) : evFn Γ11 8 8 21 (impTs 0 [.agg [.row 1 q02 (.fl .f32 q06), .row 1 q03 (.fl .f32 q09), .row 1 q04 (.fl .f32 q0a)], .one (.s (.flt .f32 q0f))]).1 (impTs 0 [.agg [.row 1 q02 (.fl .f32 q06), .row 1 q03 (.fl .f32 q09), .row 1 q04 (.fl .f32 q0a)], .one (.s (.flt .f32 q0f))]).2 (expo (impTs 0 [.agg [.row 1 q02 (.fl .f32 q06), .row 1 q03 (.fl .f32 q09), .row 1 q04 (.fl .f32 q0a)], .one (.s (.flt .f32 q0f))]).2.length) = z8f q02 q06 q03 q09 q04 q0a q0f (fun c0_ c1_ => some ((AV.tup [(TV.one (At.flt FloatKind.f32 c0_)), (TV.one (At.bool c1_))]), [])) := by kernel_rfl
theorem z2z : SumOne Try.prog 21 z38 := sum_of (Γ := Γ11) (fuel := 8) (d := 8) tyTab_ok (FnL.ok fnTab_ok _ _) (LpL.ok lt11_ok) (SumL.ok tb11_ok _) mixed (by
  intro pts v news hp hc
  clear hc
  unfold z38 at hp
  split at hp
  · rename_i q02 q06 q03 q09 q04 q0a q0f
    exact Eq.trans (Eq.trans (zfz q02 q06 q03 q09 q04 q0a q0f) (zeb (zde q02 q06 q03 q09 q04 q0a q0f) rfl q02 q06 q03 q09 q04 q0a q0f (fun c0_ c1_ => some (c0_, c1_)))) (fin_out (o := (zde q02 q06 q03 q09 q04 q0a q0f)) (x := z77 q02 q06 q03 q09 q04 q0a q0f) (d := default) (V := fun r => ((AV.tup [(TV.one (At.flt FloatKind.f32 r.1)), (TV.one (At.bool r.2))]), [])) (fun r => rfl) hp)
  · cases hp)
noncomputable def z37 : List PT → Option (Bool × AV × List Blk)
  | [.agg [.row 1 q02 (.fl .f32 q06), .row 1 q03 (.fl .f32 q09), .row 1 q04 (.fl .f32 q0a)], .one (.s (.flt .f32 q0f))] => some ((zb1 q02 q06 q03 q09 q04 q0a q0f), ((AV.tup [(TV.one (At.flt FloatKind.f32 (z7w q02 q06 q03 q09 q04 q0a q0f))), (TV.one (At.bool (zav q02 q06 q03 q09 q04 q0a q0f)))]), []))
  | _ => none
def zdh (q02 : Nat) (q06 : List Nat) (q03 : Nat) (q09 : List Nat) (q04 : Nat) (q0a : List Nat) (q0f : Nat) : Option (Nat × Bool) → Option (AV × List Blk)
  | some r => some ((AV.tup [(TV.one (At.flt FloatKind.f32 r.1)), (TV.one (At.bool r.2))]), [])
  | none => none
theorem zfy (q02 : Nat) (q06 : List Nat) (q03 : Nat) (q09 : List Nat) (q04 : Nat) (q0a : List Nat) (q0f : Nat) : evFn Γ11 8 8 23 (impTs 0 [.agg [.row 1 q02 (.fl .f32 q06), .row 1 q03 (.fl .f32 q09), .row 1 q04 (.fl .f32 q0a)], .one (.s (.flt .f32 q0f))]).1 (impTs 0 [.agg [.row 1 q02 (.fl .f32 q06), .row 1 q03 (.fl .f32 q09), .row 1 q04 (.fl .f32 q0a)], .one (.s (.flt .f32 q0f))]).2 (expo (impTs 0 [.agg [.row 1 q02 (.fl .f32 q06), .row 1 q03 (.fl .f32 q09), .row 1 q04 (.fl .f32 q0a)], .one (.s (.flt .f32 q0f))]).2.length) = z8d q02 q06 q03 q09 q04 q0a q0f (fun c0_ c1_ => some ((AV.tup [(TV.one (At.flt FloatKind.f32 c0_)), (TV.one (At.bool c1_))]), [])) := by kernel_rfl
theorem z30 : SumOne Try.prog 23 z37 := sum_of (Γ := Γ11) (fuel := 8) (d := 8) tyTab_ok (FnL.ok fnTab_ok _ _) (LpL.ok lt11_ok) (SumL.ok tb11_ok _) mixed (by
  intro pts v news hp hc
  clear hc
  unfold z37 at hp
  split at hp
  · rename_i q02 q06 q03 q09 q04 q0a q0f
    exact Eq.trans (Eq.trans (zfy q02 q06 q03 q09 q04 q0a q0f) (zej (zdh q02 q06 q03 q09 q04 q0a q0f) rfl q02 q06 q03 q09 q04 q0a q0f (fun c0_ c1_ => some (c0_, c1_)))) (fin_out (o := (zdh q02 q06 q03 q09 q04 q0a q0f)) (x := z78 q02 q06 q03 q09 q04 q0a q0f) (d := default) (V := fun r => ((AV.tup [(TV.one (At.flt FloatKind.f32 r.1)), (TV.one (At.bool r.2))]), [])) (fun r => rfl) hp)
  · cases hp)
noncomputable def z33 : List PT → Option (Bool × AV × List Blk)
  | [.ptr [.row 1 q02 (.fl .f32 q06), .row 1 q03 (.fl .f32 q09), .row 1 q04 (.fl .f32 q0a)], .one (.s (.flt .f32 q0f))] => some ((zao q02 q06 q03 q09 q04 q0a q0f), ((AV.v (TV.one (At.flt FloatKind.f32 (z5a q02 q06 q03 q09 q04 q0a q0f)))), []))
  | _ => none
def zcn (q02 : Nat) (q06 : List Nat) (q03 : Nat) (q09 : List Nat) (q04 : Nat) (q0a : List Nat) (q0f : Nat) : Option (Nat) → Option (AV × List Blk)
  | some r => some ((AV.v (TV.one (At.flt FloatKind.f32 r))), [])
  | none => none
theorem zfm (q02 : Nat) (q06 : List Nat) (q03 : Nat) (q09 : List Nat) (q04 : Nat) (q0a : List Nat) (q0f : Nat) : evFn Γ11 8 8 58 (impTs 0 [.ptr [.row 1 q02 (.fl .f32 q06), .row 1 q03 (.fl .f32 q09), .row 1 q04 (.fl .f32 q0a)], .one (.s (.flt .f32 q0f))]).1 (impTs 0 [.ptr [.row 1 q02 (.fl .f32 q06), .row 1 q03 (.fl .f32 q09), .row 1 q04 (.fl .f32 q0a)], .one (.s (.flt .f32 q0f))]).2 (expo (impTs 0 [.ptr [.row 1 q02 (.fl .f32 q06), .row 1 q03 (.fl .f32 q09), .row 1 q04 (.fl .f32 q0a)], .one (.s (.flt .f32 q0f))]).2.length) = z7l q02 q06 q03 q09 q04 q0a q0f (fun c0_ => some ((AV.v (TV.one (At.flt FloatKind.f32 c0_))), [])) := by kernel_rfl
theorem z2s : SumOne Try.prog 58 z33 := sum_of (Γ := Γ11) (fuel := 8) (d := 8) tyTab_ok (FnL.ok fnTab_ok _ _) (LpL.ok lt11_ok) (SumL.ok tb11_ok _) mixed (by
  intro pts v news hp hc
  clear hc
  unfold z33 at hp
  split at hp
  · rename_i q02 q06 q03 q09 q04 q0a q0f
    exact Eq.trans (Eq.trans (zfm q02 q06 q03 q09 q04 q0a q0f) (zdr (zcn q02 q06 q03 q09 q04 q0a q0f) rfl q02 q06 q03 q09 q04 q0a q0f (fun c0_ => some c0_))) (fin_out (o := (zcn q02 q06 q03 q09 q04 q0a q0f)) (x := z7r q02 q06 q03 q09 q04 q0a q0f) (d := default) (V := fun r => ((AV.v (TV.one (At.flt FloatKind.f32 r))), [])) (fun r => rfl) hp)
  · cases hp)
noncomputable def z34 : List PT → Option (Bool × AV × List Blk)
  | [.ptr [.row 1 q02 (.fl .f32 q06), .row 1 q03 (.fl .f32 q09), .row 1 q04 (.fl .f32 q0a)], .one (.s (.flt .f32 q0f))] => some ((zan q02 q06 q03 q09 q04 q0a q0f), ((AV.v (TV.one (At.flt FloatKind.f32 (z5c q02 q06 q03 q09 q04 q0a q0f)))), []))
  | _ => none
def zcv (q02 : Nat) (q06 : List Nat) (q03 : Nat) (q09 : List Nat) (q04 : Nat) (q0a : List Nat) (q0f : Nat) : Option (Nat) → Option (AV × List Blk)
  | some r => some ((AV.v (TV.one (At.flt FloatKind.f32 r))), [])
  | none => none
theorem zfo (q02 : Nat) (q06 : List Nat) (q03 : Nat) (q09 : List Nat) (q04 : Nat) (q0a : List Nat) (q0f : Nat) : evFn Γ11 8 8 60 (impTs 0 [.ptr [.row 1 q02 (.fl .f32 q06), .row 1 q03 (.fl .f32 q09), .row 1 q04 (.fl .f32 q0a)], .one (.s (.flt .f32 q0f))]).1 (impTs 0 [.ptr [.row 1 q02 (.fl .f32 q06), .row 1 q03 (.fl .f32 q09), .row 1 q04 (.fl .f32 q0a)], .one (.s (.flt .f32 q0f))]).2 (expo (impTs 0 [.ptr [.row 1 q02 (.fl .f32 q06), .row 1 q03 (.fl .f32 q09), .row 1 q04 (.fl .f32 q0a)], .one (.s (.flt .f32 q0f))]).2.length) = z7m q02 q06 q03 q09 q04 q0a q0f (fun c0_ => some ((AV.v (TV.one (At.flt FloatKind.f32 c0_))), [])) := by kernel_rfl
theorem z2r : SumOne Try.prog 60 z34 := sum_of (Γ := Γ11) (fuel := 8) (d := 8) tyTab_ok (FnL.ok fnTab_ok _ _) (LpL.ok lt11_ok) (SumL.ok tb11_ok _) mixed (by
  intro pts v news hp hc
  clear hc
  unfold z34 at hp
  split at hp
  · rename_i q02 q06 q03 q09 q04 q0a q0f
    exact Eq.trans (Eq.trans (zfo q02 q06 q03 q09 q04 q0a q0f) (ze4 (zcv q02 q06 q03 q09 q04 q0a q0f) rfl q02 q06 q03 q09 q04 q0a q0f (fun c0_ => some c0_))) (fin_out (o := (zcv q02 q06 q03 q09 q04 q0a q0f)) (x := z7n q02 q06 q03 q09 q04 q0a q0f) (d := default) (V := fun r => ((AV.v (TV.one (At.flt FloatKind.f32 r))), [])) (fun r => rfl) hp)
  · cases hp)
noncomputable def tb12 : List (Nat × (List PT → Option (Bool × AV × List Blk))) := [(125, z1b), (128, z0h), (134, z0r), (137, z1c), (18, z1k), (48, z16), (54, z1v), (61, z1h), (97, z1w), (102, z2n), (109, z1i), (14, z1q), (51, z1p), (56, z28), (103, z1z), (111, z27), (118, z10), (52, z1g), (119, z1f), (16, z1x), (57, z1l), (19, z22), (62, z2x), (99, z0a), (49, z2q), (99, z0f), (116, z31), (94, z2p), (98, z29), (117, z09), (117, z0c), (95, z2c), (96, z2l), (50, z2y), (55, z17), (53, z24), (59, z2j), (101, z3a), (21, z38), (23, z37), (58, z33), (60, z34)]
noncomputable def lt12 : List ((Nat × Nat) × (Nat → St → Option (Bool × LO))) := [((52, 3), z0n), ((57, 4), z0s), ((62, 5), z2a), ((99, 2), z03), ((99, 2), z05), ((50, 4), z2g), ((99, 2), z0d), ((53, 5), z1d)]
noncomputable def Γ12 : Ctx := ⟨tyTab, fnTab, tblSum tb12, tblLp lt12⟩
theorem tb12_ok : SumL Try.prog tb12 := SumL.cons z0q (SumL.cons z0g (SumL.cons z0k (SumL.cons z0p (SumL.cons z0v (SumL.cons z0o (SumL.cons z14 (SumL.cons z0t (SumL.cons z15 (SumL.cons z23 (SumL.cons z0u (SumL.cons z12 (SumL.cons z11 (SumL.cons z1m (SumL.cons z18 (SumL.cons z1n (SumL.cons z0m (SumL.cons z0x (SumL.cons z0w (SumL.cons z1a (SumL.cons z13 (SumL.cons z1j (SumL.cons z2i (SumL.cons z08 (SumL.cons z2d (SumL.cons z0e (SumL.cons z2k (SumL.cons z2b (SumL.cons z1u (SumL.cons z06 (SumL.cons z0b (SumL.cons z20 (SumL.cons z25 (SumL.cons z2m (SumL.cons z0y (SumL.cons z1t (SumL.cons z26 (SumL.cons z32 (SumL.cons z2z (SumL.cons z30 (SumL.cons z2s (SumL.cons z2r (SumL.nil))))))))))))))))))))))))))))))))))))))))))
theorem lt12_ok : LpL Try.prog fnTab lt12 := LpL.cons z0i (LpL.cons z0j (LpL.cons z1o (LpL.cons z02 (LpL.cons z04 (LpL.cons z1y (LpL.cons z07 (LpL.cons z0z (LpL.nil))))))))
noncomputable def z36 : List PT → Option (Bool × AV × List Blk)
  | [.agg [.row 1 q02 (.fl .f32 q06), .row 1 q03 (.fl .f32 q09), .row 1 q04 (.fl .f32 q0a)], .one (.s (.flt .f32 q0f))] => some ((zar q02 q06 q03 q09 q04 q0a q0f), ((AV.tup [(TV.one (At.flt FloatKind.f32 (z8h q02 q06 q03 q09 q04 q0a q0f))), (TV.one (At.bool (za8 q02 q06 q03 q09 q04 q0a q0f)))]), []))
  | _ => none
def zcy (q02 : Nat) (q06 : List Nat) (q03 : Nat) (q09 : List Nat) (q04 : Nat) (q0a : List Nat) (q0f : Nat) : Option (Nat × Bool) → Option (AV × List Blk)
  | some r => some ((AV.tup [(TV.one (At.flt FloatKind.f32 r.1)), (TV.one (At.bool r.2))]), [])
  | none => none
theorem zfu (q02 : Nat) (q06 : List Nat) (q03 : Nat) (q09 : List Nat) (q04 : Nat) (q0a : List Nat) (q0f : Nat) : evFn Γ12 8 8 26 (impTs 0 [.agg [.row 1 q02 (.fl .f32 q06), .row 1 q03 (.fl .f32 q09), .row 1 q04 (.fl .f32 q0a)], .one (.s (.flt .f32 q0f))]).1 (impTs 0 [.agg [.row 1 q02 (.fl .f32 q06), .row 1 q03 (.fl .f32 q09), .row 1 q04 (.fl .f32 q0a)], .one (.s (.flt .f32 q0f))]).2 (expo (impTs 0 [.agg [.row 1 q02 (.fl .f32 q06), .row 1 q03 (.fl .f32 q09), .row 1 q04 (.fl .f32 q0a)], .one (.s (.flt .f32 q0f))]).2.length) = z7q q02 q06 q03 q09 q04 q0a q0f (fun c0_ c1_ => some ((AV.tup [(TV.one (At.flt FloatKind.f32 c0_)), (TV.one (At.bool c1_))]), [])) := by kernel_rfl
theorem z2w : SumOne Try.prog 26 z36 := sum_of (Γ := Γ12) (fuel := 8) (d := 8) tyTab_ok (FnL.ok fnTab_ok _ _) (LpL.ok lt12_ok) (SumL.ok tb12_ok _) mixed (by
  intro pts v news hp hc
  clear hc
  unfold z36 at hp
  split at hp
  · rename_i q02 q06 q03 q09 q04 q0a q0f
    exact Eq.trans (Eq.trans (zfu q02 q06 q03 q09 q04 q0a q0f) (zdx (zcy q02 q06 q03 q09 q04 q0a q0f) rfl q02 q06 q03 q09 q04 q0a q0f (fun c0_ c1_ => some (c0_, c1_)))) (fin_out (o := (zcy q02 q06 q03 q09 q04 q0a q0f)) (x := z6k q02 q06 q03 q09 q04 q0a q0f) (d := default) (V := fun r => ((AV.tup [(TV.one (At.flt FloatKind.f32 r.1)), (TV.one (At.bool r.2))]), [])) (fun r => rfl) hp)
  · cases hp)
noncomputable def z35 : List PT → Option (Bool × AV × List Blk)
  | [.agg [.row 1 q02 (.fl .f32 q06), .row 1 q03 (.fl .f32 q09), .row 1 q04 (.fl .f32 q0a)], .one (.s (.flt .f32 q0f))] => some ((zap q02 q06 q03 q09 q04 q0a q0f), ((AV.tup [(TV.one (At.flt FloatKind.f32 (z8s q02 q06 q03 q09 q04 q0a q0f))), (TV.one (At.bool (zab q02 q06 q03 q09 q04 q0a q0f)))]), []))
  | _ => none
def zcr (q02 : Nat) (q06 : List Nat) (q03 : Nat) (q09 : List Nat) (q04 : Nat) (q0a : List Nat) (q0f : Nat) : Option (Nat × Bool) → Option (AV × List Blk)
  | some r => some ((AV.tup [(TV.one (At.flt FloatKind.f32 r.1)), (TV.one (At.bool r.2))]), [])
  | none => none
theorem zft (q02 : Nat) (q06 : List Nat) (q03 : Nat) (q09 : List Nat) (q04 : Nat) (q0a : List Nat) (q0f : Nat) : evFn Γ12 8 8 27 (impTs 0 [.agg [.row 1 q02 (.fl .f32 q06), .row 1 q03 (.fl .f32 q09), .row 1 q04 (.fl .f32 q0a)], .one (.s (.flt .f32 q0f))]).1 (impTs 0 [.agg [.row 1 q02 (.fl .f32 q06), .row 1 q03 (.fl .f32 q09), .row 1 q04 (.fl .f32 q0a)], .one (.s (.flt .f32 q0f))]).2 (expo (impTs 0 [.agg [.row 1 q02 (.fl .f32 q06), .row 1 q03 (.fl .f32 q09), .row 1 q04 (.fl .f32 q0a)], .one (.s (.flt .f32 q0f))]).2.length) = z7k q02 q06 q03 q09 q04 q0a q0f (fun c0_ c1_ => some ((AV.tup [(TV.one (At.flt FloatKind.f32 c0_)), (TV.one (At.bool c1_))]), [])) := by kernel_rfl
theorem z2v : SumOne Try.prog 27 z35 := sum_of (Γ := Γ12) (fuel := 8) (d := 8) tyTab_ok (FnL.ok fnTab_ok _ _) (LpL.ok lt12_ok) (SumL.ok tb12_ok _) mixed (by
  intro pts v news hp hc
  clear hc
  unfold z35 at hp
  split at hp
  · rename_i q02 q06 q03 q09 q04 q0a q0f
    exact Eq.trans (Eq.trans (zft q02 q06 q03 q09 q04 q0a q0f) (ze1 (zcr q02 q06 q03 q09 q04 q0a q0f) rfl q02 q06 q03 q09 q04 q0a q0f (fun c0_ c1_ => some (c0_, c1_)))) (fin_out (o := (zcr q02 q06 q03 q09 q04 q0a q0f)) (x := z6g q02 q06 q03 q09 q04 q0a q0f) (d := default) (V := fun r => ((AV.tup [(TV.one (At.flt FloatKind.f32 r.1)), (TV.one (At.bool r.2))]), [])) (fun r => rfl) hp)
  · cases hp)
noncomputable def tb13 : List (Nat × (List PT → Option (Bool × AV × List Blk))) := [(125, z1b), (128, z0h), (134, z0r), (137, z1c), (18, z1k), (48, z16), (54, z1v), (61, z1h), (97, z1w), (102, z2n), (109, z1i), (14, z1q), (51, z1p), (56, z28), (103, z1z), (111, z27), (118, z10), (52, z1g), (119, z1f), (16, z1x), (57, z1l), (19, z22), (62, z2x), (99, z0a), (49, z2q), (99, z0f), (116, z31), (94, z2p), (98, z29), (117, z09), (117, z0c), (95, z2c), (96, z2l), (50, z2y), (55, z17), (53, z24), (59, z2j), (101, z3a), (21, z38), (23, z37), (58, z33), (60, z34), (26, z36), (27, z35)]
noncomputable def lt13 : List ((Nat × Nat) × (Nat → St → Option (Bool × LO))) := [((52, 3), z0n), ((57, 4), z0s), ((62, 5), z2a), ((99, 2), z03), ((99, 2), z05), ((50, 4), z2g), ((99, 2), z0d), ((53, 5), z1d)]
noncomputable def Γ13 : Ctx := ⟨tyTab, fnTab, tblSum tb13, tblLp lt13⟩
theorem tb13_ok : SumL Try.prog tb13 := SumL.cons z0q (SumL.cons z0g (SumL.cons z0k (SumL.cons z0p (SumL.cons z0v (SumL.cons z0o (SumL.cons z14 (SumL.cons z0t (SumL.cons z15 (SumL.cons z23 (SumL.cons z0u (SumL.cons z12 (SumL.cons z11 (SumL.cons z1m (SumL.cons z18 (SumL.cons z1n (SumL.cons z0m (SumL.cons z0x (SumL.cons z0w (SumL.cons z1a (SumL.cons z13 (SumL.cons z1j (SumL.cons z2i (SumL.cons z08 (SumL.cons z2d (SumL.cons z0e (SumL.cons z2k (SumL.cons z2b (SumL.cons z1u (SumL.cons z06 (SumL.cons z0b (SumL.cons z20 (SumL.cons z25 (SumL.cons z2m (SumL.cons z0y (SumL.cons z1t (SumL.cons z26 (SumL.cons z32 (SumL.cons z2z (SumL.cons z30 (SumL.cons z2s (SumL.cons z2r (SumL.cons z2w (SumL.cons z2v (SumL.nil))))))))))))))))))))))))))))))))))))))))))))
theorem lt13_ok : LpL Try.prog fnTab lt13 := LpL.cons z0i (LpL.cons z0j (LpL.cons z1o (LpL.cons z02 (LpL.cons z04 (LpL.cons z1y (LpL.cons z07 (LpL.cons z0z (LpL.nil))))))))
noncomputable def z21 : List PT → Option (Bool × AV × List Blk)
  | [.agg [.row 1 q05 (.fl .f32 q0h), .row 1 q07 (.fl .f32 q0j), .row 1 q08 (.fl .f32 q0k)], .one (.s (.flt .f32 q10))] => some ((z99 q05 q0h q07 q0j q08 q0k q10), ((AV.v (TV.one (At.bool (z8v q05 q0h q07 q0j q08 q0k q10)))), []))
  | _ => none
def zb5 (q05 : Nat) (q0h : List Nat) (q07 : Nat) (q0j : List Nat) (q08 : Nat) (q0k : List Nat) (q10 : Nat) : Option (Bool) → Option (AV × List Blk)
  | some r => some ((AV.v (TV.one (At.bool r))), [])
  | none => none
theorem zcm (q05 : Nat) (q0h : List Nat) (q07 : Nat) (q0j : List Nat) (q08 : Nat) (q0k : List Nat) (q10 : Nat) : evFn Γ13 8 8 7 (impTs 0 [.agg [.row 1 q05 (.fl .f32 q0h), .row 1 q07 (.fl .f32 q0j), .row 1 q08 (.fl .f32 q0k)], .one (.s (.flt .f32 q10))]).1 (impTs 0 [.agg [.row 1 q05 (.fl .f32 q0h), .row 1 q07 (.fl .f32 q0j), .row 1 q08 (.fl .f32 q0k)], .one (.s (.flt .f32 q10))]).2 (expo (impTs 0 [.agg [.row 1 q05 (.fl .f32 q0h), .row 1 q07 (.fl .f32 q0j), .row 1 q08 (.fl .f32 q0k)], .one (.s (.flt .f32 q10))]).2.length) = z51 q05 q0h q07 q0j q08 q0k q10 (fun c0_ => some ((AV.v (TV.one (At.bool c0_))), [])) := by kernel_rfl
theorem z1s : SumOne Try.prog 7 z21 := sum_of (Γ := Γ13) (fuel := 8) (d := 8) tyTab_ok (FnL.ok fnTab_ok _ _) (LpL.ok lt13_ok) (SumL.ok tb13_ok _) mixed (by
  intro pts v news hp hc
  clear hc
  unfold z21 at hp
  split at hp
  · rename_i q05 q0h q07 q0j q08 q0k q10
    exact Eq.trans (Eq.trans (zcm q05 q0h q07 q0j q08 q0k q10) (zbp (zb5 q05 q0h q07 q0j q08 q0k q10) rfl q05 q0h q07 q0j q08 q0k q10 (fun c0_ => some c0_))) (fin_out (o := (zb5 q05 q0h q07 q0j q08 q0k q10)) (x := z50 q05 q0h q07 q0j q08 q0k q10) (d := default) (V := fun r => ((AV.v (TV.one (At.bool r))), [])) (fun r => rfl) hp)
  · cases hp)
noncomputable def tb14 : List (Nat × (List PT → Option (Bool × AV × List Blk))) := [(125, z1b), (128, z0h), (134, z0r), (137, z1c), (18, z1k), (48, z16), (54, z1v), (61, z1h), (97, z1w), (102, z2n), (109, z1i), (14, z1q), (51, z1p), (56, z28), (103, z1z), (111, z27), (118, z10), (52, z1g), (119, z1f), (16, z1x), (57, z1l), (19, z22), (62, z2x), (99, z0a), (49, z2q), (99, z0f), (116, z31), (94, z2p), (98, z29), (117, z09), (117, z0c), (95, z2c), (96, z2l), (50, z2y), (55, z17), (53, z24), (59, z2j), (101, z3a), (21, z38), (23, z37), (58, z33), (60, z34), (26, z36), (27, z35), (7, z21)]
noncomputable def lt14 : List ((Nat × Nat) × (Nat → St → Option (Bool × LO))) := [((52, 3), z0n), ((57, 4), z0s), ((62, 5), z2a), ((99, 2), z03), ((99, 2), z05), ((50, 4), z2g), ((99, 2), z0d), ((53, 5), z1d)]
noncomputable def Γ14 : Ctx := ⟨tyTab, fnTab, tblSum tb14, tblLp lt14⟩
theorem tb14_ok : SumL Try.prog tb14 := SumL.cons z0q (SumL.cons z0g (SumL.cons z0k (SumL.cons z0p (SumL.cons z0v (SumL.cons z0o (SumL.cons z14 (SumL.cons z0t (SumL.cons z15 (SumL.cons z23 (SumL.cons z0u (SumL.cons z12 (SumL.cons z11 (SumL.cons z1m (SumL.cons z18 (SumL.cons z1n (SumL.cons z0m (SumL.cons z0x (SumL.cons z0w (SumL.cons z1a (SumL.cons z13 (SumL.cons z1j (SumL.cons z2i (SumL.cons z08 (SumL.cons z2d (SumL.cons z0e (SumL.cons z2k (SumL.cons z2b (SumL.cons z1u (SumL.cons z06 (SumL.cons z0b (SumL.cons z20 (SumL.cons z25 (SumL.cons z2m (SumL.cons z0y (SumL.cons z1t (SumL.cons z26 (SumL.cons z32 (SumL.cons z2z (SumL.cons z30 (SumL.cons z2s (SumL.cons z2r (SumL.cons z2w (SumL.cons z2v (SumL.cons z1s (SumL.nil)))))))))))))))))))))))))))))))))))))))))))))
theorem lt14_ok : LpL Try.prog fnTab lt14 := LpL.cons z0i (LpL.cons z0j (LpL.cons z1o (LpL.cons z02 (LpL.cons z04 (LpL.cons z1y (LpL.cons z07 (LpL.cons z0z (LpL.nil))))))))
noncomputable def tb15 : List (Nat × (List PT → Option (Bool × AV × List Blk))) := [(125, z1b), (128, z0h), (134, z0r), (137, z1c), (18, z1k), (48, z16), (54, z1v), (61, z1h), (97, z1w), (102, z2n), (109, z1i), (14, z1q), (51, z1p), (56, z28), (103, z1z), (111, z27), (118, z10), (52, z1g), (119, z1f), (16, z1x), (57, z1l), (19, z22), (62, z2x), (99, z0a), (49, z2q), (99, z0f), (116, z31), (94, z2p), (98, z29), (117, z09), (117, z0c), (95, z2c), (96, z2l), (50, z2y), (55, z17), (53, z24), (59, z2j), (101, z3a), (21, z38), (23, z37), (58, z33), (60, z34), (26, z36), (27, z35), (7, z21)]
noncomputable def lt15 : List ((Nat × Nat) × (Nat → St → Option (Bool × LO))) := [((52, 3), z0n), ((57, 4), z0s), ((62, 5), z2a), ((99, 2), z03), ((99, 2), z05), ((50, 4), z2g), ((99, 2), z0d), ((53, 5), z1d)]
noncomputable def Γ15 : Ctx := ⟨tyTab, fnTab, tblSum tb15, tblLp lt15⟩
theorem tb15_ok : SumL Try.prog tb15 := SumL.cons z0q (SumL.cons z0g (SumL.cons z0k (SumL.cons z0p (SumL.cons z0v (SumL.cons z0o (SumL.cons z14 (SumL.cons z0t (SumL.cons z15 (SumL.cons z23 (SumL.cons z0u (SumL.cons z12 (SumL.cons z11 (SumL.cons z1m (SumL.cons z18 (SumL.cons z1n (SumL.cons z0m (SumL.cons z0x (SumL.cons z0w (SumL.cons z1a (SumL.cons z13 (SumL.cons z1j (SumL.cons z2i (SumL.cons z08 (SumL.cons z2d (SumL.cons z0e (SumL.cons z2k (SumL.cons z2b (SumL.cons z1u (SumL.cons z06 (SumL.cons z0b (SumL.cons z20 (SumL.cons z25 (SumL.cons z2m (SumL.cons z0y (SumL.cons z1t (SumL.cons z26 (SumL.cons z32 (SumL.cons z2z (SumL.cons z30 (SumL.cons z2s (SumL.cons z2r (SumL.cons z2w (SumL.cons z2v (SumL.cons z1s (SumL.nil)))))))))))))))))))))))))))))))))))))))))))))
theorem lt15_ok : LpL Try.prog fnTab lt15 := LpL.cons z0i (LpL.cons z0j (LpL.cons z1o (LpL.cons z02 (LpL.cons z04 (LpL.cons z1y (LpL.cons z07 (LpL.cons z0z (LpL.nil))))))))
noncomputable def tb16 : List (Nat × (List PT → Option (Bool × AV × List Blk))) := [(125, z1b), (128, z0h), (134, z0r), (137, z1c), (18, z1k), (48, z16), (54, z1v), (61, z1h), (97, z1w), (102, z2n), (109, z1i), (14, z1q), (51, z1p), (56, z28), (103, z1z), (111, z27), (118, z10), (52, z1g), (119, z1f), (16, z1x), (57, z1l), (19, z22), (62, z2x), (99, z0a), (49, z2q), (99, z0f), (116, z31), (94, z2p), (98, z29), (117, z09), (117, z0c), (95, z2c), (96, z2l), (50, z2y), (55, z17), (53, z24), (59, z2j), (101, z3a), (21, z38), (23, z37), (58, z33), (60, z34), (26, z36), (27, z35), (7, z21)]
noncomputable def lt16 : List ((Nat × Nat) × (Nat → St → Option (Bool × LO))) := [((52, 3), z0n), ((57, 4), z0s), ((62, 5), z2a), ((99, 2), z03), ((99, 2), z05), ((50, 4), z2g), ((99, 2), z0d), ((53, 5), z1d)]
noncomputable def Γ16 : Ctx := ⟨tyTab, fnTab, tblSum tb16, tblLp lt16⟩
theorem tb16_ok : SumL Try.prog tb16 := SumL.cons z0q (SumL.cons z0g (SumL.cons z0k (SumL.cons z0p (SumL.cons z0v (SumL.cons z0o (SumL.cons z14 (SumL.cons z0t (SumL.cons z15 (SumL.cons z23 (SumL.cons z0u (SumL.cons z12 (SumL.cons z11 (SumL.cons z1m (SumL.cons z18 (SumL.cons z1n (SumL.cons z0m (SumL.cons z0x (SumL.cons z0w (SumL.cons z1a (SumL.cons z13 (SumL.cons z1j (SumL.cons z2i (SumL.cons z08 (SumL.cons z2d (SumL.cons z0e (SumL.cons z2k (SumL.cons z2b (SumL.cons z1u (SumL.cons z06 (SumL.cons z0b (SumL.cons z20 (SumL.cons z25 (SumL.cons z2m (SumL.cons z0y (SumL.cons z1t (SumL.cons z26 (SumL.cons z32 (SumL.cons z2z (SumL.cons z30 (SumL.cons z2s (SumL.cons z2r (SumL.cons z2w (SumL.cons z2v (SumL.cons z1s (SumL.nil)))))))))))))))))))))))))))))))))))))))))))))
theorem lt16_ok : LpL Try.prog fnTab lt16 := LpL.cons z0i (LpL.cons z0j (LpL.cons z1o (LpL.cons z02 (LpL.cons z04 (LpL.cons z1y (LpL.cons z07 (LpL.cons z0z (LpL.nil))))))))
noncomputable def tb17 : List (Nat × (List PT → Option (Bool × AV × List Blk))) := [(125, z1b), (128, z0h), (134, z0r), (137, z1c), (18, z1k), (48, z16), (54, z1v), (61, z1h), (97, z1w), (102, z2n), (109, z1i), (14, z1q), (51, z1p), (56, z28), (103, z1z), (111, z27), (118, z10), (52, z1g), (119, z1f), (16, z1x), (57, z1l), (19, z22), (62, z2x), (99, z0a), (49, z2q), (99, z0f), (116, z31), (94, z2p), (98, z29), (117, z09), (117, z0c), (95, z2c), (96, z2l), (50, z2y), (55, z17), (53, z24), (59, z2j), (101, z3a), (21, z38), (23, z37), (58, z33), (60, z34), (26, z36), (27, z35), (7, z21)]
noncomputable def lt17 : List ((Nat × Nat) × (Nat → St → Option (Bool × LO))) := [((52, 3), z0n), ((57, 4), z0s), ((62, 5), z2a), ((99, 2), z03), ((99, 2), z05), ((50, 4), z2g), ((99, 2), z0d), ((53, 5), z1d)]
noncomputable def Γ17 : Ctx := ⟨tyTab, fnTab, tblSum tb17, tblLp lt17⟩
theorem tb17_ok : SumL Try.prog tb17 := SumL.cons z0q (SumL.cons z0g (SumL.cons z0k (SumL.cons z0p (SumL.cons z0v (SumL.cons z0o (SumL.cons z14 (SumL.cons z0t (SumL.cons z15 (SumL.cons z23 (SumL.cons z0u (SumL.cons z12 (SumL.cons z11 (SumL.cons z1m (SumL.cons z18 (SumL.cons z1n (SumL.cons z0m (SumL.cons z0x (SumL.cons z0w (SumL.cons z1a (SumL.cons z13 (SumL.cons z1j (SumL.cons z2i (SumL.cons z08 (SumL.cons z2d (SumL.cons z0e (SumL.cons z2k (SumL.cons z2b (SumL.cons z1u (SumL.cons z06 (SumL.cons z0b (SumL.cons z20 (SumL.cons z25 (SumL.cons z2m (SumL.cons z0y (SumL.cons z1t (SumL.cons z26 (SumL.cons z32 (SumL.cons z2z (SumL.cons z30 (SumL.cons z2s (SumL.cons z2r (SumL.cons z2w (SumL.cons z2v (SumL.cons z1s (SumL.nil)))))))))))))))))))))))))))))))))))))))))))))
theorem lt17_ok : LpL Try.prog fnTab lt17 := LpL.cons z0i (LpL.cons z0j (LpL.cons z1o (LpL.cons z02 (LpL.cons z04 (LpL.cons z1y (LpL.cons z07 (LpL.cons z0z (LpL.nil))))))))
noncomputable def tb18 : List (Nat × (List PT → Option (Bool × AV × List Blk))) := [(125, z1b), (128, z0h), (134, z0r), (137, z1c), (18, z1k), (48, z16), (54, z1v), (61, z1h), (97, z1w), (102, z2n), (109, z1i), (14, z1q), (51, z1p), (56, z28), (103, z1z), (111, z27), (118, z10), (52, z1g), (119, z1f), (16, z1x), (57, z1l), (19, z22), (62, z2x), (99, z0a), (49, z2q), (99, z0f), (116, z31), (94, z2p), (98, z29), (117, z09), (117, z0c), (95, z2c), (96, z2l), (50, z2y), (55, z17), (53, z24), (59, z2j), (101, z3a), (21, z38), (23, z37), (58, z33), (60, z34), (26, z36), (27, z35), (7, z21)]
noncomputable def lt18 : List ((Nat × Nat) × (Nat → St → Option (Bool × LO))) := [((52, 3), z0n), ((57, 4), z0s), ((62, 5), z2a), ((99, 2), z03), ((99, 2), z05), ((50, 4), z2g), ((99, 2), z0d), ((53, 5), z1d)]
noncomputable def Γ18 : Ctx := ⟨tyTab, fnTab, tblSum tb18, tblLp lt18⟩
theorem tb18_ok : SumL Try.prog tb18 := SumL.cons z0q (SumL.cons z0g (SumL.cons z0k (SumL.cons z0p (SumL.cons z0v (SumL.cons z0o (SumL.cons z14 (SumL.cons z0t (SumL.cons z15 (SumL.cons z23 (SumL.cons z0u (SumL.cons z12 (SumL.cons z11 (SumL.cons z1m (SumL.cons z18 (SumL.cons z1n (SumL.cons z0m (SumL.cons z0x (SumL.cons z0w (SumL.cons z1a (SumL.cons z13 (SumL.cons z1j (SumL.cons z2i (SumL.cons z08 (SumL.cons z2d (SumL.cons z0e (SumL.cons z2k (SumL.cons z2b (SumL.cons z1u (SumL.cons z06 (SumL.cons z0b (SumL.cons z20 (SumL.cons z25 (SumL.cons z2m (SumL.cons z0y (SumL.cons z1t (SumL.cons z26 (SumL.cons z32 (SumL.cons z2z (SumL.cons z30 (SumL.cons z2s (SumL.cons z2r (SumL.cons z2w (SumL.cons z2v (SumL.cons z1s (SumL.nil)))))))))))))))))))))))))))))))))))))))))))))
theorem lt18_ok : LpL Try.prog fnTab lt18 := LpL.cons z0i (LpL.cons z0j (LpL.cons z1o (LpL.cons z02 (LpL.cons z04 (LpL.cons z1y (LpL.cons z07 (LpL.cons z0z (LpL.nil))))))))
noncomputable def tb19 : List (Nat × (List PT → Option (Bool × AV × List Blk))) := [(125, z1b), (128, z0h), (134, z0r), (137, z1c), (18, z1k), (48, z16), (54, z1v), (61, z1h), (97, z1w), (102, z2n), (109, z1i), (14, z1q), (51, z1p), (56, z28), (103, z1z), (111, z27), (118, z10), (52, z1g), (119, z1f), (16, z1x), (57, z1l), (19, z22), (62, z2x), (99, z0a), (49, z2q), (99, z0f), (116, z31), (94, z2p), (98, z29), (117, z09), (117, z0c), (95, z2c), (96, z2l), (50, z2y), (55, z17), (53, z24), (59, z2j), (101, z3a), (21, z38), (23, z37), (58, z33), (60, z34), (26, z36), (27, z35), (7, z21)]
noncomputable def lt19 : List ((Nat × Nat) × (Nat → St → Option (Bool × LO))) := [((52, 3), z0n), ((57, 4), z0s), ((62, 5), z2a), ((99, 2), z03), ((99, 2), z05), ((50, 4), z2g), ((99, 2), z0d), ((53, 5), z1d)]
noncomputable def Γ19 : Ctx := ⟨tyTab, fnTab, tblSum tb19, tblLp lt19⟩
theorem tb19_ok : SumL Try.prog tb19 := SumL.cons z0q (SumL.cons z0g (SumL.cons z0k (SumL.cons z0p (SumL.cons z0v (SumL.cons z0o (SumL.cons z14 (SumL.cons z0t (SumL.cons z15 (SumL.cons z23 (SumL.cons z0u (SumL.cons z12 (SumL.cons z11 (SumL.cons z1m (SumL.cons z18 (SumL.cons z1n (SumL.cons z0m (SumL.cons z0x (SumL.cons z0w (SumL.cons z1a (SumL.cons z13 (SumL.cons z1j (SumL.cons z2i (SumL.cons z08 (SumL.cons z2d (SumL.cons z0e (SumL.cons z2k (SumL.cons z2b (SumL.cons z1u (SumL.cons z06 (SumL.cons z0b (SumL.cons z20 (SumL.cons z25 (SumL.cons z2m (SumL.cons z0y (SumL.cons z1t (SumL.cons z26 (SumL.cons z32 (SumL.cons z2z (SumL.cons z30 (SumL.cons z2s (SumL.cons z2r (SumL.cons z2w (SumL.cons z2v (SumL.cons z1s (SumL.nil)))))))))))))))))))))))))))))))))))))))))))))
theorem lt19_ok : LpL Try.prog fnTab lt19 := LpL.cons z0i (LpL.cons z0j (LpL.cons z1o (LpL.cons z02 (LpL.cons z04 (LpL.cons z1y (LpL.cons z07 (LpL.cons z0z (LpL.nil))))))))
noncomputable def tb20 : List (Nat × (List PT → Option (Bool × AV × List Blk))) := [(125, z1b), (128, z0h), (134, z0r), (137, z1c), (18, z1k), (48, z16), (54, z1v), (61, z1h), (97, z1w), (102, z2n), (109, z1i), (14, z1q), (51, z1p), (56, z28), (103, z1z), (111, z27), (118, z10), (52, z1g), (119, z1f), (16, z1x), (57, z1l), (19, z22), (62, z2x), (99, z0a), (49, z2q), (99, z0f), (116, z31), (94, z2p), (98, z29), (117, z09), (117, z0c), (95, z2c), (96, z2l), (50, z2y), (55, z17), (53, z24), (59, z2j), (101, z3a), (21, z38), (23, z37), (58, z33), (60, z34), (26, z36), (27, z35), (7, z21)]
noncomputable def lt20 : List ((Nat × Nat) × (Nat → St → Option (Bool × LO))) := [((52, 3), z0n), ((57, 4), z0s), ((62, 5), z2a), ((99, 2), z03), ((99, 2), z05), ((50, 4), z2g), ((99, 2), z0d), ((53, 5), z1d)]
noncomputable def Γ20 : Ctx := ⟨tyTab, fnTab, tblSum tb20, tblLp lt20⟩
theorem tb20_ok : SumL Try.prog tb20 := SumL.cons z0q (SumL.cons z0g (SumL.cons z0k (SumL.cons z0p (SumL.cons z0v (SumL.cons z0o (SumL.cons z14 (SumL.cons z0t (SumL.cons z15 (SumL.cons z23 (SumL.cons z0u (SumL.cons z12 (SumL.cons z11 (SumL.cons z1m (SumL.cons z18 (SumL.cons z1n (SumL.cons z0m (SumL.cons z0x (SumL.cons z0w (SumL.cons z1a (SumL.cons z13 (SumL.cons z1j (SumL.cons z2i (SumL.cons z08 (SumL.cons z2d (SumL.cons z0e (SumL.cons z2k (SumL.cons z2b (SumL.cons z1u (SumL.cons z06 (SumL.cons z0b (SumL.cons z20 (SumL.cons z25 (SumL.cons z2m (SumL.cons z0y (SumL.cons z1t (SumL.cons z26 (SumL.cons z32 (SumL.cons z2z (SumL.cons z30 (SumL.cons z2s (SumL.cons z2r (SumL.cons z2w (SumL.cons z2v (SumL.cons z1s (SumL.nil)))))))))))))))))))))))))))))))))))))))))))))
theorem lt20_ok : LpL Try.prog fnTab lt20 := LpL.cons z0i (LpL.cons z0j (LpL.cons z1o (LpL.cons z02 (LpL.cons z04 (LpL.cons z1y (LpL.cons z07 (LpL.cons z0z (LpL.nil))))))))
noncomputable def tb21 : List (Nat × (List PT → Option (Bool × AV × List Blk))) := [(125, z1b), (128, z0h), (134, z0r), (137, z1c), (18, z1k), (48, z16), (54, z1v), (61, z1h), (97, z1w), (102, z2n), (109, z1i), (14, z1q), (51, z1p), (56, z28), (103, z1z), (111, z27), (118, z10), (52, z1g), (119, z1f), (16, z1x), (57, z1l), (19, z22), (62, z2x), (99, z0a), (49, z2q), (99, z0f), (116, z31), (94, z2p), (98, z29), (117, z09), (117, z0c), (95, z2c), (96, z2l), (50, z2y), (55, z17), (53, z24), (59, z2j), (101, z3a), (21, z38), (23, z37), (58, z33), (60, z34), (26, z36), (27, z35), (7, z21)]
noncomputable def lt21 : List ((Nat × Nat) × (Nat → St → Option (Bool × LO))) := [((52, 3), z0n), ((57, 4), z0s), ((62, 5), z2a), ((99, 2), z03), ((99, 2), z05), ((50, 4), z2g), ((99, 2), z0d), ((53, 5), z1d)]
noncomputable def Γ21 : Ctx := ⟨tyTab, fnTab, tblSum tb21, tblLp lt21⟩
theorem tb21_ok : SumL Try.prog tb21 := SumL.cons z0q (SumL.cons z0g (SumL.cons z0k (SumL.cons z0p (SumL.cons z0v (SumL.cons z0o (SumL.cons z14 (SumL.cons z0t (SumL.cons z15 (SumL.cons z23 (SumL.cons z0u (SumL.cons z12 (SumL.cons z11 (SumL.cons z1m (SumL.cons z18 (SumL.cons z1n (SumL.cons z0m (SumL.cons z0x (SumL.cons z0w (SumL.cons z1a (SumL.cons z13 (SumL.cons z1j (SumL.cons z2i (SumL.cons z08 (SumL.cons z2d (SumL.cons z0e (SumL.cons z2k (SumL.cons z2b (SumL.cons z1u (SumL.cons z06 (SumL.cons z0b (SumL.cons z20 (SumL.cons z25 (SumL.cons z2m (SumL.cons z0y (SumL.cons z1t (SumL.cons z26 (SumL.cons z32 (SumL.cons z2z (SumL.cons z30 (SumL.cons z2s (SumL.cons z2r (SumL.cons z2w (SumL.cons z2v (SumL.cons z1s (SumL.nil)))))))))))))))))))))))))))))))))))))))))))))
theorem lt21_ok : LpL Try.prog fnTab lt21 := LpL.cons z0i (LpL.cons z0j (LpL.cons z1o (LpL.cons z02 (LpL.cons z04 (LpL.cons z1y (LpL.cons z07 (LpL.cons z0z (LpL.nil))))))))
noncomputable def tb22 : List (Nat × (List PT → Option (Bool × AV × List Blk))) := [(125, z1b), (128, z0h), (134, z0r), (137, z1c), (18, z1k), (48, z16), (54, z1v), (61, z1h), (97, z1w), (102, z2n), (109, z1i), (14, z1q), (51, z1p), (56, z28), (103, z1z), (111, z27), (118, z10), (52, z1g), (119, z1f), (16, z1x), (57, z1l), (19, z22), (62, z2x), (99, z0a), (49, z2q), (99, z0f), (116, z31), (94, z2p), (98, z29), (117, z09), (117, z0c), (95, z2c), (96, z2l), (50, z2y), (55, z17), (53, z24), (59, z2j), (101, z3a), (21, z38), (23, z37), (58, z33), (60, z34), (26, z36), (27, z35), (7, z21)]
noncomputable def lt22 : List ((Nat × Nat) × (Nat → St → Option (Bool × LO))) := [((52, 3), z0n), ((57, 4), z0s), ((62, 5), z2a), ((99, 2), z03), ((99, 2), z05), ((50, 4), z2g), ((99, 2), z0d), ((53, 5), z1d)]
noncomputable def Γ22 : Ctx := ⟨tyTab, fnTab, tblSum tb22, tblLp lt22⟩
theorem tb22_ok : SumL Try.prog tb22 := SumL.cons z0q (SumL.cons z0g (SumL.cons z0k (SumL.cons z0p (SumL.cons z0v (SumL.cons z0o (SumL.cons z14 (SumL.cons z0t (SumL.cons z15 (SumL.cons z23 (SumL.cons z0u (SumL.cons z12 (SumL.cons z11 (SumL.cons z1m (SumL.cons z18 (SumL.cons z1n (SumL.cons z0m (SumL.cons z0x (SumL.cons z0w (SumL.cons z1a (SumL.cons z13 (SumL.cons z1j (SumL.cons z2i (SumL.cons z08 (SumL.cons z2d (SumL.cons z0e (SumL.cons z2k (SumL.cons z2b (SumL.cons z1u (SumL.cons z06 (SumL.cons z0b (SumL.cons z20 (SumL.cons z25 (SumL.cons z2m (SumL.cons z0y (SumL.cons z1t (SumL.cons z26 (SumL.cons z32 (SumL.cons z2z (SumL.cons z30 (SumL.cons z2s (SumL.cons z2r (SumL.cons z2w (SumL.cons z2v (SumL.cons z1s (SumL.nil)))))))))))))))))))))))))))))))))))))))))))))
theorem lt22_ok : LpL Try.prog fnTab lt22 := LpL.cons z0i (LpL.cons z0j (LpL.cons z1o (LpL.cons z02 (LpL.cons z04 (LpL.cons z1y (LpL.cons z07 (LpL.cons z0z (LpL.nil))))))))
noncomputable def tb23 : List (Nat × (List PT → Option (Bool × AV × List Blk))) := [(125, z1b), (128, z0h), (134, z0r), (137, z1c), (18, z1k), (48, z16), (54, z1v), (61, z1h), (97, z1w), (102, z2n), (109, z1i), (14, z1q), (51, z1p), (56, z28), (103, z1z), (111, z27), (118, z10), (52, z1g), (119, z1f), (16, z1x), (57, z1l), (19, z22), (62, z2x), (99, z0a), (49, z2q), (99, z0f), (116, z31), (94, z2p), (98, z29), (117, z09), (117, z0c), (95, z2c), (96, z2l), (50, z2y), (55, z17), (53, z24), (59, z2j), (101, z3a), (21, z38), (23, z37), (58, z33), (60, z34), (26, z36), (27, z35), (7, z21)]
noncomputable def lt23 : List ((Nat × Nat) × (Nat → St → Option (Bool × LO))) := [((52, 3), z0n), ((57, 4), z0s), ((62, 5), z2a), ((99, 2), z03), ((99, 2), z05), ((50, 4), z2g), ((99, 2), z0d), ((53, 5), z1d)]
noncomputable def Γ23 : Ctx := ⟨tyTab, fnTab, tblSum tb23, tblLp lt23⟩
theorem tb23_ok : SumL Try.prog tb23 := SumL.cons z0q (SumL.cons z0g (SumL.cons z0k (SumL.cons z0p (SumL.cons z0v (SumL.cons z0o (SumL.cons z14 (SumL.cons z0t (SumL.cons z15 (SumL.cons z23 (SumL.cons z0u (SumL.cons z12 (SumL.cons z11 (SumL.cons z1m (SumL.cons z18 (SumL.cons z1n (SumL.cons z0m (SumL.cons z0x (SumL.cons z0w (SumL.cons z1a (SumL.cons z13 (SumL.cons z1j (SumL.cons z2i (SumL.cons z08 (SumL.cons z2d (SumL.cons z0e (SumL.cons z2k (SumL.cons z2b (SumL.cons z1u (SumL.cons z06 (SumL.cons z0b (SumL.cons z20 (SumL.cons z25 (SumL.cons z2m (SumL.cons z0y (SumL.cons z1t (SumL.cons z26 (SumL.cons z32 (SumL.cons z2z (SumL.cons z30 (SumL.cons z2s (SumL.cons z2r (SumL.cons z2w (SumL.cons z2v (SumL.cons z1s (SumL.nil)))))))))))))))))))))))))))))))))))))))))))))
theorem lt23_ok : LpL Try.prog fnTab lt23 := LpL.cons z0i (LpL.cons z0j (LpL.cons z1o (LpL.cons z02 (LpL.cons z04 (LpL.cons z1y (LpL.cons z07 (LpL.cons z0z (LpL.nil))))))))
noncomputable def tb24 : List (Nat × (List PT → Option (Bool × AV × List Blk))) := [(125, z1b), (128, z0h), (134, z0r), (137, z1c), (18, z1k), (48, z16), (54, z1v), (61, z1h), (97, z1w), (102, z2n), (109, z1i), (14, z1q), (51, z1p), (56, z28), (103, z1z), (111, z27), (118, z10), (52, z1g), (119, z1f), (16, z1x), (57, z1l), (19, z22), (62, z2x), (99, z0a), (49, z2q), (99, z0f), (116, z31), (94, z2p), (98, z29), (117, z09), (117, z0c), (95, z2c), (96, z2l), (50, z2y), (55, z17), (53, z24), (59, z2j), (101, z3a), (21, z38), (23, z37), (58, z33), (60, z34), (26, z36), (27, z35), (7, z21)]
noncomputable def lt24 : List ((Nat × Nat) × (Nat → St → Option (Bool × LO))) := [((52, 3), z0n), ((57, 4), z0s), ((62, 5), z2a), ((99, 2), z03), ((99, 2), z05), ((50, 4), z2g), ((99, 2), z0d), ((53, 5), z1d)]
noncomputable def Γ24 : Ctx := ⟨tyTab, fnTab, tblSum tb24, tblLp lt24⟩
theorem tb24_ok : SumL Try.prog tb24 := SumL.cons z0q (SumL.cons z0g (SumL.cons z0k (SumL.cons z0p (SumL.cons z0v (SumL.cons z0o (SumL.cons z14 (SumL.cons z0t (SumL.cons z15 (SumL.cons z23 (SumL.cons z0u (SumL.cons z12 (SumL.cons z11 (SumL.cons z1m (SumL.cons z18 (SumL.cons z1n (SumL.cons z0m (SumL.cons z0x (SumL.cons z0w (SumL.cons z1a (SumL.cons z13 (SumL.cons z1j (SumL.cons z2i (SumL.cons z08 (SumL.cons z2d (SumL.cons z0e (SumL.cons z2k (SumL.cons z2b (SumL.cons z1u (SumL.cons z06 (SumL.cons z0b (SumL.cons z20 (SumL.cons z25 (SumL.cons z2m (SumL.cons z0y (SumL.cons z1t (SumL.cons z26 (SumL.cons z32 (SumL.cons z2z (SumL.cons z30 (SumL.cons z2s (SumL.cons z2r (SumL.cons z2w (SumL.cons z2v (SumL.cons z1s (SumL.nil)))))))))))))))))))))))))))))))))))))))))))))
theorem lt24_ok : LpL Try.prog fnTab lt24 := LpL.cons z0i (LpL.cons z0j (LpL.cons z1o (LpL.cons z02 (LpL.cons z04 (LpL.cons z1y (LpL.cons z07 (LpL.cons z0z (LpL.nil))))))))
noncomputable def tb25 : List (Nat × (List PT → Option (Bool × AV × List Blk))) := [(125, z1b), (128, z0h), (134, z0r), (137, z1c), (18, z1k), (48, z16), (54, z1v), (61, z1h), (97, z1w), (102, z2n), (109, z1i), (14, z1q), (51, z1p), (56, z28), (103, z1z), (111, z27), (118, z10), (52, z1g), (119, z1f), (16, z1x), (57, z1l), (19, z22), (62, z2x), (99, z0a), (49, z2q), (99, z0f), (116, z31), (94, z2p), (98, z29), (117, z09), (117, z0c), (95, z2c), (96, z2l), (50, z2y), (55, z17), (53, z24), (59, z2j), (101, z3a), (21, z38), (23, z37), (58, z33), (60, z34), (26, z36), (27, z35), (7, z21)]
noncomputable def lt25 : List ((Nat × Nat) × (Nat → St → Option (Bool × LO))) := [((52, 3), z0n), ((57, 4), z0s), ((62, 5), z2a), ((99, 2), z03), ((99, 2), z05), ((50, 4), z2g), ((99, 2), z0d), ((53, 5), z1d)]
noncomputable def Γ25 : Ctx := ⟨tyTab, fnTab, tblSum tb25, tblLp lt25⟩
theorem tb25_ok : SumL Try.prog tb25 := SumL.cons z0q (SumL.cons z0g (SumL.cons z0k (SumL.cons z0p (SumL.cons z0v (SumL.cons z0o (SumL.cons z14 (SumL.cons z0t (SumL.cons z15 (SumL.cons z23 (SumL.cons z0u (SumL.cons z12 (SumL.cons z11 (SumL.cons z1m (SumL.cons z18 (SumL.cons z1n (SumL.cons z0m (SumL.cons z0x (SumL.cons z0w (SumL.cons z1a (SumL.cons z13 (SumL.cons z1j (SumL.cons z2i (SumL.cons z08 (SumL.cons z2d (SumL.cons z0e (SumL.cons z2k (SumL.cons z2b (SumL.cons z1u (SumL.cons z06 (SumL.cons z0b (SumL.cons z20 (SumL.cons z25 (SumL.cons z2m (SumL.cons z0y (SumL.cons z1t (SumL.cons z26 (SumL.cons z32 (SumL.cons z2z (SumL.cons z30 (SumL.cons z2s (SumL.cons z2r (SumL.cons z2w (SumL.cons z2v (SumL.cons z1s (SumL.nil)))))))))))))))))))))))))))))))))))))))))))))
theorem lt25_ok : LpL Try.prog fnTab lt25 := LpL.cons z0i (LpL.cons z0j (LpL.cons z1o (LpL.cons z02 (LpL.cons z04 (LpL.cons z1y (LpL.cons z07 (LpL.cons z0z (LpL.nil))))))))
noncomputable def tb26 : List (Nat × (List PT → Option (Bool × AV × List Blk))) := [(125, z1b), (128, z0h), (134, z0r), (137, z1c), (18, z1k), (48, z16), (54, z1v), (61, z1h), (97, z1w), (102, z2n), (109, z1i), (14, z1q), (51, z1p), (56, z28), (103, z1z), (111, z27), (118, z10), (52, z1g), (119, z1f), (16, z1x), (57, z1l), (19, z22), (62, z2x), (99, z0a), (49, z2q), (99, z0f), (116, z31), (94, z2p), (98, z29), (117, z09), (117, z0c), (95, z2c), (96, z2l), (50, z2y), (55, z17), (53, z24), (59, z2j), (101, z3a), (21, z38), (23, z37), (58, z33), (60, z34), (26, z36), (27, z35), (7, z21)]
noncomputable def lt26 : List ((Nat × Nat) × (Nat → St → Option (Bool × LO))) := [((52, 3), z0n), ((57, 4), z0s), ((62, 5), z2a), ((99, 2), z03), ((99, 2), z05), ((50, 4), z2g), ((99, 2), z0d), ((53, 5), z1d)]
noncomputable def Γ26 : Ctx := ⟨tyTab, fnTab, tblSum tb26, tblLp lt26⟩
theorem tb26_ok : SumL Try.prog tb26 := SumL.cons z0q (SumL.cons z0g (SumL.cons z0k (SumL.cons z0p (SumL.cons z0v (SumL.cons z0o (SumL.cons z14 (SumL.cons z0t (SumL.cons z15 (SumL.cons z23 (SumL.cons z0u (SumL.cons z12 (SumL.cons z11 (SumL.cons z1m (SumL.cons z18 (SumL.cons z1n (SumL.cons z0m (SumL.cons z0x (SumL.cons z0w (SumL.cons z1a (SumL.cons z13 (SumL.cons z1j (SumL.cons z2i (SumL.cons z08 (SumL.cons z2d (SumL.cons z0e (SumL.cons z2k (SumL.cons z2b (SumL.cons z1u (SumL.cons z06 (SumL.cons z0b (SumL.cons z20 (SumL.cons z25 (SumL.cons z2m (SumL.cons z0y (SumL.cons z1t (SumL.cons z26 (SumL.cons z32 (SumL.cons z2z (SumL.cons z30 (SumL.cons z2s (SumL.cons z2r (SumL.cons z2w (SumL.cons z2v (SumL.cons z1s (SumL.nil)))))))))))))))))))))))))))))))))))))))))))))
theorem lt26_ok : LpL Try.prog fnTab lt26 := LpL.cons z0i (LpL.cons z0j (LpL.cons z1o (LpL.cons z02 (LpL.cons z04 (LpL.cons z1y (LpL.cons z07 (LpL.cons z0z (LpL.nil))))))))
noncomputable def tb27 : List (Nat × (List PT → Option (Bool × AV × List Blk))) := [(125, z1b), (128, z0h), (134, z0r), (137, z1c), (18, z1k), (48, z16), (54, z1v), (61, z1h), (97, z1w), (102, z2n), (109, z1i), (14, z1q), (51, z1p), (56, z28), (103, z1z), (111, z27), (118, z10), (52, z1g), (119, z1f), (16, z1x), (57, z1l), (19, z22), (62, z2x), (99, z0a), (49, z2q), (99, z0f), (116, z31), (94, z2p), (98, z29), (117, z09), (117, z0c), (95, z2c), (96, z2l), (50, z2y), (55, z17), (53, z24), (59, z2j), (101, z3a), (21, z38), (23, z37), (58, z33), (60, z34), (26, z36), (27, z35), (7, z21)]
noncomputable def lt27 : List ((Nat × Nat) × (Nat → St → Option (Bool × LO))) := [((52, 3), z0n), ((57, 4), z0s), ((62, 5), z2a), ((99, 2), z03), ((99, 2), z05), ((50, 4), z2g), ((99, 2), z0d), ((53, 5), z1d)]
noncomputable def Γ27 : Ctx := ⟨tyTab, fnTab, tblSum tb27, tblLp lt27⟩
theorem tb27_ok : SumL Try.prog tb27 := SumL.cons z0q (SumL.cons z0g (SumL.cons z0k (SumL.cons z0p (SumL.cons z0v (SumL.cons z0o (SumL.cons z14 (SumL.cons z0t (SumL.cons z15 (SumL.cons z23 (SumL.cons z0u (SumL.cons z12 (SumL.cons z11 (SumL.cons z1m (SumL.cons z18 (SumL.cons z1n (SumL.cons z0m (SumL.cons z0x (SumL.cons z0w (SumL.cons z1a (SumL.cons z13 (SumL.cons z1j (SumL.cons z2i (SumL.cons z08 (SumL.cons z2d (SumL.cons z0e (SumL.cons z2k (SumL.cons z2b (SumL.cons z1u (SumL.cons z06 (SumL.cons z0b (SumL.cons z20 (SumL.cons z25 (SumL.cons z2m (SumL.cons z0y (SumL.cons z1t (SumL.cons z26 (SumL.cons z32 (SumL.cons z2z (SumL.cons z30 (SumL.cons z2s (SumL.cons z2r (SumL.cons z2w (SumL.cons z2v (SumL.cons z1s (SumL.nil)))))))))))))))))))))))))))))))))))))))))))))
theorem lt27_ok : LpL Try.prog fnTab lt27 := LpL.cons z0i (LpL.cons z0j (LpL.cons z1o (LpL.cons z02 (LpL.cons z04 (LpL.cons z1y (LpL.cons z07 (LpL.cons z0z (LpL.nil))))))))
noncomputable def tb28 : List (Nat × (List PT → Option (Bool × AV × List Blk))) := [(125, z1b), (128, z0h), (134, z0r), (137, z1c), (18, z1k), (48, z16), (54, z1v), (61, z1h), (97, z1w), (102, z2n), (109, z1i), (14, z1q), (51, z1p), (56, z28), (103, z1z), (111, z27), (118, z10), (52, z1g), (119, z1f), (16, z1x), (57, z1l), (19, z22), (62, z2x), (99, z0a), (49, z2q), (99, z0f), (116, z31), (94, z2p), (98, z29), (117, z09), (117, z0c), (95, z2c), (96, z2l), (50, z2y), (55, z17), (53, z24), (59, z2j), (101, z3a), (21, z38), (23, z37), (58, z33), (60, z34), (26, z36), (27, z35), (7, z21)]
noncomputable def lt28 : List ((Nat × Nat) × (Nat → St → Option (Bool × LO))) := [((52, 3), z0n), ((57, 4), z0s), ((62, 5), z2a), ((99, 2), z03), ((99, 2), z05), ((50, 4), z2g), ((99, 2), z0d), ((53, 5), z1d)]
noncomputable def Γ28 : Ctx := ⟨tyTab, fnTab, tblSum tb28, tblLp lt28⟩
theorem tb28_ok : SumL Try.prog tb28 := SumL.cons z0q (SumL.cons z0g (SumL.cons z0k (SumL.cons z0p (SumL.cons z0v (SumL.cons z0o (SumL.cons z14 (SumL.cons z0t (SumL.cons z15 (SumL.cons z23 (SumL.cons z0u (SumL.cons z12 (SumL.cons z11 (SumL.cons z1m (SumL.cons z18 (SumL.cons z1n (SumL.cons z0m (SumL.cons z0x (SumL.cons z0w (SumL.cons z1a (SumL.cons z13 (SumL.cons z1j (SumL.cons z2i (SumL.cons z08 (SumL.cons z2d (SumL.cons z0e (SumL.cons z2k (SumL.cons z2b (SumL.cons z1u (SumL.cons z06 (SumL.cons z0b (SumL.cons z20 (SumL.cons z25 (SumL.cons z2m (SumL.cons z0y (SumL.cons z1t (SumL.cons z26 (SumL.cons z32 (SumL.cons z2z (SumL.cons z30 (SumL.cons z2s (SumL.cons z2r (SumL.cons z2w (SumL.cons z2v (SumL.cons z1s (SumL.nil)))))))))))))))))))))))))))))))))))))))))))))
theorem lt28_ok : LpL Try.prog fnTab lt28 := LpL.cons z0i (LpL.cons z0j (LpL.cons z1o (LpL.cons z02 (LpL.cons z04 (LpL.cons z1y (LpL.cons z07 (LpL.cons z0z (LpL.nil))))))))
noncomputable def tb29 : List (Nat × (List PT → Option (Bool × AV × List Blk))) := [(125, z1b), (128, z0h), (134, z0r), (137, z1c), (18, z1k), (48, z16), (54, z1v), (61, z1h), (97, z1w), (102, z2n), (109, z1i), (14, z1q), (51, z1p), (56, z28), (103, z1z), (111, z27), (118, z10), (52, z1g), (119, z1f), (16, z1x), (57, z1l), (19, z22), (62, z2x), (99, z0a), (49, z2q), (99, z0f), (116, z31), (94, z2p), (98, z29), (117, z09), (117, z0c), (95, z2c), (96, z2l), (50, z2y), (55, z17), (53, z24), (59, z2j), (101, z3a), (21, z38), (23, z37), (58, z33), (60, z34), (26, z36), (27, z35), (7, z21)]
noncomputable def lt29 : List ((Nat × Nat) × (Nat → St → Option (Bool × LO))) := [((52, 3), z0n), ((57, 4), z0s), ((62, 5), z2a), ((99, 2), z03), ((99, 2), z05), ((50, 4), z2g), ((99, 2), z0d), ((53, 5), z1d)]
noncomputable def Γ29 : Ctx := ⟨tyTab, fnTab, tblSum tb29, tblLp lt29⟩
theorem tb29_ok : SumL Try.prog tb29 := SumL.cons z0q (SumL.cons z0g (SumL.cons z0k (SumL.cons z0p (SumL.cons z0v (SumL.cons z0o (SumL.cons z14 (SumL.cons z0t (SumL.cons z15 (SumL.cons z23 (SumL.cons z0u (SumL.cons z12 (SumL.cons z11 (SumL.cons z1m (SumL.cons z18 (SumL.cons z1n (SumL.cons z0m (SumL.cons z0x (SumL.cons z0w (SumL.cons z1a (SumL.cons z13 (SumL.cons z1j (SumL.cons z2i (SumL.cons z08 (SumL.cons z2d (SumL.cons z0e (SumL.cons z2k (SumL.cons z2b (SumL.cons z1u (SumL.cons z06 (SumL.cons z0b (SumL.cons z20 (SumL.cons z25 (SumL.cons z2m (SumL.cons z0y (SumL.cons z1t (SumL.cons z26 (SumL.cons z32 (SumL.cons z2z (SumL.cons z30 (SumL.cons z2s (SumL.cons z2r (SumL.cons z2w (SumL.cons z2v (SumL.cons z1s (SumL.nil)))))))))))))))))))))))))))))))))))))))))))))
theorem lt29_ok : LpL Try.prog fnTab lt29 := LpL.cons z0i (LpL.cons z0j (LpL.cons z1o (LpL.cons z02 (LpL.cons z04 (LpL.cons z1y (LpL.cons z07 (LpL.cons z0z (LpL.nil))))))))
noncomputable def tb30 : List (Nat × (List PT → Option (Bool × AV × List Blk))) := [(125, z1b), (128, z0h), (134, z0r), (137, z1c), (18, z1k), (48, z16), (54, z1v), (61, z1h), (97, z1w), (102, z2n), (109, z1i), (14, z1q), (51, z1p), (56, z28), (103, z1z), (111, z27), (118, z10), (52, z1g), (119, z1f), (16, z1x), (57, z1l), (19, z22), (62, z2x), (99, z0a), (49, z2q), (99, z0f), (116, z31), (94, z2p), (98, z29), (117, z09), (117, z0c), (95, z2c), (96, z2l), (50, z2y), (55, z17), (53, z24), (59, z2j), (101, z3a), (21, z38), (23, z37), (58, z33), (60, z34), (26, z36), (27, z35), (7, z21)]
noncomputable def lt30 : List ((Nat × Nat) × (Nat → St → Option (Bool × LO))) := [((52, 3), z0n), ((57, 4), z0s), ((62, 5), z2a), ((99, 2), z03), ((99, 2), z05), ((50, 4), z2g), ((99, 2), z0d), ((53, 5), z1d)]
noncomputable def Γ30 : Ctx := ⟨tyTab, fnTab, tblSum tb30, tblLp lt30⟩
theorem tb30_ok : SumL Try.prog tb30 := SumL.cons z0q (SumL.cons z0g (SumL.cons z0k (SumL.cons z0p (SumL.cons z0v (SumL.cons z0o (SumL.cons z14 (SumL.cons z0t (SumL.cons z15 (SumL.cons z23 (SumL.cons z0u (SumL.cons z12 (SumL.cons z11 (SumL.cons z1m (SumL.cons z18 (SumL.cons z1n (SumL.cons z0m (SumL.cons z0x (SumL.cons z0w (SumL.cons z1a (SumL.cons z13 (SumL.cons z1j (SumL.cons z2i (SumL.cons z08 (SumL.cons z2d (SumL.cons z0e (SumL.cons z2k (SumL.cons z2b (SumL.cons z1u (SumL.cons z06 (SumL.cons z0b (SumL.cons z20 (SumL.cons z25 (SumL.cons z2m (SumL.cons z0y (SumL.cons z1t (SumL.cons z26 (SumL.cons z32 (SumL.cons z2z (SumL.cons z30 (SumL.cons z2s (SumL.cons z2r (SumL.cons z2w (SumL.cons z2v (SumL.cons z1s (SumL.nil)))))))))))))))))))))))))))))))))))))))))))))
theorem lt30_ok : LpL Try.prog fnTab lt30 := LpL.cons z0i (LpL.cons z0j (LpL.cons z1o (LpL.cons z02 (LpL.cons z04 (LpL.cons z1y (LpL.cons z07 (LpL.cons z0z (LpL.nil))))))))
noncomputable def tb31 : List (Nat × (List PT → Option (Bool × AV × List Blk))) := [(125, z1b), (128, z0h), (134, z0r), (137, z1c), (18, z1k), (48, z16), (54, z1v), (61, z1h), (97, z1w), (102, z2n), (109, z1i), (14, z1q), (51, z1p), (56, z28), (103, z1z), (111, z27), (118, z10), (52, z1g), (119, z1f), (16, z1x), (57, z1l), (19, z22), (62, z2x), (99, z0a), (49, z2q), (99, z0f), (116, z31), (94, z2p), (98, z29), (117, z09), (117, z0c), (95, z2c), (96, z2l), (50, z2y), (55, z17), (53, z24), (59, z2j), (101, z3a), (21, z38), (23, z37), (58, z33), (60, z34), (26, z36), (27, z35), (7, z21)]
noncomputable def lt31 : List ((Nat × Nat) × (Nat → St → Option (Bool × LO))) := [((52, 3), z0n), ((57, 4), z0s), ((62, 5), z2a), ((99, 2), z03), ((99, 2), z05), ((50, 4), z2g), ((99, 2), z0d), ((53, 5), z1d)]
noncomputable def Γ31 : Ctx := ⟨tyTab, fnTab, tblSum tb31, tblLp lt31⟩
theorem tb31_ok : SumL Try.prog tb31 := SumL.cons z0q (SumL.cons z0g (SumL.cons z0k (SumL.cons z0p (SumL.cons z0v (SumL.cons z0o (SumL.cons z14 (SumL.cons z0t (SumL.cons z15 (SumL.cons z23 (SumL.cons z0u (SumL.cons z12 (SumL.cons z11 (SumL.cons z1m (SumL.cons z18 (SumL.cons z1n (SumL.cons z0m (SumL.cons z0x (SumL.cons z0w (SumL.cons z1a (SumL.cons z13 (SumL.cons z1j (SumL.cons z2i (SumL.cons z08 (SumL.cons z2d (SumL.cons z0e (SumL.cons z2k (SumL.cons z2b (SumL.cons z1u (SumL.cons z06 (SumL.cons z0b (SumL.cons z20 (SumL.cons z25 (SumL.cons z2m (SumL.cons z0y (SumL.cons z1t (SumL.cons z26 (SumL.cons z32 (SumL.cons z2z (SumL.cons z30 (SumL.cons z2s (SumL.cons z2r (SumL.cons z2w (SumL.cons z2v (SumL.cons z1s (SumL.nil)))))))))))))))))))))))))))))))))))))))))))))
theorem lt31_ok : LpL Try.prog fnTab lt31 := LpL.cons z0i (LpL.cons z0j (LpL.cons z1o (LpL.cons z02 (LpL.cons z04 (LpL.cons z1y (LpL.cons z07 (LpL.cons z0z (LpL.nil))))))))
noncomputable def tb32 : List (Nat × (List PT → Option (Bool × AV × List Blk))) := [(125, z1b), (128, z0h), (134, z0r), (137, z1c), (18, z1k), (48, z16), (54, z1v), (61, z1h), (97, z1w), (102, z2n), (109, z1i), (14, z1q), (51, z1p), (56, z28), (103, z1z), (111, z27), (118, z10), (52, z1g), (119, z1f), (16, z1x), (57, z1l), (19, z22), (62, z2x), (99, z0a), (49, z2q), (99, z0f), (116, z31), (94, z2p), (98, z29), (117, z09), (117, z0c), (95, z2c), (96, z2l), (50, z2y), (55, z17), (53, z24), (59, z2j), (101, z3a), (21, z38), (23, z37), (58, z33), (60, z34), (26, z36), (27, z35), (7, z21)]
noncomputable def lt32 : List ((Nat × Nat) × (Nat → St → Option (Bool × LO))) := [((52, 3), z0n), ((57, 4), z0s), ((62, 5), z2a), ((99, 2), z03), ((99, 2), z05), ((50, 4), z2g), ((99, 2), z0d), ((53, 5), z1d)]
noncomputable def Γ32 : Ctx := ⟨tyTab, fnTab, tblSum tb32, tblLp lt32⟩
theorem tb32_ok : SumL Try.prog tb32 := SumL.cons z0q (SumL.cons z0g (SumL.cons z0k (SumL.cons z0p (SumL.cons z0v (SumL.cons z0o (SumL.cons z14 (SumL.cons z0t (SumL.cons z15 (SumL.cons z23 (SumL.cons z0u (SumL.cons z12 (SumL.cons z11 (SumL.cons z1m (SumL.cons z18 (SumL.cons z1n (SumL.cons z0m (SumL.cons z0x (SumL.cons z0w (SumL.cons z1a (SumL.cons z13 (SumL.cons z1j (SumL.cons z2i (SumL.cons z08 (SumL.cons z2d (SumL.cons z0e (SumL.cons z2k (SumL.cons z2b (SumL.cons z1u (SumL.cons z06 (SumL.cons z0b (SumL.cons z20 (SumL.cons z25 (SumL.cons z2m (SumL.cons z0y (SumL.cons z1t (SumL.cons z26 (SumL.cons z32 (SumL.cons z2z (SumL.cons z30 (SumL.cons z2s (SumL.cons z2r (SumL.cons z2w (SumL.cons z2v (SumL.cons z1s (SumL.nil)))))))))))))))))))))))))))))))))))))))))))))
theorem lt32_ok : LpL Try.prog fnTab lt32 := LpL.cons z0i (LpL.cons z0j (LpL.cons z1o (LpL.cons z02 (LpL.cons z04 (LpL.cons z1y (LpL.cons z07 (LpL.cons z0z (LpL.nil))))))))
noncomputable def tb33 : List (Nat × (List PT → Option (Bool × AV × List Blk))) := [(125, z1b), (128, z0h), (134, z0r), (137, z1c), (18, z1k), (48, z16), (54, z1v), (61, z1h), (97, z1w), (102, z2n), (109, z1i), (14, z1q), (51, z1p), (56, z28), (103, z1z), (111, z27), (118, z10), (52, z1g), (119, z1f), (16, z1x), (57, z1l), (19, z22), (62, z2x), (99, z0a), (49, z2q), (99, z0f), (116, z31), (94, z2p), (98, z29), (117, z09), (117, z0c), (95, z2c), (96, z2l), (50, z2y), (55, z17), (53, z24), (59, z2j), (101, z3a), (21, z38), (23, z37), (58, z33), (60, z34), (26, z36), (27, z35), (7, z21)]
noncomputable def lt33 : List ((Nat × Nat) × (Nat → St → Option (Bool × LO))) := [((52, 3), z0n), ((57, 4), z0s), ((62, 5), z2a), ((99, 2), z03), ((99, 2), z05), ((50, 4), z2g), ((99, 2), z0d), ((53, 5), z1d)]
noncomputable def Γ33 : Ctx := ⟨tyTab, fnTab, tblSum tb33, tblLp lt33⟩
theorem tb33_ok : SumL Try.prog tb33 := SumL.cons z0q (SumL.cons z0g (SumL.cons z0k (SumL.cons z0p (SumL.cons z0v (SumL.cons z0o (SumL.cons z14 (SumL.cons z0t (SumL.cons z15 (SumL.cons z23 (SumL.cons z0u (SumL.cons z12 (SumL.cons z11 (SumL.cons z1m (SumL.cons z18 (SumL.cons z1n (SumL.cons z0m (SumL.cons z0x (SumL.cons z0w (SumL.cons z1a (SumL.cons z13 (SumL.cons z1j (SumL.cons z2i (SumL.cons z08 (SumL.cons z2d (SumL.cons z0e (SumL.cons z2k (SumL.cons z2b (SumL.cons z1u (SumL.cons z06 (SumL.cons z0b (SumL.cons z20 (SumL.cons z25 (SumL.cons z2m (SumL.cons z0y (SumL.cons z1t (SumL.cons z26 (SumL.cons z32 (SumL.cons z2z (SumL.cons z30 (SumL.cons z2s (SumL.cons z2r (SumL.cons z2w (SumL.cons z2v (SumL.cons z1s (SumL.nil)))))))))))))))))))))))))))))))))))))))))))))
theorem lt33_ok : LpL Try.prog fnTab lt33 := LpL.cons z0i (LpL.cons z0j (LpL.cons z1o (LpL.cons z02 (LpL.cons z04 (LpL.cons z1y (LpL.cons z07 (LpL.cons z0z (LpL.nil))))))))
noncomputable def tb34 : List (Nat × (List PT → Option (Bool × AV × List Blk))) := [(125, z1b), (128, z0h), (134, z0r), (137, z1c), (18, z1k), (48, z16), (54, z1v), (61, z1h), (97, z1w), (102, z2n), (109, z1i), (14, z1q), (51, z1p), (56, z28), (103, z1z), (111, z27), (118, z10), (52, z1g), (119, z1f), (16, z1x), (57, z1l), (19, z22), (62, z2x), (99, z0a), (49, z2q), (99, z0f), (116, z31), (94, z2p), (98, z29), (117, z09), (117, z0c), (95, z2c), (96, z2l), (50, z2y), (55, z17), (53, z24), (59, z2j), (101, z3a), (21, z38), (23, z37), (58, z33), (60, z34), (26, z36), (27, z35), (7, z21)]
noncomputable def lt34 : List ((Nat × Nat) × (Nat → St → Option (Bool × LO))) := [((52, 3), z0n), ((57, 4), z0s), ((62, 5), z2a), ((99, 2), z03), ((99, 2), z05), ((50, 4), z2g), ((99, 2), z0d), ((53, 5), z1d)]
noncomputable def Γ34 : Ctx := ⟨tyTab, fnTab, tblSum tb34, tblLp lt34⟩
theorem tb34_ok : SumL Try.prog tb34 := SumL.cons z0q (SumL.cons z0g (SumL.cons z0k (SumL.cons z0p (SumL.cons z0v (SumL.cons z0o (SumL.cons z14 (SumL.cons z0t (SumL.cons z15 (SumL.cons z23 (SumL.cons z0u (SumL.cons z12 (SumL.cons z11 (SumL.cons z1m (SumL.cons z18 (SumL.cons z1n (SumL.cons z0m (SumL.cons z0x (SumL.cons z0w (SumL.cons z1a (SumL.cons z13 (SumL.cons z1j (SumL.cons z2i (SumL.cons z08 (SumL.cons z2d (SumL.cons z0e (SumL.cons z2k (SumL.cons z2b (SumL.cons z1u (SumL.cons z06 (SumL.cons z0b (SumL.cons z20 (SumL.cons z25 (SumL.cons z2m (SumL.cons z0y (SumL.cons z1t (SumL.cons z26 (SumL.cons z32 (SumL.cons z2z (SumL.cons z30 (SumL.cons z2s (SumL.cons z2r (SumL.cons z2w (SumL.cons z2v (SumL.cons z1s (SumL.nil)))))))))))))))))))))))))))))))))))))))))))))
theorem lt34_ok : LpL Try.prog fnTab lt34 := LpL.cons z0i (LpL.cons z0j (LpL.cons z1o (LpL.cons z02 (LpL.cons z04 (LpL.cons z1y (LpL.cons z07 (LpL.cons z0z (LpL.nil))))))))
noncomputable def tb35 : List (Nat × (List PT → Option (Bool × AV × List Blk))) := [(125, z1b), (128, z0h), (134, z0r), (137, z1c), (18, z1k), (48, z16), (54, z1v), (61, z1h), (97, z1w), (102, z2n), (109, z1i), (14, z1q), (51, z1p), (56, z28), (103, z1z), (111, z27), (118, z10), (52, z1g), (119, z1f), (16, z1x), (57, z1l), (19, z22), (62, z2x), (99, z0a), (49, z2q), (99, z0f), (116, z31), (94, z2p), (98, z29), (117, z09), (117, z0c), (95, z2c), (96, z2l), (50, z2y), (55, z17), (53, z24), (59, z2j), (101, z3a), (21, z38), (23, z37), (58, z33), (60, z34), (26, z36), (27, z35), (7, z21)]
noncomputable def lt35 : List ((Nat × Nat) × (Nat → St → Option (Bool × LO))) := [((52, 3), z0n), ((57, 4), z0s), ((62, 5), z2a), ((99, 2), z03), ((99, 2), z05), ((50, 4), z2g), ((99, 2), z0d), ((53, 5), z1d)]
noncomputable def Γ35 : Ctx := ⟨tyTab, fnTab, tblSum tb35, tblLp lt35⟩
theorem tb35_ok : SumL Try.prog tb35 := SumL.cons z0q (SumL.cons z0g (SumL.cons z0k (SumL.cons z0p (SumL.cons z0v (SumL.cons z0o (SumL.cons z14 (SumL.cons z0t (SumL.cons z15 (SumL.cons z23 (SumL.cons z0u (SumL.cons z12 (SumL.cons z11 (SumL.cons z1m (SumL.cons z18 (SumL.cons z1n (SumL.cons z0m (SumL.cons z0x (SumL.cons z0w (SumL.cons z1a (SumL.cons z13 (SumL.cons z1j (SumL.cons z2i (SumL.cons z08 (SumL.cons z2d (SumL.cons z0e (SumL.cons z2k (SumL.cons z2b (SumL.cons z1u (SumL.cons z06 (SumL.cons z0b (SumL.cons z20 (SumL.cons z25 (SumL.cons z2m (SumL.cons z0y (SumL.cons z1t (SumL.cons z26 (SumL.cons z32 (SumL.cons z2z (SumL.cons z30 (SumL.cons z2s (SumL.cons z2r (SumL.cons z2w (SumL.cons z2v (SumL.cons z1s (SumL.nil)))))))))))))))))))))))))))))))))))))))))))))
theorem lt35_ok : LpL Try.prog fnTab lt35 := LpL.cons z0i (LpL.cons z0j (LpL.cons z1o (LpL.cons z02 (LpL.cons z04 (LpL.cons z1y (LpL.cons z07 (LpL.cons z0z (LpL.nil))))))))
end Go.Proofs.Ytihlcjjbenkokaa
