/-
  What functions answer: that the evaluator answers so. Printed by a program.
-/
import Derived.Test.YtihlcjjbenkokaaLiftApartC
set_option linter.unusedVariables false
set_option linter.unusedSimpArgs false
set_option maxRecDepth 100000
set_option maxHeartbeats 4000000
namespace Go.Proofs.Ytihlcjjbenkokaa
open Go Go.Rf
def z1b : List PT → Option (Bool × AV × List Blk)
  | [.one (.s (.flt .f64 x))] => some (bnot (nanQ .f64 x), A1 (.flt .f64 (fint .down x)), [])
  | _ => none
theorem z0p : SumOne Try.prog 125 z1b := by
  intro pts v news hp w vals hv
  unfold z1b at hp
  split at hp
  · rename_i x
    injection hp with hp
    injection hp with h1 hp
    injection hp with h2 h3
    subst h2
    subst h3
    obtain ⟨l, hl⟩ : ∃ l, l = vals.toList := ⟨_, rfl⟩
    rw [← hl] at hv
    cases hv with
    | cons a1 a2 =>
      cases a2
      obtain ⟨b, hb1, hb2, hb3⟩ := a1
      subst hb1
      rename_i hx
      have hvals : vals = #[.float .f64 b] := by rw [← Array.toList_inj, ← hl]
      subst hvals
      have hn : nanB .f64 b = false := by rw [← nanB_cn, hb3]; simpa [bnot, nanQ] using h1
      rw [cn_of_not hn] at hb3
      subst hb3
      refine .inl ⟨_, w, by (simp only [callFunc, Sem.run_bind, run_program, Result.andThen_ok, Try.func125]; change (do let v ← Extern.MathFloor.toIntegral "math.archFloor" .down #[.float .f64 b]; pure (.value v) : Sem Next).run Try.prog w = _; rw [Sem.run_bind, run_fint hn]; rfl), NoB, ⟨⟨(fun t b' h => by cases t <;> cases h), (fun t t' b1 b2 x x' _ h => by cases t <;> cases h)⟩, (fun t x h => by cases h), Fr.refl _ w⟩, fint_rel hn⟩
  · cases hp
def z0h : List PT → Option (Bool × AV × List Blk)
  | [.one (.s (.int .u64 x))] => some (okU .f64 x, A1 (.flt .f64 (cnI .f64 x)), [])
  | _ => none
theorem z0g : SumOne Try.prog 128 z0h := by
  intro pts v news hp w vals hv
  unfold z0h at hp
  split at hp
  · rename_i x
    injection hp with hp
    injection hp with h1 hp
    injection hp with h2 h3
    subst h2
    subst h3
    obtain ⟨l, hl⟩ : ∃ l, l = vals.toList := ⟨_, rfl⟩
    rw [← hl] at hv
    cases hv with
    | cons a1 a2 =>
      cases a2
      have hb1 : _ = Value.int .u64 x := a1
      subst hb1
      rename_i hx
      have hvals : vals = #[.int .u64 x] := by rw [← Array.toList_inj, ← hl]
      subst hvals
      have hw := okU_lt h1
      refine .inl ⟨_, w, by (simp only [callFunc, Sem.run_bind, run_program, Result.andThen_ok, Try.func128]; rfl), NoB, ⟨⟨(fun t b' h => by cases t <;> cases h), (fun t t' b1 b2 x x' _ h => by cases t <;> cases h)⟩, (fun t x h => by cases h), Fr.refl _ w⟩, ⟨_, rfl, hw, rfl⟩⟩
  · cases hp
def z0r : List PT → Option (Bool × AV × List Blk)
  | [.one (.s (.flt .f64 x))] => some (bnot (nanQ .f64 x), A1 (.int .u64 x), [])
  | _ => none
theorem z0k : SumOne Try.prog 134 z0r := by
  intro pts v news hp w vals hv
  unfold z0r at hp
  split at hp
  · rename_i x
    injection hp with hp
    injection hp with h1 hp
    injection hp with h2 h3
    subst h2
    subst h3
    obtain ⟨l, hl⟩ : ∃ l, l = vals.toList := ⟨_, rfl⟩
    rw [← hl] at hv
    cases hv with
    | cons a1 a2 =>
      cases a2
      obtain ⟨b, hb1, hb2, hb3⟩ := a1
      subst hb1
      rename_i hx
      have hvals : vals = #[.float .f64 b] := by rw [← Array.toList_inj, ← hl]
      subst hvals
      have hn : nanB .f64 b = false := by rw [← nanB_cn, hb3]; simpa [bnot, nanQ] using h1
      rw [cn_of_not hn] at hb3
      subst hb3
      refine .inl ⟨_, w, by (simp only [callFunc, Sem.run_bind, run_program, Result.andThen_ok, Try.func134]; rfl), NoB, ⟨⟨(fun t b' h => by cases t <;> cases h), (fun t t' b1 b2 x x' _ h => by cases t <;> cases h)⟩, (fun t x h => by cases h), Fr.refl _ w⟩, rfl⟩
  · cases hp
def z1c : List PT → Option (Bool × AV × List Blk)
  | [.one (.s (.flt .f64 x))] => some (bnot (nanQ .f64 x), A1 (.flt .f64 (fint .zero x)), [])
  | _ => none
theorem z0q : SumOne Try.prog 137 z1c := by
  intro pts v news hp w vals hv
  unfold z1c at hp
  split at hp
  · rename_i x
    injection hp with hp
    injection hp with h1 hp
    injection hp with h2 h3
    subst h2
    subst h3
    obtain ⟨l, hl⟩ : ∃ l, l = vals.toList := ⟨_, rfl⟩
    rw [← hl] at hv
    cases hv with
    | cons a1 a2 =>
      cases a2
      obtain ⟨b, hb1, hb2, hb3⟩ := a1
      subst hb1
      rename_i hx
      have hvals : vals = #[.float .f64 b] := by rw [← Array.toList_inj, ← hl]
      subst hvals
      have hn : nanB .f64 b = false := by rw [← nanB_cn, hb3]; simpa [bnot, nanQ] using h1
      rw [cn_of_not hn] at hb3
      subst hb3
      refine .inl ⟨_, w, by (simp only [callFunc, Sem.run_bind, run_program, Result.andThen_ok, Try.func137]; change (do let v ← Extern.MathFloor.toIntegral "math.archTrunc" .zero #[.float .f64 b]; pure (.value v) : Sem Next).run Try.prog w = _; rw [Sem.run_bind, run_fint hn]; rfl), NoB, ⟨⟨(fun t b' h => by cases t <;> cases h), (fun t t' b1 b2 x x' _ h => by cases t <;> cases h)⟩, (fun t x h => by cases h), Fr.refl _ w⟩, fint_rel hn⟩
  · cases hp
noncomputable def tb0 : List (Nat × (List PT → Option (Bool × AV × List Blk))) := [(125, z1b), (128, z0h), (134, z0r), (137, z1c)]
noncomputable def lt0 : List ((Nat × Nat) × (Nat → St → Option (Bool × LO))) := []
noncomputable def Γ0 : Ctx := ⟨tyTab, fnTab, tblSum tb0, tblLp lt0⟩
theorem tb0_ok : SumL Try.prog tb0 := SumL.cons z0p (SumL.cons z0g (SumL.cons z0k (SumL.cons z0q (SumL.nil))))
theorem lt0_ok : LpL Try.prog fnTab lt0 := LpL.nil
noncomputable def z1k : List PT → Option (Bool × AV × List Blk)
  | [.one (.s (.flt .f64 a)), .one (.s (.flt .f64 b))] => some ((z7q a b), ((AV.v (TV.one (At.bool (z78 a b)))), []))
  | _ => none
def zbi (a : Nat) (b : Nat) : Option (Bool) → Option (AV × List Blk)
  | some r => some ((AV.v (TV.one (At.bool r))), [])
  | none => none
theorem zei (a : Nat) (b : Nat) : evFn Γ0 8 8 18 (impTs 0 [.one (.s (.flt .f64 a)), .one (.s (.flt .f64 b))]).1 (impTs 0 [.one (.s (.flt .f64 a)), .one (.s (.flt .f64 b))]).2 (expo (impTs 0 [.one (.s (.flt .f64 a)), .one (.s (.flt .f64 b))]).2.length) = z6c a b (fun c0_ => some ((AV.v (TV.one (At.bool c0_))), [])) := by kernel_rfl
theorem z0u : SumOne Try.prog 18 z1k := sum_of (Γ := Γ0) (fuel := 8) (d := 8) tyTab_ok (FnL.ok fnTab_ok _ _) (LpL.ok lt0_ok) (SumL.ok tb0_ok _) mixed (by
  intro pts v news hp hc
  clear hc
  unfold z1k at hp
  split at hp
  · rename_i a b
    exact Eq.trans (Eq.trans (zei a b) (zcr (zbi a b) rfl a b (fun c0_ => some c0_))) (fin_out (o := (zbi a b)) (x := z6d a b) (d := default) (V := fun r => ((AV.v (TV.one (At.bool r))), [])) (fun r => rfl) hp)
  · cases hp)
noncomputable def z16 : List PT → Option (Bool × AV × List Blk)
  | [.one (.row 1 a_n (.fl .f32 a)), .one (.s (.int .i64 q0z))] => some ((z64 a_n a q0z), ((AV.v (TV.one (At.int IntKind.i64 (z3i a_n a q0z)))), []))
  | _ => none
def zb6 (a_n : Nat) (a : List Nat) (q0z : Int) : Option (Int) → Option (AV × List Blk)
  | some r => some ((AV.v (TV.one (At.int IntKind.i64 r))), [])
  | none => none
theorem zdq (a_n : Nat) (a : List Nat) (q0z : Int) : evFn Γ0 8 8 48 (impTs 0 [.one (.row 1 a_n (.fl .f32 a)), .one (.s (.int .i64 q0z))]).1 (impTs 0 [.one (.row 1 a_n (.fl .f32 a)), .one (.s (.int .i64 q0z))]).2 (expo (impTs 0 [.one (.row 1 a_n (.fl .f32 a)), .one (.s (.int .i64 q0z))]).2.length) = z60 a_n a q0z (fun c0_ => some ((AV.v (TV.one (At.int IntKind.i64 c0_))), [])) := by kernel_rfl
theorem z0n : SumOne Try.prog 48 z16 := sum_of (Γ := Γ0) (fuel := 8) (d := 8) tyTab_ok (FnL.ok fnTab_ok _ _) (LpL.ok lt0_ok) (SumL.ok tb0_ok _) mixed (by
  intro pts v news hp hc
  clear hc
  unfold z16 at hp
  split at hp
  · rename_i a_n a q0z
    exact Eq.trans (Eq.trans (zdq a_n a q0z) (zcc (zb6 a_n a q0z) rfl a_n a q0z (fun c0_ => some c0_))) (fin_out (o := (zb6 a_n a q0z)) (x := z65 a_n a q0z) (d := default) (V := fun r => ((AV.v (TV.one (At.int IntKind.i64 r))), [])) (fun r => rfl) hp)
  · cases hp)
noncomputable def z1w : List PT → Option (Bool × AV × List Blk)
  | [.one (.s (.flt .f32 x))] => some ((z58 x), ((AV.v (TV.one (At.bool (z4z x)))), []))
  | _ => none
def zby (x : Nat) : Option (Bool) → Option (AV × List Blk)
  | some r => some ((AV.v (TV.one (At.bool r))), [])
  | none => none
theorem zf0 (x : Nat) : evFn Γ0 8 8 54 (impTs 0 [.one (.s (.flt .f32 x))]).1 (impTs 0 [.one (.s (.flt .f32 x))]).2 (expo (impTs 0 [.one (.s (.flt .f32 x))]).2.length) = z8h x (fun c0_ => some ((AV.v (TV.one (At.bool c0_))), [])) := by kernel_rfl
theorem z14 : SumOne Try.prog 54 z1w := sum_of (Γ := Γ0) (fuel := 8) (d := 8) tyTab_ok (FnL.ok fnTab_ok _ _) (LpL.ok lt0_ok) (SumL.ok tb0_ok _) mixed (by
  intro pts v news hp hc
  clear hc
  unfold z1w at hp
  split at hp
  · rename_i x
    exact Eq.trans (Eq.trans (zf0 x) (zd5 (zby x) rfl x (fun c0_ => some c0_))) (fin_out (o := (zby x)) (x := z8k x) (d := default) (V := fun r => ((AV.v (TV.one (At.bool r))), [])) (fun r => rfl) hp)
  · cases hp)
noncomputable def z1j : List PT → Option (Bool × AV × List Blk)
  | [.one (.s (.flt .f32 x))] => some ((z4f x), ((AV.v (TV.one (At.bool (z48 x)))), []))
  | _ => none
def zbg (x : Nat) : Option (Bool) → Option (AV × List Blk)
  | some r => some ((AV.v (TV.one (At.bool r))), [])
  | none => none
theorem zem (x : Nat) : evFn Γ0 8 8 61 (impTs 0 [.one (.s (.flt .f32 x))]).1 (impTs 0 [.one (.s (.flt .f32 x))]).2 (expo (impTs 0 [.one (.s (.flt .f32 x))]).2.length) = z7v x (fun c0_ => some ((AV.v (TV.one (At.bool c0_))), [])) := by kernel_rfl
theorem z0v : SumOne Try.prog 61 z1j := sum_of (Γ := Γ0) (fuel := 8) (d := 8) tyTab_ok (FnL.ok fnTab_ok _ _) (LpL.ok lt0_ok) (SumL.ok tb0_ok _) mixed (by
  intro pts v news hp hc
  clear hc
  unfold z1j at hp
  split at hp
  · rename_i x
    exact Eq.trans (Eq.trans (zem x) (zck (zbg x) rfl x (fun c0_ => some c0_))) (fin_out (o := (zbg x)) (x := z7u x) (d := default) (V := fun r => ((AV.v (TV.one (At.bool r))), [])) (fun r => rfl) hp)
  · cases hp)
noncomputable def z1v : List PT → Option (Bool × AV × List Blk)
  | [.one (.s (.flt .f32 x)), .one (.s (.flt .f32 low)), .one (.s (.flt .f32 q18))] => some ((za1 x low q18), ((AV.v (TV.one (At.bool (z9p x low q18)))), []))
  | _ => none
def zbx (x : Nat) (low : Nat) (q18 : Nat) : Option (Bool) → Option (AV × List Blk)
  | some r => some ((AV.v (TV.one (At.bool r))), [])
  | none => none
theorem zev (x : Nat) (low : Nat) (q18 : Nat) : evFn Γ0 8 8 97 (impTs 0 [.one (.s (.flt .f32 x)), .one (.s (.flt .f32 low)), .one (.s (.flt .f32 q18))]).1 (impTs 0 [.one (.s (.flt .f32 x)), .one (.s (.flt .f32 low)), .one (.s (.flt .f32 q18))]).2 (expo (impTs 0 [.one (.s (.flt .f32 x)), .one (.s (.flt .f32 low)), .one (.s (.flt .f32 q18))]).2.length) = z6y x low q18 (fun c0_ => some ((AV.v (TV.one (At.bool c0_))), [])) := by kernel_rfl
theorem z15 : SumOne Try.prog 97 z1v := sum_of (Γ := Γ0) (fuel := 8) (d := 8) tyTab_ok (FnL.ok fnTab_ok _ _) (LpL.ok lt0_ok) (SumL.ok tb0_ok _) mixed (by
  intro pts v news hp hc
  clear hc
  unfold z1v at hp
  split at hp
  · rename_i x low q18
    exact Eq.trans (Eq.trans (zev x low q18) (zd9 (zbx x low q18) rfl x low q18 (fun c0_ => some c0_))) (fin_out (o := (zbx x low q18)) (x := z71 x low q18) (d := default) (V := fun r => ((AV.v (TV.one (At.bool r))), [])) (fun r => rfl) hp)
  · cases hp)
noncomputable def z2o : List PT → Option (Bool × AV × List Blk)
  | [.one (.s (.flt .f32 a)), .one (.s (.flt .f32 b)), .one (.s (.flt .f32 q0t))] => some ((za3 a b q0t), ((AV.v (TV.one (At.flt FloatKind.f32 (z9t a b q0t)))), []))
  | _ => none
def zdn (a : Nat) (b : Nat) (q0t : Nat) : Option (Nat) → Option (AV × List Blk)
  | some r => some ((AV.v (TV.one (At.flt FloatKind.f32 r))), [])
  | none => none
theorem zfi (a : Nat) (b : Nat) (q0t : Nat) : evFn Γ0 8 8 102 (impTs 0 [.one (.s (.flt .f32 a)), .one (.s (.flt .f32 b)), .one (.s (.flt .f32 q0t))]).1 (impTs 0 [.one (.s (.flt .f32 a)), .one (.s (.flt .f32 b)), .one (.s (.flt .f32 q0t))]).2 (expo (impTs 0 [.one (.s (.flt .f32 a)), .one (.s (.flt .f32 b)), .one (.s (.flt .f32 q0t))]).2.length) = zab a b q0t (fun c0_ => some ((AV.v (TV.one (At.flt FloatKind.f32 c0_))), [])) := by kernel_rfl
theorem z23 : SumOne Try.prog 102 z2o := sum_of (Γ := Γ0) (fuel := 8) (d := 8) tyTab_ok (FnL.ok fnTab_ok _ _) (LpL.ok lt0_ok) (SumL.ok tb0_ok _) mixed (by
  intro pts v news hp hc
  clear hc
  unfold z2o at hp
  split at hp
  · rename_i a b q0t
    exact Eq.trans (Eq.trans (zfi a b q0t) (zec (zdn a b q0t) rfl a b q0t (fun c0_ => some c0_))) (fin_out (o := (zdn a b q0t)) (x := zaa a b q0t) (d := default) (V := fun r => ((AV.v (TV.one (At.flt FloatKind.f32 r))), [])) (fun r => rfl) hp)
  · cases hp)
noncomputable def z1l : List PT → Option (Bool × AV × List Blk)
  | [.one (.s (.flt .f64 x))] => some ((z9o x), ((AV.v (TV.one (At.flt FloatKind.f32 (z7b x)))), []))
  | _ => none
def zbq (x : Nat) : Option (Nat) → Option (AV × List Blk)
  | some r => some ((AV.v (TV.one (At.flt FloatKind.f32 r))), [])
  | none => none
theorem zed (x : Nat) : evFn Γ0 8 8 109 (impTs 0 [.one (.s (.flt .f64 x))]).1 (impTs 0 [.one (.s (.flt .f64 x))]).2 (expo (impTs 0 [.one (.s (.flt .f64 x))]).2.length) = z6b x (fun c0_ => some ((AV.v (TV.one (At.flt FloatKind.f32 c0_))), [])) := by kernel_rfl
theorem z0t : SumOne Try.prog 109 z1l := sum_of (Γ := Γ0) (fuel := 8) (d := 8) tyTab_ok (FnL.ok fnTab_ok _ _) (LpL.ok lt0_ok) (SumL.ok tb0_ok _) mixed (by
  intro pts v news hp hc
  clear hc
  unfold z1l at hp
  split at hp
  · rename_i x
    exact Eq.trans (Eq.trans (zed x) (zct (zbq x) rfl x (fun c0_ => some c0_))) (fin_out (o := (zbq x)) (x := z6o x) (d := default) (V := fun r => ((AV.v (TV.one (At.flt FloatKind.f32 r))), [])) (fun r => rfl) hp)
  · cases hp)
noncomputable def tb1 : List (Nat × (List PT → Option (Bool × AV × List Blk))) := [(125, z1b), (128, z0h), (134, z0r), (137, z1c), (18, z1k), (48, z16), (54, z1w), (61, z1j), (97, z1v), (102, z2o), (109, z1l)]
noncomputable def lt1 : List ((Nat × Nat) × (Nat → St → Option (Bool × LO))) := []
noncomputable def Γ1 : Ctx := ⟨tyTab, fnTab, tblSum tb1, tblLp lt1⟩
theorem tb1_ok : SumL Try.prog tb1 := SumL.cons z0p (SumL.cons z0g (SumL.cons z0k (SumL.cons z0q (SumL.cons z0u (SumL.cons z0n (SumL.cons z14 (SumL.cons z0v (SumL.cons z15 (SumL.cons z23 (SumL.cons z0t (SumL.nil)))))))))))
theorem lt1_ok : LpL Try.prog fnTab lt1 := LpL.nil
noncomputable def z1s : List PT → Option (Bool × AV × List Blk)
  | [.agg [.row 1 q0g (.fl .f32 q0n), .row 1 q0i (.fl .f32 q0o), .row 1 q0l (.fl .f32 q0p)], .one (.s (.int .i64 q0z))] => some ((z7w q0g q0n q0i q0o q0l q0p q0z), ((AV.v (TV.one (At.int IntKind.i64 (z77 q0g q0n q0i q0o q0l q0p q0z)))), []))
  | _ => none
def zbf (q0g : Nat) (q0n : List Nat) (q0i : Nat) (q0o : List Nat) (q0l : Nat) (q0p : List Nat) (q0z : Int) : Option (Int) → Option (AV × List Blk)
  | some r => some ((AV.v (TV.one (At.int IntKind.i64 r))), [])
  | none => none
theorem zep (q0g : Nat) (q0n : List Nat) (q0i : Nat) (q0o : List Nat) (q0l : Nat) (q0p : List Nat) (q0z : Int) : evFn Γ1 8 8 14 (impTs 0 [.agg [.row 1 q0g (.fl .f32 q0n), .row 1 q0i (.fl .f32 q0o), .row 1 q0l (.fl .f32 q0p)], .one (.s (.int .i64 q0z))]).1 (impTs 0 [.agg [.row 1 q0g (.fl .f32 q0n), .row 1 q0i (.fl .f32 q0o), .row 1 q0l (.fl .f32 q0p)], .one (.s (.int .i64 q0z))]).2 (expo (impTs 0 [.agg [.row 1 q0g (.fl .f32 q0n), .row 1 q0i (.fl .f32 q0o), .row 1 q0l (.fl .f32 q0p)], .one (.s (.int .i64 q0z))]).2.length) = z6i q0g q0n q0i q0o q0l q0p q0z (fun c0_ => some ((AV.v (TV.one (At.int IntKind.i64 c0_))), [])) := by kernel_rfl
theorem z12 : SumOne Try.prog 14 z1s := sum_of (Γ := Γ1) (fuel := 8) (d := 8) tyTab_ok (FnL.ok fnTab_ok _ _) (LpL.ok lt1_ok) (SumL.ok tb1_ok _) mixed (by
  intro pts v news hp hc
  clear hc
  unfold z1s at hp
  split at hp
  · rename_i q0g q0n q0i q0o q0l q0p q0z
    exact Eq.trans (Eq.trans (zep q0g q0n q0i q0o q0l q0p q0z) (zcm (zbf q0g q0n q0i q0o q0l q0p q0z) rfl q0g q0n q0i q0o q0l q0p q0z (fun c0_ => some c0_))) (fin_out (o := (zbf q0g q0n q0i q0o q0l q0p q0z)) (x := z6l q0g q0n q0i q0o q0l q0p q0z) (d := default) (V := fun r => ((AV.v (TV.one (At.int IntKind.i64 r))), [])) (fun r => rfl) hp)
  · cases hp)
noncomputable def z1r : List PT → Option (Bool × AV × List Blk)
  | [.one (.s (.flt .f32 x))] => some ((z7s x), ((AV.tup [(TV.one (At.flt FloatKind.f32 (z79 x))), (TV.one (At.bool (z7a x)))]), []))
  | _ => none
def zbm (x : Nat) : Option (Nat × Bool) → Option (AV × List Blk)
  | some r => some ((AV.tup [(TV.one (At.flt FloatKind.f32 r.1)), (TV.one (At.bool r.2))]), [])
  | none => none
theorem zeo (x : Nat) : evFn Γ1 8 8 51 (impTs 0 [.one (.s (.flt .f32 x))]).1 (impTs 0 [.one (.s (.flt .f32 x))]).2 (expo (impTs 0 [.one (.s (.flt .f32 x))]).2.length) = z6f x (fun c0_ c1_ => some ((AV.tup [(TV.one (At.flt FloatKind.f32 c0_)), (TV.one (At.bool c1_))]), [])) := by kernel_rfl
theorem z11 : SumOne Try.prog 51 z1r := sum_of (Γ := Γ1) (fuel := 8) (d := 8) tyTab_ok (FnL.ok fnTab_ok _ _) (LpL.ok lt1_ok) (SumL.ok tb1_ok _) mixed (by
  intro pts v news hp hc
  clear hc
  unfold z1r at hp
  split at hp
  · rename_i x
    exact Eq.trans (Eq.trans (zeo x) (zcq (zbm x) rfl x (fun c0_ c1_ => some (c0_, c1_)))) (fin_out (o := (zbm x)) (x := z5j x) (d := default) (V := fun r => ((AV.tup [(TV.one (At.flt FloatKind.f32 r.1)), (TV.one (At.bool r.2))]), [])) (fun r => rfl) hp)
  · cases hp)
noncomputable def z28 : List PT → Option (Bool × AV × List Blk)
  | [.one (.s (.flt .f32 x))] => some ((z7o x), ((AV.tup [(TV.one (At.flt FloatKind.f32 (z6w x))), (TV.one (At.bool (z6z x)))]), []))
  | _ => none
def zc9 (x : Nat) : Option (Nat × Bool) → Option (AV × List Blk)
  | some r => some ((AV.tup [(TV.one (At.flt FloatKind.f32 r.1)), (TV.one (At.bool r.2))]), [])
  | none => none
theorem zf3 (x : Nat) : evFn Γ1 8 8 56 (impTs 0 [.one (.s (.flt .f32 x))]).1 (impTs 0 [.one (.s (.flt .f32 x))]).2 (expo (impTs 0 [.one (.s (.flt .f32 x))]).2.length) = z7l x (fun c0_ c1_ => some ((AV.tup [(TV.one (At.flt FloatKind.f32 c0_)), (TV.one (At.bool c1_))]), [])) := by kernel_rfl
theorem z1p : SumOne Try.prog 56 z28 := sum_of (Γ := Γ1) (fuel := 8) (d := 8) tyTab_ok (FnL.ok fnTab_ok _ _) (LpL.ok lt1_ok) (SumL.ok tb1_ok _) mixed (by
  intro pts v news hp hc
  clear hc
  unfold z28 at hp
  split at hp
  · rename_i x
    exact Eq.trans (Eq.trans (zf3 x) (zdj (zc9 x) rfl x (fun c0_ c1_ => some (c0_, c1_)))) (fin_out (o := (zc9 x)) (x := z6n x) (d := default) (V := fun r => ((AV.tup [(TV.one (At.flt FloatKind.f32 r.1)), (TV.one (At.bool r.2))]), [])) (fun r => rfl) hp)
  · cases hp)
noncomputable def z20 : List PT → Option (Bool × AV × List Blk)
  | [.one (.s (.flt .f32 x))] => some ((z5s x), ((AV.v (TV.one (At.bool (z5h x)))), []))
  | _ => none
def zbw (x : Nat) : Option (Bool) → Option (AV × List Blk)
  | some r => some ((AV.v (TV.one (At.bool r))), [])
  | none => none
theorem zf2 (x : Nat) : evFn Γ1 8 8 103 (impTs 0 [.one (.s (.flt .f32 x))]).1 (impTs 0 [.one (.s (.flt .f32 x))]).2 (expo (impTs 0 [.one (.s (.flt .f32 x))]).2.length) = z6x x (fun c0_ => some ((AV.v (TV.one (At.bool c0_))), [])) := by kernel_rfl
theorem z18 : SumOne Try.prog 103 z20 := sum_of (Γ := Γ1) (fuel := 8) (d := 8) tyTab_ok (FnL.ok fnTab_ok _ _) (LpL.ok lt1_ok) (SumL.ok tb1_ok _) mixed (by
  intro pts v news hp hc
  clear hc
  unfold z20 at hp
  split at hp
  · rename_i x
    exact Eq.trans (Eq.trans (zf2 x) (zda (zbw x) rfl x (fun c0_ => some c0_))) (fin_out (o := (zbw x)) (x := z6t x) (d := default) (V := fun r => ((AV.v (TV.one (At.bool r))), [])) (fun r => rfl) hp)
  · cases hp)
noncomputable def z27 : List PT → Option (Bool × AV × List Blk)
  | [.one (.s (.flt .f32 x))] => some ((zah x), ((AV.v (TV.one (At.bool (za0 x)))), []))
  | _ => none
def zc8 (x : Nat) : Option (Bool) → Option (AV × List Blk)
  | some r => some ((AV.v (TV.one (At.bool r))), [])
  | none => none
theorem zf7 (x : Nat) : evFn Γ1 8 8 111 (impTs 0 [.one (.s (.flt .f32 x))]).1 (impTs 0 [.one (.s (.flt .f32 x))]).2 (expo (impTs 0 [.one (.s (.flt .f32 x))]).2.length) = z7m x (fun c0_ => some ((AV.v (TV.one (At.bool c0_))), [])) := by kernel_rfl
theorem z1n : SumOne Try.prog 111 z27 := sum_of (Γ := Γ1) (fuel := 8) (d := 8) tyTab_ok (FnL.ok fnTab_ok _ _) (LpL.ok lt1_ok) (SumL.ok tb1_ok _) mixed (by
  intro pts v news hp hc
  clear hc
  unfold z27 at hp
  split at hp
  · rename_i x
    exact Eq.trans (Eq.trans (zf7 x) (zdl (zc8 x) rfl x (fun c0_ => some c0_))) (fin_out (o := (zc8 x)) (x := z7p x) (d := default) (V := fun r => ((AV.v (TV.one (At.bool r))), [])) (fun r => rfl) hp)
  · cases hp)
noncomputable def z10 : List PT → Option (Bool × AV × List Blk)
  | [.one (.s (.flt .f32 x))] => some ((z8e x), ((AV.v (TV.one (At.bool (z7z x)))), []))
  | _ => none
def zb0 (x : Nat) : Option (Bool) → Option (AV × List Blk)
  | some r => some ((AV.v (TV.one (At.bool r))), [])
  | none => none
theorem zdd (x : Nat) : evFn Γ1 8 8 118 (impTs 0 [.one (.s (.flt .f32 x))]).1 (impTs 0 [.one (.s (.flt .f32 x))]).2 (expo (impTs 0 [.one (.s (.flt .f32 x))]).2.length) = z5m x (fun c0_ => some ((AV.v (TV.one (At.bool c0_))), [])) := by kernel_rfl
theorem z0m : SumOne Try.prog 118 z10 := sum_of (Γ := Γ1) (fuel := 8) (d := 8) tyTab_ok (FnL.ok fnTab_ok _ _) (LpL.ok lt1_ok) (SumL.ok tb1_ok _) mixed (by
  intro pts v news hp hc
  clear hc
  unfold z10 at hp
  split at hp
  · rename_i x
    exact Eq.trans (Eq.trans (zdd x) (zc2 (zb0 x) rfl x (fun c0_ => some c0_))) (fin_out (o := (zb0 x)) (x := z5p x) (d := default) (V := fun r => ((AV.v (TV.one (At.bool r))), [])) (fun r => rfl) hp)
  · cases hp)
noncomputable def zan (an : Nat) (q17 : Nat) (i : Int) (b0 : List Nat) (b1 : List Nat) : Bool × LO := ((z5t an q17 b0 i b1), (LO.one (Ex.exit 0) (St.mk [(0, (AV.v (TV.one (At.vw 0 0 an 1)))), (3, (AV.v (TV.one (At.sl 1 0 q17 1)))), (4, (AV.v (TV.one (At.int IntKind.i64 (z82 an q17 b0 i b1))))), (11, (AV.v (TV.one (At.bool (z85 an q17 b0 i b1)))))] [(Blk.mk Bool.false (Body.fl FloatKind.f32 b0)), (Blk.mk Bool.true (Body.fl FloatKind.f32 (z55 an q17 b0 i b1)))])))
noncomputable def z0o : Nat → St → Option (Bool × LO) := lpT 1 (pSt [(pTm 0 (pV (pOne (pVw 0 (liN 0) 1)))), (pTm 3 (pV (pOne (pSl 1 (liN 0) 1)))), (pTm 4 (pV (pOne (pInt IntKind.i64))))] [(pBlk Bool.false (pFl FloatKind.f32)), (pBlk Bool.true (pFl FloatKind.f32))]) (fun hs => zan (hvN (hGet hs 0)) (hvN (hGet hs 1)) (hvI (hGet hs 2)) (hvLn (hGet hs 3)) (hvLn (hGet hs 4)))
def z7d (an : Nat) (q17 : Nat) (b0 : List Nat) : Option ((Int × Bool × (List Nat))) → Option (Ex × St)
  | none => none
  | some r => some ((Ex.exit 0), (St.mk [(0, (AV.v (TV.one (At.vw 0 0 an 1)))), (3, (AV.v (TV.one (At.sl 1 0 q17 1)))), (4, (AV.v (TV.one (At.int IntKind.i64 r.1)))), (11, (AV.v (TV.one (At.bool r.2.1))))] [(Blk.mk Bool.false (Body.fl FloatKind.f32 b0)), (Blk.mk Bool.true (Body.fl FloatKind.f32 r.2.2))]))
def zcg (an : Nat) (q17 : Nat) (b0 : List Nat) (x : Option ((Int × Bool × (List Nat)))) : LO := (LO.one (Ex.exit 0) (St.mk [(0, (AV.v (TV.one (At.vw 0 0 an 1)))), (3, (AV.v (TV.one (At.sl 1 0 q17 1)))), (4, (AV.v (TV.one (At.int IntKind.i64 (x.getD default).1)))), (11, (AV.v (TV.one (At.bool (x.getD default).2.1))))] [(Blk.mk Bool.false (Body.fl FloatKind.f32 b0)), (Blk.mk Bool.true (Body.fl FloatKind.f32 (x.getD default).2.2))]))
theorem zd0 (an : Nat) (q17 : Nat) (b0 : List Nat) : ∀ x : Option ((Int × Bool × (List Nat))), x.isSome = true → (z7d an q17 b0) x = some (pick (zcg an q17 b0 x))
  | none, h => by cases h
  | some r, _ => rfl
theorem zcp (an : Nat) (q17 : Nat) (i : Int) (b0 : List Nat) (b1 : List Nat) (K : Ex → St → Option (Ex × St)) : evC (R := Ex × St) Γ1 (evFn Γ1 8 8) 52 1 fi52.nt fi52.live fi52.nl 8 (findL 3 (loopsIn fi52.code)) (St.mk [(0, (AV.v (TV.one (At.vw 0 0 an 1)))), (3, (AV.v (TV.one (At.sl 1 0 q17 1)))), (4, (AV.v (TV.one (At.int IntKind.i64 i))))] [(Blk.mk Bool.false (Body.fl FloatKind.f32 b0)), (Blk.mk Bool.true (Body.fl FloatKind.f32 b1))]) K = z4b an q17 b0 i b1 (fun i' b1' => K .normal (St.mk [(0, (AV.v (TV.one (At.vw 0 0 an 1)))), (3, (AV.v (TV.one (At.sl 1 0 q17 1)))), (4, (AV.v (TV.one (At.int IntKind.i64 i'))))] [(Blk.mk Bool.false (Body.fl FloatKind.f32 b0)), (Blk.mk Bool.true (Body.fl FloatKind.f32 b1'))])) (fun c0_ c1_ c2_ => K (Ex.exit 0) (St.mk [(0, (AV.v (TV.one (At.vw 0 0 an 1)))), (3, (AV.v (TV.one (At.sl 1 0 q17 1)))), (4, (AV.v (TV.one (At.int IntKind.i64 c0_)))), (11, (AV.v (TV.one (At.bool c1_))))] [(Blk.mk Bool.false (Body.fl FloatKind.f32 b0)), (Blk.mk Bool.true (Body.fl FloatKind.f32 c2_))])) := by kernel_rfl
theorem zd1 (an : Nat) (q17 : Nat) (b0 : List Nat) : ∀ (n : Nat) (i : Int) (b1 : List Nat), iter 52 3 1 (evC (R := Ex × St) Γ1 (evFn Γ1 8 8) 52 1 fi52.nt fi52.live fi52.nl 8 (findL 3 (loopsIn fi52.code))) n (St.mk [(0, (AV.v (TV.one (At.vw 0 0 an 1)))), (3, (AV.v (TV.one (At.sl 1 0 q17 1)))), (4, (AV.v (TV.one (At.int IntKind.i64 i))))] [(Blk.mk Bool.false (Body.fl FloatKind.f32 b0)), (Blk.mk Bool.true (Body.fl FloatKind.f32 b1))]) (fun e st => some (e, st)) = (z7d an q17 b0) (z3t an q17 b0 n i b1) := by
  intro n
  induction n with
  | zero => intros; rfl
  | succ n ih =>
    intro i b1
    refine Eq.trans (iter_succ ..) (Eq.trans (zcp an q17 i b0 b1 (nextK 52 3 1 (evC (R := Ex × St) Γ1 (evFn Γ1 8 8) 52 1 fi52.nt fi52.live fi52.nl 8 (findL 3 (loopsIn fi52.code))) n (fun e st => some (e, st)))) (Eq.trans ?_ (zbo (z7d an q17 b0) rfl an q17 b0 i b1 (fun i' b1' => z3t an q17 b0 n i' b1') (fun c0_ c1_ c2_ => some (c0_, c1_, c2_)))))
    exact congrArg (fun kn_ => z4b an q17 b0 i b1 kn_ (fun c0_ c1_ c2_ => (z7d an q17 b0) (some (c0_, c1_, c2_)))) (funext fun i' => funext fun b1' => ih i' b1')
theorem z0i : LoopOne Try.prog fnTab 52 3 z0o := lp_of (Γ := Γ1) tyTab_ok (FnL.ok fnTab_ok _ _) (LpL.ok lt1_ok) (SumL.ok tb1_ok _) mixed (fi := fi52) (by kernel_rfl) (by kernel_rfl) (by
  intro lo st out hp
  obtain ⟨hs, e1, e2, e3⟩ := lpT_inv hp
  clear hp
  obtain rfl : st = (St.mk [(0, (AV.v (TV.one (At.vw 0 0 (hvN (hGet hs 0)) 1)))), (3, (AV.v (TV.one (At.sl 1 0 (hvN (hGet hs 1)) 1)))), (4, (AV.v (TV.one (At.int IntKind.i64 (hvI (hGet hs 2))))))] [(Blk.mk Bool.false (Body.fl FloatKind.f32 (hvLn (hGet hs 3)))), (Blk.mk Bool.true (Body.fl FloatKind.f32 (hvLn (hGet hs 4))))]) := e2.trans (by kernel_rfl)
  clear e2
  subst e1
  unfold zan at e3
  injection e3 with h1 h2
  subst h2
  exact ⟨8, 8, big, Eq.trans (zd1 (hvN (hGet hs 0)) (hvN (hGet hs 1)) (hvLn (hGet hs 3)) big (hvI (hGet hs 2)) (hvLn (hGet hs 4))) (zd0 (hvN (hGet hs 0)) (hvN (hGet hs 1)) (hvLn (hGet hs 3)) (z3t (hvN (hGet hs 0)) (hvN (hGet hs 1)) (hvLn (hGet hs 3)) big (hvI (hGet hs 2)) (hvLn (hGet hs 4))) h1)⟩)
noncomputable def tb2 : List (Nat × (List PT → Option (Bool × AV × List Blk))) := [(125, z1b), (128, z0h), (134, z0r), (137, z1c), (18, z1k), (48, z16), (54, z1w), (61, z1j), (97, z1v), (102, z2o), (109, z1l), (14, z1s), (51, z1r), (56, z28), (103, z20), (111, z27), (118, z10)]
noncomputable def lt2 : List ((Nat × Nat) × (Nat → St → Option (Bool × LO))) := [((52, 3), z0o)]
noncomputable def Γ2 : Ctx := ⟨tyTab, fnTab, tblSum tb2, tblLp lt2⟩
theorem tb2_ok : SumL Try.prog tb2 := SumL.cons z0p (SumL.cons z0g (SumL.cons z0k (SumL.cons z0q (SumL.cons z0u (SumL.cons z0n (SumL.cons z14 (SumL.cons z0v (SumL.cons z15 (SumL.cons z23 (SumL.cons z0t (SumL.cons z12 (SumL.cons z11 (SumL.cons z1p (SumL.cons z18 (SumL.cons z1n (SumL.cons z0m (SumL.nil)))))))))))))))))
theorem lt2_ok : LpL Try.prog fnTab lt2 := LpL.cons z0i (LpL.nil)
noncomputable def z1g : List PT → Option (Bool × AV × List Blk)
  | [.one (.row 1 a_n (.fl .f32 a))] => some ((z5x a_n a), ((AV.v (TV.one (At.sl 0 0 (z5o a_n a) 1))), [(Blk.mk Bool.true (Body.fl FloatKind.f32 (z5l a_n a)))]))
  | _ => none
def zb9 (a_n : Nat) (a : List Nat) : Option (Nat × (List Nat)) → Option (AV × List Blk)
  | some r => some ((AV.v (TV.one (At.sl 0 0 r.1 1))), [(Blk.mk Bool.true (Body.fl FloatKind.f32 r.2))])
  | none => none
theorem ze4 (a_n : Nat) (a : List Nat) : evFn Γ2 8 8 52 (impTs 0 [.one (.row 1 a_n (.fl .f32 a))]).1 (impTs 0 [.one (.row 1 a_n (.fl .f32 a))]).2 (expo (impTs 0 [.one (.row 1 a_n (.fl .f32 a))]).2.length) = z61 a_n a (fun c0_ c1_ => some ((AV.v (TV.one (At.sl 0 0 c0_ 1))), [(Blk.mk Bool.true (Body.fl FloatKind.f32 c1_))])) := by kernel_rfl
theorem z0w : SumOne Try.prog 52 z1g := sum_of (Γ := Γ2) (fuel := 8) (d := 8) tyTab_ok (FnL.ok fnTab_ok _ _) (LpL.ok lt2_ok) (SumL.ok tb2_ok _) mixed (by
  intro pts v news hp hc
  clear hc
  unfold z1g at hp
  split at hp
  · rename_i a_n a
    exact Eq.trans (Eq.trans (ze4 a_n a) (zcj (zb9 a_n a) rfl a_n a (fun c0_ c1_ => some (c0_, c1_)))) (fin_out (o := (zb9 a_n a)) (x := z56 a_n a) (d := default) (V := fun r => ((AV.v (TV.one (At.sl 0 0 r.1 1))), [(Blk.mk Bool.true (Body.fl FloatKind.f32 r.2))])) (fun r => rfl) hp)
  · cases hp)
noncomputable def z1h : List PT → Option (Bool × AV × List Blk)
  | [.one (.s (.flt .f32 x))] => some ((z8y x), ((AV.v (TV.one (At.bool (z8m x)))), []))
  | _ => none
def zba (x : Nat) : Option (Bool) → Option (AV × List Blk)
  | some r => some ((AV.v (TV.one (At.bool r))), [])
  | none => none
theorem ze2 (x : Nat) : evFn Γ2 8 8 119 (impTs 0 [.one (.s (.flt .f32 x))]).1 (impTs 0 [.one (.s (.flt .f32 x))]).2 (expo (impTs 0 [.one (.s (.flt .f32 x))]).2.length) = z67 x (fun c0_ => some ((AV.v (TV.one (At.bool c0_))), [])) := by kernel_rfl
theorem z0x : SumOne Try.prog 119 z1h := sum_of (Γ := Γ2) (fuel := 8) (d := 8) tyTab_ok (FnL.ok fnTab_ok _ _) (LpL.ok lt2_ok) (SumL.ok tb2_ok _) mixed (by
  intro pts v news hp hc
  clear hc
  unfold z1h at hp
  split at hp
  · rename_i x
    exact Eq.trans (Eq.trans (ze2 x) (zce (zba x) rfl x (fun c0_ => some c0_))) (fin_out (o := (zba x)) (x := z5z x) (d := default) (V := fun r => ((AV.v (TV.one (At.bool r))), [])) (fun r => rfl) hp)
  · cases hp)
noncomputable def zam (an : Nat) (bn : Nat) (i : Int) (b0 : List Nat) (b1 : List Nat) : Bool × LO := ((z7f an bn b0 b1 i), (LO.two (z6u an bn b0 b1 i) (LO.one Ex.ret (St.mk [(4, (AV.v (TV.one (At.bool Bool.false))))] [(Blk.mk Bool.false (Body.fl FloatKind.f32 b0)), (Blk.mk Bool.false (Body.fl FloatKind.f32 b1))])) (LO.one (Ex.exit 0) (St.mk [(0, (AV.v (TV.one (At.vw 0 0 an 1)))), (1, (AV.v (TV.one (At.vw 1 0 bn 1)))), (5, (AV.v (TV.one (At.int IntKind.i64 (z84 an bn b0 b1 i))))), (14, (AV.v (TV.one (At.bool (z87 an bn b0 b1 i)))))] [(Blk.mk Bool.false (Body.fl FloatKind.f32 b0)), (Blk.mk Bool.false (Body.fl FloatKind.f32 b1))]))))
noncomputable def z0s : Nat → St → Option (Bool × LO) := lpT 2 (pSt [(pTm 0 (pV (pOne (pVw 0 (liN 0) 1)))), (pTm 1 (pV (pOne (pVw 1 (liN 0) 1)))), (pTm 5 (pV (pOne (pInt IntKind.i64))))] [(pBlk Bool.false (pFl FloatKind.f32)), (pBlk Bool.false (pFl FloatKind.f32))]) (fun hs => zam (hvN (hGet hs 0)) (hvN (hGet hs 1)) (hvI (hGet hs 2)) (hvLn (hGet hs 3)) (hvLn (hGet hs 4)))
def z5v (an : Nat) (bn : Nat) (b0 : List Nat) (b1 : List Nat) : Option ((Unit) ⊕ (Int × Bool)) → Option (Ex × St)
  | none => none
  | some (Sum.inl r) => some (Ex.ret, (St.mk [(4, (AV.v (TV.one (At.bool Bool.false))))] [(Blk.mk Bool.false (Body.fl FloatKind.f32 b0)), (Blk.mk Bool.false (Body.fl FloatKind.f32 b1))]))
  | some (Sum.inr r) => some ((Ex.exit 0), (St.mk [(0, (AV.v (TV.one (At.vw 0 0 an 1)))), (1, (AV.v (TV.one (At.vw 1 0 bn 1)))), (5, (AV.v (TV.one (At.int IntKind.i64 r.1)))), (14, (AV.v (TV.one (At.bool r.2))))] [(Blk.mk Bool.false (Body.fl FloatKind.f32 b0)), (Blk.mk Bool.false (Body.fl FloatKind.f32 b1))]))
def zcd (an : Nat) (bn : Nat) (b0 : List Nat) (b1 : List Nat) (x : Option ((Unit) ⊕ (Int × Bool))) : LO := (LO.two (oL x) (LO.one Ex.ret (St.mk [(4, (AV.v (TV.one (At.bool Bool.false))))] [(Blk.mk Bool.false (Body.fl FloatKind.f32 b0)), (Blk.mk Bool.false (Body.fl FloatKind.f32 b1))])) (LO.one (Ex.exit 0) (St.mk [(0, (AV.v (TV.one (At.vw 0 0 an 1)))), (1, (AV.v (TV.one (At.vw 1 0 bn 1)))), (5, (AV.v (TV.one (At.int IntKind.i64 ((tR x).getD default).1)))), (14, (AV.v (TV.one (At.bool ((tR x).getD default).2))))] [(Blk.mk Bool.false (Body.fl FloatKind.f32 b0)), (Blk.mk Bool.false (Body.fl FloatKind.f32 b1))])))
theorem zco (an : Nat) (bn : Nat) (b0 : List Nat) (b1 : List Nat) : ∀ x : Option ((Unit) ⊕ (Int × Bool)), x.isSome = true → (z5v an bn b0 b1) x = some (pick (zcd an bn b0 b1 x))
  | none, h => by cases h
  | some (Sum.inl r), _ => rfl
  | some (Sum.inr r), _ => rfl
theorem zcl (an : Nat) (bn : Nat) (i : Int) (b0 : List Nat) (b1 : List Nat) (K : Ex → St → Option (Ex × St)) : evC (R := Ex × St) Γ2 (evFn Γ2 8 8) 57 2 fi57.nt fi57.live fi57.nl 8 (findL 4 (loopsIn fi57.code)) (St.mk [(0, (AV.v (TV.one (At.vw 0 0 an 1)))), (1, (AV.v (TV.one (At.vw 1 0 bn 1)))), (5, (AV.v (TV.one (At.int IntKind.i64 i))))] [(Blk.mk Bool.false (Body.fl FloatKind.f32 b0)), (Blk.mk Bool.false (Body.fl FloatKind.f32 b1))]) K = z49 an bn b0 b1 i (fun i' => K .normal (St.mk [(0, (AV.v (TV.one (At.vw 0 0 an 1)))), (1, (AV.v (TV.one (At.vw 1 0 bn 1)))), (5, (AV.v (TV.one (At.int IntKind.i64 i'))))] [(Blk.mk Bool.false (Body.fl FloatKind.f32 b0)), (Blk.mk Bool.false (Body.fl FloatKind.f32 b1))])) (fun _ => K Ex.ret (St.mk [(4, (AV.v (TV.one (At.bool Bool.false))))] [(Blk.mk Bool.false (Body.fl FloatKind.f32 b0)), (Blk.mk Bool.false (Body.fl FloatKind.f32 b1))])) (fun c0_ c1_ => K (Ex.exit 0) (St.mk [(0, (AV.v (TV.one (At.vw 0 0 an 1)))), (1, (AV.v (TV.one (At.vw 1 0 bn 1)))), (5, (AV.v (TV.one (At.int IntKind.i64 c0_)))), (14, (AV.v (TV.one (At.bool c1_))))] [(Blk.mk Bool.false (Body.fl FloatKind.f32 b0)), (Blk.mk Bool.false (Body.fl FloatKind.f32 b1))])) := by kernel_rfl
theorem zcy (an : Nat) (bn : Nat) (b0 : List Nat) (b1 : List Nat) : ∀ (n : Nat) (i : Int), iter 57 4 2 (evC (R := Ex × St) Γ2 (evFn Γ2 8 8) 57 2 fi57.nt fi57.live fi57.nl 8 (findL 4 (loopsIn fi57.code))) n (St.mk [(0, (AV.v (TV.one (At.vw 0 0 an 1)))), (1, (AV.v (TV.one (At.vw 1 0 bn 1)))), (5, (AV.v (TV.one (At.int IntKind.i64 i))))] [(Blk.mk Bool.false (Body.fl FloatKind.f32 b0)), (Blk.mk Bool.false (Body.fl FloatKind.f32 b1))]) (fun e st => some (e, st)) = (z5v an bn b0 b1) (z3s an bn b0 b1 n i) := by
  intro n
  induction n with
  | zero => intros; rfl
  | succ n ih =>
    intro i
    refine Eq.trans (iter_succ ..) (Eq.trans (zcl an bn i b0 b1 (nextK 57 4 2 (evC (R := Ex × St) Γ2 (evFn Γ2 8 8) 57 2 fi57.nt fi57.live fi57.nl 8 (findL 4 (loopsIn fi57.code))) n (fun e st => some (e, st)))) (Eq.trans ?_ (zbl (z5v an bn b0 b1) rfl an bn b0 b1 i (fun i' => z3s an bn b0 b1 n i') (fun _ => some (Sum.inl ())) (fun c0_ c1_ => some (Sum.inr (c0_, c1_))))))
    exact congrArg (fun kn_ => z49 an bn b0 b1 i kn_ (fun _ => (z5v an bn b0 b1) (some (Sum.inl ()))) (fun c0_ c1_ => (z5v an bn b0 b1) (some (Sum.inr (c0_, c1_))))) (funext fun i' => ih i')
theorem z0j : LoopOne Try.prog fnTab 57 4 z0s := lp_of (Γ := Γ2) tyTab_ok (FnL.ok fnTab_ok _ _) (LpL.ok lt2_ok) (SumL.ok tb2_ok _) mixed (fi := fi57) (by kernel_rfl) (by kernel_rfl) (by
  intro lo st out hp
  obtain ⟨hs, e1, e2, e3⟩ := lpT_inv hp
  clear hp
  obtain rfl : st = (St.mk [(0, (AV.v (TV.one (At.vw 0 0 (hvN (hGet hs 0)) 1)))), (1, (AV.v (TV.one (At.vw 1 0 (hvN (hGet hs 1)) 1)))), (5, (AV.v (TV.one (At.int IntKind.i64 (hvI (hGet hs 2))))))] [(Blk.mk Bool.false (Body.fl FloatKind.f32 (hvLn (hGet hs 3)))), (Blk.mk Bool.false (Body.fl FloatKind.f32 (hvLn (hGet hs 4))))]) := e2.trans (by kernel_rfl)
  clear e2
  subst e1
  unfold zam at e3
  injection e3 with h1 h2
  subst h2
  exact ⟨8, 8, big, Eq.trans (zcy (hvN (hGet hs 0)) (hvN (hGet hs 1)) (hvLn (hGet hs 3)) (hvLn (hGet hs 4)) big (hvI (hGet hs 2))) (zco (hvN (hGet hs 0)) (hvN (hGet hs 1)) (hvLn (hGet hs 3)) (hvLn (hGet hs 4)) (z3s (hvN (hGet hs 0)) (hvN (hGet hs 1)) (hvLn (hGet hs 3)) (hvLn (hGet hs 4)) big (hvI (hGet hs 2))) h1)⟩)
noncomputable def tb3 : List (Nat × (List PT → Option (Bool × AV × List Blk))) := [(125, z1b), (128, z0h), (134, z0r), (137, z1c), (18, z1k), (48, z16), (54, z1w), (61, z1j), (97, z1v), (102, z2o), (109, z1l), (14, z1s), (51, z1r), (56, z28), (103, z20), (111, z27), (118, z10), (52, z1g), (119, z1h)]
noncomputable def lt3 : List ((Nat × Nat) × (Nat → St → Option (Bool × LO))) := [((52, 3), z0o), ((57, 4), z0s)]
noncomputable def Γ3 : Ctx := ⟨tyTab, fnTab, tblSum tb3, tblLp lt3⟩
theorem tb3_ok : SumL Try.prog tb3 := SumL.cons z0p (SumL.cons z0g (SumL.cons z0k (SumL.cons z0q (SumL.cons z0u (SumL.cons z0n (SumL.cons z14 (SumL.cons z0v (SumL.cons z15 (SumL.cons z23 (SumL.cons z0t (SumL.cons z12 (SumL.cons z11 (SumL.cons z1p (SumL.cons z18 (SumL.cons z1n (SumL.cons z0m (SumL.cons z0w (SumL.cons z0x (SumL.nil)))))))))))))))))))
theorem lt3_ok : LpL Try.prog fnTab lt3 := LpL.cons z0i (LpL.cons z0j (LpL.nil))
noncomputable def z1z : List PT → Option (Bool × AV × List Blk)
  | [.agg [.row 1 q0g (.fl .f32 q0n), .row 1 q0i (.fl .f32 q0o), .row 1 q0l (.fl .f32 q0p)]] => some ((z5i q0g q0n q0i q0o q0l q0p), ((AV.v (TV.agg [(At.sl 0 0 (z2g q0g q0n q0i q0o q0l q0p) 1), (At.sl 1 0 (z2h q0g q0n q0i q0o q0l q0p) 1), (At.sl 2 0 (z2f q0g q0n q0i q0o q0l q0p) 1)])), [(Blk.mk Bool.true (Body.fl FloatKind.f32 (z3g q0g q0n q0i q0o q0l q0p))), (Blk.mk Bool.true (Body.fl FloatKind.f32 (z3h q0g q0n q0i q0o q0l q0p))), (Blk.mk Bool.true (Body.fl FloatKind.f32 (z3f q0g q0n q0i q0o q0l q0p)))]))
  | _ => none
def zbj (q0g : Nat) (q0n : List Nat) (q0i : Nat) (q0o : List Nat) (q0l : Nat) (q0p : List Nat) : Option (Nat × Nat × Nat × (List Nat) × (List Nat) × (List Nat)) → Option (AV × List Blk)
  | some r => some ((AV.v (TV.agg [(At.sl 0 0 r.1 1), (At.sl 1 0 r.2.1 1), (At.sl 2 0 r.2.2.1 1)])), [(Blk.mk Bool.true (Body.fl FloatKind.f32 r.2.2.2.1)), (Blk.mk Bool.true (Body.fl FloatKind.f32 r.2.2.2.2.1)), (Blk.mk Bool.true (Body.fl FloatKind.f32 r.2.2.2.2.2))])
  | none => none
theorem zeq (q0g : Nat) (q0n : List Nat) (q0i : Nat) (q0o : List Nat) (q0l : Nat) (q0p : List Nat) : evFn Γ3 8 8 16 (impTs 0 [.agg [.row 1 q0g (.fl .f32 q0n), .row 1 q0i (.fl .f32 q0o), .row 1 q0l (.fl .f32 q0p)]]).1 (impTs 0 [.agg [.row 1 q0g (.fl .f32 q0n), .row 1 q0i (.fl .f32 q0o), .row 1 q0l (.fl .f32 q0p)]]).2 (expo (impTs 0 [.agg [.row 1 q0g (.fl .f32 q0n), .row 1 q0i (.fl .f32 q0o), .row 1 q0l (.fl .f32 q0p)]]).2.length) = z6m q0g q0n q0i q0o q0l q0p (fun c0_ c1_ c2_ c3_ c4_ c5_ => some ((AV.v (TV.agg [(At.sl 0 0 c0_ 1), (At.sl 1 0 c1_ 1), (At.sl 2 0 c2_ 1)])), [(Blk.mk Bool.true (Body.fl FloatKind.f32 c3_)), (Blk.mk Bool.true (Body.fl FloatKind.f32 c4_)), (Blk.mk Bool.true (Body.fl FloatKind.f32 c5_))])) := by kernel_rfl
theorem z1a : SumOne Try.prog 16 z1z := sum_of (Γ := Γ3) (fuel := 8) (d := 8) tyTab_ok (FnL.ok fnTab_ok _ _) (LpL.ok lt3_ok) (SumL.ok tb3_ok _) mixed (by
  intro pts v news hp hc
  clear hc
  unfold z1z at hp
  split at hp
  · rename_i q0g q0n q0i q0o q0l q0p
    exact Eq.trans (Eq.trans (zeq q0g q0n q0i q0o q0l q0p) (zcw (zbj q0g q0n q0i q0o q0l q0p) rfl q0g q0n q0i q0o q0l q0p (fun c0_ c1_ c2_ c3_ c4_ c5_ => some (c0_, c1_, c2_, c3_, c4_, c5_)))) (fin_out (o := (zbj q0g q0n q0i q0o q0l q0p)) (x := z4e q0g q0n q0i q0o q0l q0p) (d := default) (V := fun r => ((AV.v (TV.agg [(At.sl 0 0 r.1 1), (At.sl 1 0 r.2.1 1), (At.sl 2 0 r.2.2.1 1)])), [(Blk.mk Bool.true (Body.fl FloatKind.f32 r.2.2.2.1)), (Blk.mk Bool.true (Body.fl FloatKind.f32 r.2.2.2.2.1)), (Blk.mk Bool.true (Body.fl FloatKind.f32 r.2.2.2.2.2))])) (fun r => rfl) hp)
  · cases hp)
noncomputable def z1o : List PT → Option (Bool × AV × List Blk)
  | [.one (.row 1 a_n (.fl .f32 a)), .one (.row 1 b_n (.fl .f32 b))] => some ((z66 a_n a b_n b), ((AV.v (TV.one (At.bool (z5k a_n a b_n b)))), []))
  | _ => none
def zb7 (a_n : Nat) (a : List Nat) (b_n : Nat) (b : List Nat) : Option (Bool) → Option (AV × List Blk)
  | some r => some ((AV.v (TV.one (At.bool r))), [])
  | none => none
theorem ze3 (a_n : Nat) (a : List Nat) (b_n : Nat) (b : List Nat) : evFn Γ3 8 8 57 (impTs 0 [.one (.row 1 a_n (.fl .f32 a)), .one (.row 1 b_n (.fl .f32 b))]).1 (impTs 0 [.one (.row 1 a_n (.fl .f32 a)), .one (.row 1 b_n (.fl .f32 b))]).2 (expo (impTs 0 [.one (.row 1 a_n (.fl .f32 a)), .one (.row 1 b_n (.fl .f32 b))]).2.length) = z62 a_n a b_n b (fun c0_ => some ((AV.v (TV.one (At.bool c0_))), [])) := by kernel_rfl
theorem z13 : SumOne Try.prog 57 z1o := sum_of (Γ := Γ3) (fuel := 8) (d := 8) tyTab_ok (FnL.ok fnTab_ok _ _) (LpL.ok lt3_ok) (SumL.ok tb3_ok _) mixed (by
  intro pts v news hp hc
  clear hc
  unfold z1o at hp
  split at hp
  · rename_i a_n a b_n b
    exact Eq.trans (Eq.trans (ze3 a_n a b_n b) (zcb (zb7 a_n a b_n b) rfl a_n a b_n b (fun c0_ => some c0_))) (fin_out (o := (zb7 a_n a b_n b)) (x := z5w a_n a b_n b) (d := default) (V := fun r => ((AV.v (TV.one (At.bool r))), [])) (fun r => rfl) hp)
  · cases hp)
noncomputable def zbb (t3 : Int) (t4 : Int) (b0 : List Nat) (b1 : List Nat) (b2 : List Nat) (q0m : Nat) (q0s : Nat) (q0r : Nat) : Bool × LO := ((z57 t3 b0 b1 b2 q0m q0s q0r t4), (LO.two (z4y t3 b0 b1 b2 q0m q0s q0r t4) (LO.one Ex.ret (St.mk [(2, (AV.v (TV.one (At.bool Bool.false))))] [(Blk.mk Bool.false (Body.fl FloatKind.f32 b0)), (Blk.mk Bool.false (Body.fl FloatKind.f32 b1)), (Blk.mk Bool.false (Body.fl FloatKind.f32 b2)), (Blk.mk Bool.false (Body.cells [(At.vw 0 0 q0m 1), (At.vw 1 0 q0s 1), (At.vw 2 0 q0r 1)]))])) (LO.one (Ex.exit 0) (St.mk [(0, (AV.v (TV.one (At.ptr 3 0 3)))), (3, (AV.v (TV.one (At.int IntKind.i64 t3)))), (4, (AV.v (TV.one (At.int IntKind.i64 (za8 t3 b0 b1 b2 q0m q0s q0r t4))))), (36, (AV.v (TV.one (At.bool (za6 t3 b0 b1 b2 q0m q0s q0r t4)))))] [(Blk.mk Bool.false (Body.fl FloatKind.f32 b0)), (Blk.mk Bool.false (Body.fl FloatKind.f32 b1)), (Blk.mk Bool.false (Body.fl FloatKind.f32 b2)), (Blk.mk Bool.false (Body.cells [(At.vw 0 0 q0m 1), (At.vw 1 0 q0s 1), (At.vw 2 0 q0r 1)]))]))))
noncomputable def z2b : Nat → St → Option (Bool × LO) := lpT 4 (pSt [(pTm 0 (pV (pOne (pPtr 3 (liN 0) 3)))), (pTm 3 (pV (pOne (pInt IntKind.i64)))), (pTm 4 (pV (pOne (pInt IntKind.i64))))] [(pBlk Bool.false (pFl FloatKind.f32)), (pBlk Bool.false (pFl FloatKind.f32)), (pBlk Bool.false (pFl FloatKind.f32)), (pBlk Bool.false (pCells [(pVw 0 (liN 0) 1), (pVw 1 (liN 0) 1), (pVw 2 (liN 0) 1)]))]) (fun hs => zbb (hvI (hGet hs 0)) (hvI (hGet hs 1)) (hvLn (hGet hs 2)) (hvLn (hGet hs 3)) (hvLn (hGet hs 4)) (hvN (hGet hs 5)) (hvN (hGet hs 6)) (hvN (hGet hs 7)))
def z8n (t3 : Int) (b0 : List Nat) (b1 : List Nat) (b2 : List Nat) (q0m : Nat) (q0s : Nat) (q0r : Nat) : Option ((Unit) ⊕ (Int × Bool)) → Option (Ex × St)
  | none => none
  | some (Sum.inl r) => some (Ex.ret, (St.mk [(2, (AV.v (TV.one (At.bool Bool.false))))] [(Blk.mk Bool.false (Body.fl FloatKind.f32 b0)), (Blk.mk Bool.false (Body.fl FloatKind.f32 b1)), (Blk.mk Bool.false (Body.fl FloatKind.f32 b2)), (Blk.mk Bool.false (Body.cells [(At.vw 0 0 q0m 1), (At.vw 1 0 q0s 1), (At.vw 2 0 q0r 1)]))]))
  | some (Sum.inr r) => some ((Ex.exit 0), (St.mk [(0, (AV.v (TV.one (At.ptr 3 0 3)))), (3, (AV.v (TV.one (At.int IntKind.i64 t3)))), (4, (AV.v (TV.one (At.int IntKind.i64 r.1)))), (36, (AV.v (TV.one (At.bool r.2))))] [(Blk.mk Bool.false (Body.fl FloatKind.f32 b0)), (Blk.mk Bool.false (Body.fl FloatKind.f32 b1)), (Blk.mk Bool.false (Body.fl FloatKind.f32 b2)), (Blk.mk Bool.false (Body.cells [(At.vw 0 0 q0m 1), (At.vw 1 0 q0s 1), (At.vw 2 0 q0r 1)]))]))
def zej (t3 : Int) (b0 : List Nat) (b1 : List Nat) (b2 : List Nat) (q0m : Nat) (q0s : Nat) (q0r : Nat) (x : Option ((Unit) ⊕ (Int × Bool))) : LO := (LO.two (oL x) (LO.one Ex.ret (St.mk [(2, (AV.v (TV.one (At.bool Bool.false))))] [(Blk.mk Bool.false (Body.fl FloatKind.f32 b0)), (Blk.mk Bool.false (Body.fl FloatKind.f32 b1)), (Blk.mk Bool.false (Body.fl FloatKind.f32 b2)), (Blk.mk Bool.false (Body.cells [(At.vw 0 0 q0m 1), (At.vw 1 0 q0s 1), (At.vw 2 0 q0r 1)]))])) (LO.one (Ex.exit 0) (St.mk [(0, (AV.v (TV.one (At.ptr 3 0 3)))), (3, (AV.v (TV.one (At.int IntKind.i64 t3)))), (4, (AV.v (TV.one (At.int IntKind.i64 ((tR x).getD default).1)))), (36, (AV.v (TV.one (At.bool ((tR x).getD default).2))))] [(Blk.mk Bool.false (Body.fl FloatKind.f32 b0)), (Blk.mk Bool.false (Body.fl FloatKind.f32 b1)), (Blk.mk Bool.false (Body.fl FloatKind.f32 b2)), (Blk.mk Bool.false (Body.cells [(At.vw 0 0 q0m 1), (At.vw 1 0 q0s 1), (At.vw 2 0 q0r 1)]))])))
theorem zez (t3 : Int) (b0 : List Nat) (b1 : List Nat) (b2 : List Nat) (q0m : Nat) (q0s : Nat) (q0r : Nat) : ∀ x : Option ((Unit) ⊕ (Int × Bool)), x.isSome = true → (z8n t3 b0 b1 b2 q0m q0s q0r) x = some (pick (zej t3 b0 b1 b2 q0m q0s q0r x))
  | none, h => by cases h
  | some (Sum.inl r), _ => rfl
  | some (Sum.inr r), _ => rfl
theorem zeu (t3 : Int) (t4 : Int) (b0 : List Nat) (b1 : List Nat) (b2 : List Nat) (q0m : Nat) (q0s : Nat) (q0r : Nat) (K : Ex → St → Option (Ex × St)) : evC (R := Ex × St) Γ3 (evFn Γ3 8 8) 62 4 fi62.nt fi62.live fi62.nl 8 (findL 5 (loopsIn fi62.code)) (St.mk [(0, (AV.v (TV.one (At.ptr 3 0 3)))), (3, (AV.v (TV.one (At.int IntKind.i64 t3)))), (4, (AV.v (TV.one (At.int IntKind.i64 t4))))] [(Blk.mk Bool.false (Body.fl FloatKind.f32 b0)), (Blk.mk Bool.false (Body.fl FloatKind.f32 b1)), (Blk.mk Bool.false (Body.fl FloatKind.f32 b2)), (Blk.mk Bool.false (Body.cells [(At.vw 0 0 q0m 1), (At.vw 1 0 q0s 1), (At.vw 2 0 q0r 1)]))]) K = z4v t3 b0 b1 b2 q0m q0s q0r t4 (fun t4' => K .normal (St.mk [(0, (AV.v (TV.one (At.ptr 3 0 3)))), (3, (AV.v (TV.one (At.int IntKind.i64 t3)))), (4, (AV.v (TV.one (At.int IntKind.i64 t4'))))] [(Blk.mk Bool.false (Body.fl FloatKind.f32 b0)), (Blk.mk Bool.false (Body.fl FloatKind.f32 b1)), (Blk.mk Bool.false (Body.fl FloatKind.f32 b2)), (Blk.mk Bool.false (Body.cells [(At.vw 0 0 q0m 1), (At.vw 1 0 q0s 1), (At.vw 2 0 q0r 1)]))])) (fun _ => K Ex.ret (St.mk [(2, (AV.v (TV.one (At.bool Bool.false))))] [(Blk.mk Bool.false (Body.fl FloatKind.f32 b0)), (Blk.mk Bool.false (Body.fl FloatKind.f32 b1)), (Blk.mk Bool.false (Body.fl FloatKind.f32 b2)), (Blk.mk Bool.false (Body.cells [(At.vw 0 0 q0m 1), (At.vw 1 0 q0s 1), (At.vw 2 0 q0r 1)]))])) (fun c0_ c1_ => K (Ex.exit 0) (St.mk [(0, (AV.v (TV.one (At.ptr 3 0 3)))), (3, (AV.v (TV.one (At.int IntKind.i64 t3)))), (4, (AV.v (TV.one (At.int IntKind.i64 c0_)))), (36, (AV.v (TV.one (At.bool c1_))))] [(Blk.mk Bool.false (Body.fl FloatKind.f32 b0)), (Blk.mk Bool.false (Body.fl FloatKind.f32 b1)), (Blk.mk Bool.false (Body.fl FloatKind.f32 b2)), (Blk.mk Bool.false (Body.cells [(At.vw 0 0 q0m 1), (At.vw 1 0 q0s 1), (At.vw 2 0 q0r 1)]))])) := by kernel_rfl
theorem zf1 (t3 : Int) (b0 : List Nat) (b1 : List Nat) (b2 : List Nat) (q0m : Nat) (q0s : Nat) (q0r : Nat) : ∀ (n : Nat) (t4 : Int), iter 62 5 4 (evC (R := Ex × St) Γ3 (evFn Γ3 8 8) 62 4 fi62.nt fi62.live fi62.nl 8 (findL 5 (loopsIn fi62.code))) n (St.mk [(0, (AV.v (TV.one (At.ptr 3 0 3)))), (3, (AV.v (TV.one (At.int IntKind.i64 t3)))), (4, (AV.v (TV.one (At.int IntKind.i64 t4))))] [(Blk.mk Bool.false (Body.fl FloatKind.f32 b0)), (Blk.mk Bool.false (Body.fl FloatKind.f32 b1)), (Blk.mk Bool.false (Body.fl FloatKind.f32 b2)), (Blk.mk Bool.false (Body.cells [(At.vw 0 0 q0m 1), (At.vw 1 0 q0s 1), (At.vw 2 0 q0r 1)]))]) (fun e st => some (e, st)) = (z8n t3 b0 b1 b2 q0m q0s q0r) (z43 t3 b0 b1 b2 q0m q0s q0r n t4) := by
  intro n
  induction n with
  | zero => intros; rfl
  | succ n ih =>
    intro t4
    refine Eq.trans (iter_succ ..) (Eq.trans (zeu t3 t4 b0 b1 b2 q0m q0s q0r (nextK 62 5 4 (evC (R := Ex × St) Γ3 (evFn Γ3 8 8) 62 4 fi62.nt fi62.live fi62.nl 8 (findL 5 (loopsIn fi62.code))) n (fun e st => some (e, st)))) (Eq.trans ?_ (zd6 (z8n t3 b0 b1 b2 q0m q0s q0r) rfl t3 b0 b1 b2 q0m q0s q0r t4 (fun t4' => z43 t3 b0 b1 b2 q0m q0s q0r n t4') (fun _ => some (Sum.inl ())) (fun c0_ c1_ => some (Sum.inr (c0_, c1_))))))
    exact congrArg (fun kn_ => z4v t3 b0 b1 b2 q0m q0s q0r t4 kn_ (fun _ => (z8n t3 b0 b1 b2 q0m q0s q0r) (some (Sum.inl ()))) (fun c0_ c1_ => (z8n t3 b0 b1 b2 q0m q0s q0r) (some (Sum.inr (c0_, c1_))))) (funext fun t4' => ih t4')
theorem z1q : LoopOne Try.prog fnTab 62 5 z2b := lp_of (Γ := Γ3) tyTab_ok (FnL.ok fnTab_ok _ _) (LpL.ok lt3_ok) (SumL.ok tb3_ok _) mixed (fi := fi62) (by kernel_rfl) (by kernel_rfl) (by
  intro lo st out hp
  obtain ⟨hs, e1, e2, e3⟩ := lpT_inv hp
  clear hp
  obtain rfl : st = (St.mk [(0, (AV.v (TV.one (At.ptr 3 0 3)))), (3, (AV.v (TV.one (At.int IntKind.i64 (hvI (hGet hs 0)))))), (4, (AV.v (TV.one (At.int IntKind.i64 (hvI (hGet hs 1))))))] [(Blk.mk Bool.false (Body.fl FloatKind.f32 (hvLn (hGet hs 2)))), (Blk.mk Bool.false (Body.fl FloatKind.f32 (hvLn (hGet hs 3)))), (Blk.mk Bool.false (Body.fl FloatKind.f32 (hvLn (hGet hs 4)))), (Blk.mk Bool.false (Body.cells [(At.vw 0 0 (hvN (hGet hs 5)) 1), (At.vw 1 0 (hvN (hGet hs 6)) 1), (At.vw 2 0 (hvN (hGet hs 7)) 1)]))]) := e2.trans (by kernel_rfl)
  clear e2
  subst e1
  unfold zbb at e3
  injection e3 with h1 h2
  subst h2
  exact ⟨8, 8, big, Eq.trans (zf1 (hvI (hGet hs 0)) (hvLn (hGet hs 2)) (hvLn (hGet hs 3)) (hvLn (hGet hs 4)) (hvN (hGet hs 5)) (hvN (hGet hs 6)) (hvN (hGet hs 7)) big (hvI (hGet hs 1))) (zez (hvI (hGet hs 0)) (hvLn (hGet hs 2)) (hvLn (hGet hs 3)) (hvLn (hGet hs 4)) (hvN (hGet hs 5)) (hvN (hGet hs 6)) (hvN (hGet hs 7)) (z43 (hvI (hGet hs 0)) (hvLn (hGet hs 2)) (hvLn (hGet hs 3)) (hvLn (hGet hs 4)) (hvN (hGet hs 5)) (hvN (hGet hs 6)) (hvN (hGet hs 7)) big (hvI (hGet hs 1))) h1)⟩)
noncomputable def z5b (sn : Nat) (t7 : Int) (t8 : Int) (b0 : List Nat) : Bool × LO := ((z3b sn t7 b0 t8), (LO.two (z3a sn t7 b0 t8) (LO.one Ex.ret (St.mk [(4, (AV.v (TV.one (At.int IntKind.i64 (z3y sn t7 b0 t8)))))] [(Blk.mk Bool.false (Body.fl FloatKind.f32 b0))])) (LO.one (Ex.exit 0) (St.mk [(0, (AV.v (TV.one (At.vw 0 0 sn 1)))), (1, (AV.v (TV.one (At.fn 118 [])))), (7, (AV.v (TV.one (At.int IntKind.i64 t7)))), (8, (AV.v (TV.one (At.int IntKind.i64 (z4k sn t7 b0 t8))))), (9, (AV.v (TV.one (At.bool (z4l sn t7 b0 t8)))))] [(Blk.mk Bool.false (Body.fl FloatKind.f32 b0))]))))
noncomputable def z03 : Nat → St → Option (Bool × LO) := lpT 1 (pSt [(pTm 0 (pV (pOne (pVw 0 (liN 0) 1)))), (pTm 1 (pV (pOne (pFn 118 [])))), (pTm 7 (pV (pOne (pInt IntKind.i64)))), (pTm 8 (pV (pOne (pInt IntKind.i64))))] [(pBlk Bool.false (pFl FloatKind.f32))]) (fun hs => z5b (hvN (hGet hs 0)) (hvI (hGet hs 1)) (hvI (hGet hs 2)) (hvLn (hGet hs 3)))
def z3u (sn : Nat) (t7 : Int) (b0 : List Nat) : Option ((Int) ⊕ (Int × Bool)) → Option (Ex × St)
  | none => none
  | some (Sum.inl r) => some (Ex.ret, (St.mk [(4, (AV.v (TV.one (At.int IntKind.i64 r))))] [(Blk.mk Bool.false (Body.fl FloatKind.f32 b0))]))
  | some (Sum.inr r) => some ((Ex.exit 0), (St.mk [(0, (AV.v (TV.one (At.vw 0 0 sn 1)))), (1, (AV.v (TV.one (At.fn 118 [])))), (7, (AV.v (TV.one (At.int IntKind.i64 t7)))), (8, (AV.v (TV.one (At.int IntKind.i64 r.1)))), (9, (AV.v (TV.one (At.bool r.2))))] [(Blk.mk Bool.false (Body.fl FloatKind.f32 b0))]))
def z8u (sn : Nat) (t7 : Int) (b0 : List Nat) (x : Option ((Int) ⊕ (Int × Bool))) : LO := (LO.two (oL x) (LO.one Ex.ret (St.mk [(4, (AV.v (TV.one (At.int IntKind.i64 ((tL x).getD default)))))] [(Blk.mk Bool.false (Body.fl FloatKind.f32 b0))])) (LO.one (Ex.exit 0) (St.mk [(0, (AV.v (TV.one (At.vw 0 0 sn 1)))), (1, (AV.v (TV.one (At.fn 118 [])))), (7, (AV.v (TV.one (At.int IntKind.i64 t7)))), (8, (AV.v (TV.one (At.int IntKind.i64 ((tR x).getD default).1)))), (9, (AV.v (TV.one (At.bool ((tR x).getD default).2))))] [(Blk.mk Bool.false (Body.fl FloatKind.f32 b0))])))
theorem z9a (sn : Nat) (t7 : Int) (b0 : List Nat) : ∀ x : Option ((Int) ⊕ (Int × Bool)), x.isSome = true → (z3u sn t7 b0) x = some (pick (z8u sn t7 b0 x))
  | none, h => by cases h
  | some (Sum.inl r), _ => rfl
  | some (Sum.inr r), _ => rfl
theorem z94 (sn : Nat) (t7 : Int) (t8 : Int) (b0 : List Nat) (K : Ex → St → Option (Ex × St)) : evC (R := Ex × St) Γ3 (evFn Γ3 8 8) 99 1 fi99.nt fi99.live fi99.nl 8 (findL 2 (loopsIn fi99.code)) (St.mk [(0, (AV.v (TV.one (At.vw 0 0 sn 1)))), (1, (AV.v (TV.one (At.fn 118 [])))), (7, (AV.v (TV.one (At.int IntKind.i64 t7)))), (8, (AV.v (TV.one (At.int IntKind.i64 t8))))] [(Blk.mk Bool.false (Body.fl FloatKind.f32 b0))]) K = z2u sn t7 b0 t8 (fun t8' => K .normal (St.mk [(0, (AV.v (TV.one (At.vw 0 0 sn 1)))), (1, (AV.v (TV.one (At.fn 118 [])))), (7, (AV.v (TV.one (At.int IntKind.i64 t7)))), (8, (AV.v (TV.one (At.int IntKind.i64 t8'))))] [(Blk.mk Bool.false (Body.fl FloatKind.f32 b0))])) (fun c0_ => K Ex.ret (St.mk [(4, (AV.v (TV.one (At.int IntKind.i64 c0_))))] [(Blk.mk Bool.false (Body.fl FloatKind.f32 b0))])) (fun c0_ c1_ => K (Ex.exit 0) (St.mk [(0, (AV.v (TV.one (At.vw 0 0 sn 1)))), (1, (AV.v (TV.one (At.fn 118 [])))), (7, (AV.v (TV.one (At.int IntKind.i64 t7)))), (8, (AV.v (TV.one (At.int IntKind.i64 c0_)))), (9, (AV.v (TV.one (At.bool c1_))))] [(Blk.mk Bool.false (Body.fl FloatKind.f32 b0))])) := by kernel_rfl
theorem z99 (sn : Nat) (t7 : Int) (b0 : List Nat) : ∀ (n : Nat) (t8 : Int), iter 99 2 1 (evC (R := Ex × St) Γ3 (evFn Γ3 8 8) 99 1 fi99.nt fi99.live fi99.nl 8 (findL 2 (loopsIn fi99.code))) n (St.mk [(0, (AV.v (TV.one (At.vw 0 0 sn 1)))), (1, (AV.v (TV.one (At.fn 118 [])))), (7, (AV.v (TV.one (At.int IntKind.i64 t7)))), (8, (AV.v (TV.one (At.int IntKind.i64 t8))))] [(Blk.mk Bool.false (Body.fl FloatKind.f32 b0))]) (fun e st => some (e, st)) = (z3u sn t7 b0) (z19 sn t7 b0 n t8) := by
  intro n
  induction n with
  | zero => intros; rfl
  | succ n ih =>
    intro t8
    refine Eq.trans (iter_succ ..) (Eq.trans (z94 sn t7 t8 b0 (nextK 99 2 1 (evC (R := Ex × St) Γ3 (evFn Γ3 8 8) 99 1 fi99.nt fi99.live fi99.nl 8 (findL 2 (loopsIn fi99.code))) n (fun e st => some (e, st)))) (Eq.trans ?_ (z86 (z3u sn t7 b0) rfl sn t7 b0 t8 (fun t8' => z19 sn t7 b0 n t8') (fun c0_ => some (Sum.inl c0_)) (fun c0_ c1_ => some (Sum.inr (c0_, c1_))))))
    exact congrArg (fun kn_ => z2u sn t7 b0 t8 kn_ (fun c0_ => (z3u sn t7 b0) (some (Sum.inl c0_))) (fun c0_ c1_ => (z3u sn t7 b0) (some (Sum.inr (c0_, c1_))))) (funext fun t8' => ih t8')
theorem z02 : LoopOne Try.prog fnTab 99 2 z03 := lp_of (Γ := Γ3) tyTab_ok (FnL.ok fnTab_ok _ _) (LpL.ok lt3_ok) (SumL.ok tb3_ok _) mixed (fi := fi99) (by kernel_rfl) (by kernel_rfl) (by
  intro lo st out hp
  obtain ⟨hs, e1, e2, e3⟩ := lpT_inv hp
  clear hp
  obtain rfl : st = (St.mk [(0, (AV.v (TV.one (At.vw 0 0 (hvN (hGet hs 0)) 1)))), (1, (AV.v (TV.one (At.fn 118 [])))), (7, (AV.v (TV.one (At.int IntKind.i64 (hvI (hGet hs 1)))))), (8, (AV.v (TV.one (At.int IntKind.i64 (hvI (hGet hs 2))))))] [(Blk.mk Bool.false (Body.fl FloatKind.f32 (hvLn (hGet hs 3))))]) := e2.trans (by kernel_rfl)
  clear e2
  subst e1
  unfold z5b at e3
  injection e3 with h1 h2
  subst h2
  exact ⟨8, 8, big, Eq.trans (z99 (hvN (hGet hs 0)) (hvI (hGet hs 1)) (hvLn (hGet hs 3)) big (hvI (hGet hs 2))) (z9a (hvN (hGet hs 0)) (hvI (hGet hs 1)) (hvLn (hGet hs 3)) (z19 (hvN (hGet hs 0)) (hvI (hGet hs 1)) (hvLn (hGet hs 3)) big (hvI (hGet hs 2))) h1)⟩)
noncomputable def tb4 : List (Nat × (List PT → Option (Bool × AV × List Blk))) := [(125, z1b), (128, z0h), (134, z0r), (137, z1c), (18, z1k), (48, z16), (54, z1w), (61, z1j), (97, z1v), (102, z2o), (109, z1l), (14, z1s), (51, z1r), (56, z28), (103, z20), (111, z27), (118, z10), (52, z1g), (119, z1h), (16, z1z), (57, z1o)]
noncomputable def lt4 : List ((Nat × Nat) × (Nat → St → Option (Bool × LO))) := [((52, 3), z0o), ((57, 4), z0s), ((62, 5), z2b), ((99, 2), z03)]
noncomputable def Γ4 : Ctx := ⟨tyTab, fnTab, tblSum tb4, tblLp lt4⟩
theorem tb4_ok : SumL Try.prog tb4 := SumL.cons z0p (SumL.cons z0g (SumL.cons z0k (SumL.cons z0q (SumL.cons z0u (SumL.cons z0n (SumL.cons z14 (SumL.cons z0v (SumL.cons z15 (SumL.cons z23 (SumL.cons z0t (SumL.cons z12 (SumL.cons z11 (SumL.cons z1p (SumL.cons z18 (SumL.cons z1n (SumL.cons z0m (SumL.cons z0w (SumL.cons z0x (SumL.cons z1a (SumL.cons z13 (SumL.nil)))))))))))))))))))))
theorem lt4_ok : LpL Try.prog fnTab lt4 := LpL.cons z0i (LpL.cons z0j (LpL.cons z1q (LpL.cons z02 (LpL.nil))))
noncomputable def z22 : List PT → Option (Bool × AV × List Blk)
  | [.agg [.row 1 q0g (.fl .f32 q0n), .row 1 q0i (.fl .f32 q0o), .row 1 q0l (.fl .f32 q0p)], .agg [.row 1 q0w (.fl .f32 q10), .row 1 q0x (.fl .f32 q16), .row 1 q0y (.fl .f32 q15)]] => some ((z7r q0g q0n q0i q0o q0l q0p q0w q10 q0x q16 q0y q15), ((AV.v (TV.one (At.bool (z73 q0g q0n q0i q0o q0l q0p q0w q10 q0x q16 q0y q15)))), []))
  | _ => none
def zbh (q0g : Nat) (q0n : List Nat) (q0i : Nat) (q0o : List Nat) (q0l : Nat) (q0p : List Nat) (q0w : Nat) (q10 : List Nat) (q0x : Nat) (q16 : List Nat) (q0y : Nat) (q15 : List Nat) : Option (Bool) → Option (AV × List Blk)
  | some r => some ((AV.v (TV.one (At.bool r))), [])
  | none => none
theorem zek (q0g : Nat) (q0n : List Nat) (q0i : Nat) (q0o : List Nat) (q0l : Nat) (q0p : List Nat) (q0w : Nat) (q10 : List Nat) (q0x : Nat) (q16 : List Nat) (q0y : Nat) (q15 : List Nat) : evFn Γ4 8 8 19 (impTs 0 [.agg [.row 1 q0g (.fl .f32 q0n), .row 1 q0i (.fl .f32 q0o), .row 1 q0l (.fl .f32 q0p)], .agg [.row 1 q0w (.fl .f32 q10), .row 1 q0x (.fl .f32 q16), .row 1 q0y (.fl .f32 q15)]]).1 (impTs 0 [.agg [.row 1 q0g (.fl .f32 q0n), .row 1 q0i (.fl .f32 q0o), .row 1 q0l (.fl .f32 q0p)], .agg [.row 1 q0w (.fl .f32 q10), .row 1 q0x (.fl .f32 q16), .row 1 q0y (.fl .f32 q15)]]).2 (expo (impTs 0 [.agg [.row 1 q0g (.fl .f32 q0n), .row 1 q0i (.fl .f32 q0o), .row 1 q0l (.fl .f32 q0p)], .agg [.row 1 q0w (.fl .f32 q10), .row 1 q0x (.fl .f32 q16), .row 1 q0y (.fl .f32 q15)]]).2.length) = z6g q0g q0n q0i q0o q0l q0p q0w q10 q0x q16 q0y q15 (fun c0_ => some ((AV.v (TV.one (At.bool c0_))), [])) := by kernel_rfl
theorem z1i : SumOne Try.prog 19 z22 := sum_of (Γ := Γ4) (fuel := 8) (d := 8) tyTab_ok (FnL.ok fnTab_ok _ _) (LpL.ok lt4_ok) (SumL.ok tb4_ok _) mixed (by
  intro pts v news hp hc
  clear hc
  unfold z22 at hp
  split at hp
  · rename_i q0g q0n q0i q0o q0l q0p q0w q10 q0x q16 q0y q15
    exact Eq.trans (Eq.trans (zek q0g q0n q0i q0o q0l q0p q0w q10 q0x q16 q0y q15) (zcn (zbh q0g q0n q0i q0o q0l q0p q0w q10 q0x q16 q0y q15) rfl q0g q0n q0i q0o q0l q0p q0w q10 q0x q16 q0y q15 (fun c0_ => some c0_))) (fin_out (o := (zbh q0g q0n q0i q0o q0l q0p q0w q10 q0x q16 q0y q15)) (x := z6p q0g q0n q0i q0o q0l q0p q0w q10 q0x q16 q0y q15) (d := default) (V := fun r => ((AV.v (TV.one (At.bool r))), [])) (fun r => rfl) hp)
  · cases hp)
noncomputable def z2y : List PT → Option (Bool × AV × List Blk)
  | [.ptr [.row 1 q00 (.fl .f32 q01), .row 1 q09 (.fl .f32 q0c), .row 1 q08 (.fl .f32 q0d)]] => some ((zav q00 q01 q09 q0c q08 q0d), ((AV.v (TV.one (At.bool (zao q00 q01 q09 q0c q08 q0d)))), []))
  | _ => none
def zdf (q00 : Nat) (q01 : List Nat) (q09 : Nat) (q0c : List Nat) (q08 : Nat) (q0d : List Nat) : Option (Bool) → Option (AV × List Blk)
  | some r => some ((AV.v (TV.one (At.bool r))), [])
  | none => none
theorem zff (q00 : Nat) (q01 : List Nat) (q09 : Nat) (q0c : List Nat) (q08 : Nat) (q0d : List Nat) : evFn Γ4 8 8 62 (impTs 0 [.ptr [.row 1 q00 (.fl .f32 q01), .row 1 q09 (.fl .f32 q0c), .row 1 q08 (.fl .f32 q0d)]]).1 (impTs 0 [.ptr [.row 1 q00 (.fl .f32 q01), .row 1 q09 (.fl .f32 q0c), .row 1 q08 (.fl .f32 q0d)]]).2 (expo (impTs 0 [.ptr [.row 1 q00 (.fl .f32 q01), .row 1 q09 (.fl .f32 q0c), .row 1 q08 (.fl .f32 q0d)]]).2.length) = z9c q00 q01 q09 q0c q08 q0d (fun c0_ => some ((AV.v (TV.one (At.bool c0_))), [])) := by kernel_rfl
theorem z2i : SumOne Try.prog 62 z2y := sum_of (Γ := Γ4) (fuel := 8) (d := 8) tyTab_ok (FnL.ok fnTab_ok _ _) (LpL.ok lt4_ok) (SumL.ok tb4_ok _) mixed (by
  intro pts v news hp hc
  clear hc
  unfold z2y at hp
  split at hp
  · rename_i q00 q01 q09 q0c q08 q0d
    exact Eq.trans (Eq.trans (zff q00 q01 q09 q0c q08 q0d) (zel (zdf q00 q01 q09 q0c q08 q0d) rfl q00 q01 q09 q0c q08 q0d (fun c0_ => some c0_))) (fin_out (o := (zdf q00 q01 q09 q0c q08 q0d)) (x := z97 q00 q01 q09 q0c q08 q0d) (d := default) (V := fun r => ((AV.v (TV.one (At.bool r))), [])) (fun r => rfl) hp)
  · cases hp)
noncomputable def z0a : List PT → Option (Bool × AV × List Blk)
  | [.one (.row 1 s_n (.fl .f32 s)), .fn 118 []] => some ((z4d s_n s), ((AV.v (TV.one (At.int IntKind.i64 (z4a s_n s)))), []))
  | _ => none
def z68 (s_n : Nat) (s : List Nat) : Option (Int) → Option (AV × List Blk)
  | some r => some ((AV.v (TV.one (At.int IntKind.i64 r))), [])
  | none => none
theorem z9v (s_n : Nat) (s : List Nat) : evFn Γ4 8 8 99 (impTs 0 [.one (.row 1 s_n (.fl .f32 s)), .fn 118 []]).1 (impTs 0 [.one (.row 1 s_n (.fl .f32 s)), .fn 118 []]).2 (expo (impTs 0 [.one (.row 1 s_n (.fl .f32 s)), .fn 118 []]).2.length) = z3m s_n s (fun c0_ => some ((AV.v (TV.one (At.int IntKind.i64 c0_))), [])) := by kernel_rfl
theorem z09 : SumOne Try.prog 99 z0a := sum_of (Γ := Γ4) (fuel := 8) (d := 8) tyTab_ok (FnL.ok fnTab_ok _ _) (LpL.ok lt4_ok) (SumL.ok tb4_ok _) mixed (by
  intro pts v news hp hc
  clear hc
  unfold z0a at hp
  split at hp
  · rename_i s_n s
    exact Eq.trans (Eq.trans (z9v s_n s) (z8s (z68 s_n s) rfl s_n s (fun c0_ => some c0_))) (fin_out (o := (z68 s_n s)) (x := z3n s_n s) (d := default) (V := fun r => ((AV.v (TV.one (At.int IntKind.i64 r))), [])) (fun r => rfl) hp)
  · cases hp)
noncomputable def z5e (sn : Nat) (t7 : Int) (t8 : Int) (b0 : List Nat) : Bool × LO := ((z3l sn t7 b0 t8), (LO.two (z3c sn t7 b0 t8) (LO.one Ex.ret (St.mk [(4, (AV.v (TV.one (At.int IntKind.i64 (z41 sn t7 b0 t8)))))] [(Blk.mk Bool.false (Body.fl FloatKind.f32 b0))])) (LO.one (Ex.exit 0) (St.mk [(0, (AV.v (TV.one (At.vw 0 0 sn 1)))), (1, (AV.v (TV.one (At.fn 119 [])))), (7, (AV.v (TV.one (At.int IntKind.i64 t7)))), (8, (AV.v (TV.one (At.int IntKind.i64 (z4p sn t7 b0 t8))))), (9, (AV.v (TV.one (At.bool (z4n sn t7 b0 t8)))))] [(Blk.mk Bool.false (Body.fl FloatKind.f32 b0))]))))
noncomputable def z05 : Nat → St → Option (Bool × LO) := lpT 1 (pSt [(pTm 0 (pV (pOne (pVw 0 (liN 0) 1)))), (pTm 1 (pV (pOne (pFn 119 [])))), (pTm 7 (pV (pOne (pInt IntKind.i64)))), (pTm 8 (pV (pOne (pInt IntKind.i64))))] [(pBlk Bool.false (pFl FloatKind.f32))]) (fun hs => z5e (hvN (hGet hs 0)) (hvI (hGet hs 1)) (hvI (hGet hs 2)) (hvLn (hGet hs 3)))
def z3v (sn : Nat) (t7 : Int) (b0 : List Nat) : Option ((Int) ⊕ (Int × Bool)) → Option (Ex × St)
  | none => none
  | some (Sum.inl r) => some (Ex.ret, (St.mk [(4, (AV.v (TV.one (At.int IntKind.i64 r))))] [(Blk.mk Bool.false (Body.fl FloatKind.f32 b0))]))
  | some (Sum.inr r) => some ((Ex.exit 0), (St.mk [(0, (AV.v (TV.one (At.vw 0 0 sn 1)))), (1, (AV.v (TV.one (At.fn 119 [])))), (7, (AV.v (TV.one (At.int IntKind.i64 t7)))), (8, (AV.v (TV.one (At.int IntKind.i64 r.1)))), (9, (AV.v (TV.one (At.bool r.2))))] [(Blk.mk Bool.false (Body.fl FloatKind.f32 b0))]))
def z93 (sn : Nat) (t7 : Int) (b0 : List Nat) (x : Option ((Int) ⊕ (Int × Bool))) : LO := (LO.two (oL x) (LO.one Ex.ret (St.mk [(4, (AV.v (TV.one (At.int IntKind.i64 ((tL x).getD default)))))] [(Blk.mk Bool.false (Body.fl FloatKind.f32 b0))])) (LO.one (Ex.exit 0) (St.mk [(0, (AV.v (TV.one (At.vw 0 0 sn 1)))), (1, (AV.v (TV.one (At.fn 119 [])))), (7, (AV.v (TV.one (At.int IntKind.i64 t7)))), (8, (AV.v (TV.one (At.int IntKind.i64 ((tR x).getD default).1)))), (9, (AV.v (TV.one (At.bool ((tR x).getD default).2))))] [(Blk.mk Bool.false (Body.fl FloatKind.f32 b0))])))
theorem z9i (sn : Nat) (t7 : Int) (b0 : List Nat) : ∀ x : Option ((Int) ⊕ (Int × Bool)), x.isSome = true → (z3v sn t7 b0) x = some (pick (z93 sn t7 b0 x))
  | none, h => by cases h
  | some (Sum.inl r), _ => rfl
  | some (Sum.inr r), _ => rfl
theorem z9f (sn : Nat) (t7 : Int) (t8 : Int) (b0 : List Nat) (K : Ex → St → Option (Ex × St)) : evC (R := Ex × St) Γ4 (evFn Γ4 8 8) 99 1 fi99.nt fi99.live fi99.nl 8 (findL 2 (loopsIn fi99.code)) (St.mk [(0, (AV.v (TV.one (At.vw 0 0 sn 1)))), (1, (AV.v (TV.one (At.fn 119 [])))), (7, (AV.v (TV.one (At.int IntKind.i64 t7)))), (8, (AV.v (TV.one (At.int IntKind.i64 t8))))] [(Blk.mk Bool.false (Body.fl FloatKind.f32 b0))]) K = z2x sn t7 b0 t8 (fun t8' => K .normal (St.mk [(0, (AV.v (TV.one (At.vw 0 0 sn 1)))), (1, (AV.v (TV.one (At.fn 119 [])))), (7, (AV.v (TV.one (At.int IntKind.i64 t7)))), (8, (AV.v (TV.one (At.int IntKind.i64 t8'))))] [(Blk.mk Bool.false (Body.fl FloatKind.f32 b0))])) (fun c0_ => K Ex.ret (St.mk [(4, (AV.v (TV.one (At.int IntKind.i64 c0_))))] [(Blk.mk Bool.false (Body.fl FloatKind.f32 b0))])) (fun c0_ c1_ => K (Ex.exit 0) (St.mk [(0, (AV.v (TV.one (At.vw 0 0 sn 1)))), (1, (AV.v (TV.one (At.fn 119 [])))), (7, (AV.v (TV.one (At.int IntKind.i64 t7)))), (8, (AV.v (TV.one (At.int IntKind.i64 c0_)))), (9, (AV.v (TV.one (At.bool c1_))))] [(Blk.mk Bool.false (Body.fl FloatKind.f32 b0))])) := by kernel_rfl
theorem z9h (sn : Nat) (t7 : Int) (b0 : List Nat) : ∀ (n : Nat) (t8 : Int), iter 99 2 1 (evC (R := Ex × St) Γ4 (evFn Γ4 8 8) 99 1 fi99.nt fi99.live fi99.nl 8 (findL 2 (loopsIn fi99.code))) n (St.mk [(0, (AV.v (TV.one (At.vw 0 0 sn 1)))), (1, (AV.v (TV.one (At.fn 119 [])))), (7, (AV.v (TV.one (At.int IntKind.i64 t7)))), (8, (AV.v (TV.one (At.int IntKind.i64 t8))))] [(Blk.mk Bool.false (Body.fl FloatKind.f32 b0))]) (fun e st => some (e, st)) = (z3v sn t7 b0) (z1f sn t7 b0 n t8) := by
  intro n
  induction n with
  | zero => intros; rfl
  | succ n ih =>
    intro t8
    refine Eq.trans (iter_succ ..) (Eq.trans (z9f sn t7 t8 b0 (nextK 99 2 1 (evC (R := Ex × St) Γ4 (evFn Γ4 8 8) 99 1 fi99.nt fi99.live fi99.nl 8 (findL 2 (loopsIn fi99.code))) n (fun e st => some (e, st)))) (Eq.trans ?_ (z8j (z3v sn t7 b0) rfl sn t7 b0 t8 (fun t8' => z1f sn t7 b0 n t8') (fun c0_ => some (Sum.inl c0_)) (fun c0_ c1_ => some (Sum.inr (c0_, c1_))))))
    exact congrArg (fun kn_ => z2x sn t7 b0 t8 kn_ (fun c0_ => (z3v sn t7 b0) (some (Sum.inl c0_))) (fun c0_ c1_ => (z3v sn t7 b0) (some (Sum.inr (c0_, c1_))))) (funext fun t8' => ih t8')
theorem z04 : LoopOne Try.prog fnTab 99 2 z05 := lp_of (Γ := Γ4) tyTab_ok (FnL.ok fnTab_ok _ _) (LpL.ok lt4_ok) (SumL.ok tb4_ok _) mixed (fi := fi99) (by kernel_rfl) (by kernel_rfl) (by
  intro lo st out hp
  obtain ⟨hs, e1, e2, e3⟩ := lpT_inv hp
  clear hp
  obtain rfl : st = (St.mk [(0, (AV.v (TV.one (At.vw 0 0 (hvN (hGet hs 0)) 1)))), (1, (AV.v (TV.one (At.fn 119 [])))), (7, (AV.v (TV.one (At.int IntKind.i64 (hvI (hGet hs 1)))))), (8, (AV.v (TV.one (At.int IntKind.i64 (hvI (hGet hs 2))))))] [(Blk.mk Bool.false (Body.fl FloatKind.f32 (hvLn (hGet hs 3))))]) := e2.trans (by kernel_rfl)
  clear e2
  subst e1
  unfold z5e at e3
  injection e3 with h1 h2
  subst h2
  exact ⟨8, 8, big, Eq.trans (z9h (hvN (hGet hs 0)) (hvI (hGet hs 1)) (hvLn (hGet hs 3)) big (hvI (hGet hs 2))) (z9i (hvN (hGet hs 0)) (hvI (hGet hs 1)) (hvLn (hGet hs 3)) (z1f (hvN (hGet hs 0)) (hvI (hGet hs 1)) (hvLn (hGet hs 3)) big (hvI (hGet hs 2))) h1)⟩)
noncomputable def tb5 : List (Nat × (List PT → Option (Bool × AV × List Blk))) := [(125, z1b), (128, z0h), (134, z0r), (137, z1c), (18, z1k), (48, z16), (54, z1w), (61, z1j), (97, z1v), (102, z2o), (109, z1l), (14, z1s), (51, z1r), (56, z28), (103, z20), (111, z27), (118, z10), (52, z1g), (119, z1h), (16, z1z), (57, z1o), (19, z22), (62, z2y), (99, z0a)]
noncomputable def lt5 : List ((Nat × Nat) × (Nat → St → Option (Bool × LO))) := [((52, 3), z0o), ((57, 4), z0s), ((62, 5), z2b), ((99, 2), z03), ((99, 2), z05)]
noncomputable def Γ5 : Ctx := ⟨tyTab, fnTab, tblSum tb5, tblLp lt5⟩
theorem tb5_ok : SumL Try.prog tb5 := SumL.cons z0p (SumL.cons z0g (SumL.cons z0k (SumL.cons z0q (SumL.cons z0u (SumL.cons z0n (SumL.cons z14 (SumL.cons z0v (SumL.cons z15 (SumL.cons z23 (SumL.cons z0t (SumL.cons z12 (SumL.cons z11 (SumL.cons z1p (SumL.cons z18 (SumL.cons z1n (SumL.cons z0m (SumL.cons z0w (SumL.cons z0x (SumL.cons z1a (SumL.cons z13 (SumL.cons z1i (SumL.cons z2i (SumL.cons z09 (SumL.nil))))))))))))))))))))))))
theorem lt5_ok : LpL Try.prog fnTab lt5 := LpL.cons z0i (LpL.cons z0j (LpL.cons z1q (LpL.cons z02 (LpL.cons z04 (LpL.nil)))))
noncomputable def z2s : List PT → Option (Bool × AV × List Blk)
  | [.ptr [.row 1 q02 (.fl .f32 q0a), .row 1 q03 (.fl .f32 q0b), .row 1 q04 (.fl .f32 q0e)], .one (.s (.flt .f32 q0f))] => some ((zap q02 q0a q03 q0b q04 q0e q0f), ((AV.v (TV.one (At.bool (zai q02 q0a q03 q0b q04 q0e q0f)))), []))
  | _ => none
def zd4 (q02 : Nat) (q0a : List Nat) (q03 : Nat) (q0b : List Nat) (q04 : Nat) (q0e : List Nat) (q0f : Nat) : Option (Bool) → Option (AV × List Blk)
  | some r => some ((AV.v (TV.one (At.bool r))), [])
  | none => none
theorem zfe (q02 : Nat) (q0a : List Nat) (q03 : Nat) (q0b : List Nat) (q04 : Nat) (q0e : List Nat) (q0f : Nat) : evFn Γ5 8 8 49 (impTs 0 [.ptr [.row 1 q02 (.fl .f32 q0a), .row 1 q03 (.fl .f32 q0b), .row 1 q04 (.fl .f32 q0e)], .one (.s (.flt .f32 q0f))]).1 (impTs 0 [.ptr [.row 1 q02 (.fl .f32 q0a), .row 1 q03 (.fl .f32 q0b), .row 1 q04 (.fl .f32 q0e)], .one (.s (.flt .f32 q0f))]).2 (expo (impTs 0 [.ptr [.row 1 q02 (.fl .f32 q0a), .row 1 q03 (.fl .f32 q0b), .row 1 q04 (.fl .f32 q0e)], .one (.s (.flt .f32 q0f))]).2.length) = z8c q02 q0a q03 q0b q04 q0e q0f (fun c0_ => some ((AV.v (TV.one (At.bool c0_))), [])) := by kernel_rfl
theorem z2d : SumOne Try.prog 49 z2s := sum_of (Γ := Γ5) (fuel := 8) (d := 8) tyTab_ok (FnL.ok fnTab_ok _ _) (LpL.ok lt5_ok) (SumL.ok tb5_ok _) mixed (by
  intro pts v news hp hc
  clear hc
  unfold z2s at hp
  split at hp
  · rename_i q02 q0a q03 q0b q04 q0e q0f
    exact Eq.trans (Eq.trans (zfe q02 q0a q03 q0b q04 q0e q0f) (ze1 (zd4 q02 q0a q03 q0b q04 q0e q0f) rfl q02 q0a q03 q0b q04 q0e q0f (fun c0_ => some c0_))) (fin_out (o := (zd4 q02 q0a q03 q0b q04 q0e q0f)) (x := z8a q02 q0a q03 q0b q04 q0e q0f) (d := default) (V := fun r => ((AV.v (TV.one (At.bool r))), [])) (fun r => rfl) hp)
  · cases hp)
noncomputable def z0f : List PT → Option (Bool × AV × List Blk)
  | [.one (.row 1 s_n (.fl .f32 s)), .fn 119 []] => some ((z4i s_n s), ((AV.v (TV.one (At.int IntKind.i64 (z4c s_n s)))), []))
  | _ => none
def z69 (s_n : Nat) (s : List Nat) : Option (Int) → Option (AV × List Blk)
  | some r => some ((AV.v (TV.one (At.int IntKind.i64 r))), [])
  | none => none
theorem z9w (s_n : Nat) (s : List Nat) : evFn Γ5 8 8 99 (impTs 0 [.one (.row 1 s_n (.fl .f32 s)), .fn 119 []]).1 (impTs 0 [.one (.row 1 s_n (.fl .f32 s)), .fn 119 []]).2 (expo (impTs 0 [.one (.row 1 s_n (.fl .f32 s)), .fn 119 []]).2.length) = z3q s_n s (fun c0_ => some ((AV.v (TV.one (At.int IntKind.i64 c0_))), [])) := by kernel_rfl
theorem z0e : SumOne Try.prog 99 z0f := sum_of (Γ := Γ5) (fuel := 8) (d := 8) tyTab_ok (FnL.ok fnTab_ok _ _) (LpL.ok lt5_ok) (SumL.ok tb5_ok _) mixed (by
  intro pts v news hp hc
  clear hc
  unfold z0f at hp
  split at hp
  · rename_i s_n s
    exact Eq.trans (Eq.trans (z9w s_n s) (z98 (z69 s_n s) rfl s_n s (fun c0_ => some c0_))) (fin_out (o := (z69 s_n s)) (x := z3p s_n s) (d := default) (V := fun r => ((AV.v (TV.one (At.int IntKind.i64 r))), [])) (fun r => rfl) hp)
  · cases hp)
noncomputable def z31 : List PT → Option (Bool × AV × List Blk)
  | [.one (.s (.flt .f64 x))] => some ((za4 x), ((AV.v (TV.one (At.flt FloatKind.f64 (z5d x)))), []))
  | _ => none
def zdi (x : Nat) : Option (Nat) → Option (AV × List Blk)
  | some r => some ((AV.v (TV.one (At.flt FloatKind.f64 r))), [])
  | none => none
theorem zfg (x : Nat) : evFn Γ5 8 8 116 (impTs 0 [.one (.s (.flt .f64 x))]).1 (impTs 0 [.one (.s (.flt .f64 x))]).2 (expo (impTs 0 [.one (.s (.flt .f64 x))]).2.length) = z9e x (fun c0_ => some ((AV.v (TV.one (At.flt FloatKind.f64 c0_))), [])) := by kernel_rfl
theorem z2l : SumOne Try.prog 116 z31 := sum_of (Γ := Γ5) (fuel := 8) (d := 8) tyTab_ok (FnL.ok fnTab_ok _ _) (LpL.ok lt5_ok) (SumL.ok tb5_ok _) mixed (by
  intro pts v news hp hc
  clear hc
  unfold z31 at hp
  split at hp
  · rename_i x
    exact Eq.trans (Eq.trans (zfg x) (zer (zdi x) rfl x (fun c0_ => some c0_))) (fin_out (o := (zdi x)) (x := z96 x) (d := default) (V := fun r => ((AV.v (TV.one (At.flt FloatKind.f64 r))), [])) (fun r => rfl) hp)
  · cases hp)
noncomputable def tb6 : List (Nat × (List PT → Option (Bool × AV × List Blk))) := [(125, z1b), (128, z0h), (134, z0r), (137, z1c), (18, z1k), (48, z16), (54, z1w), (61, z1j), (97, z1v), (102, z2o), (109, z1l), (14, z1s), (51, z1r), (56, z28), (103, z20), (111, z27), (118, z10), (52, z1g), (119, z1h), (16, z1z), (57, z1o), (19, z22), (62, z2y), (99, z0a), (49, z2s), (99, z0f), (116, z31)]
noncomputable def lt6 : List ((Nat × Nat) × (Nat → St → Option (Bool × LO))) := [((52, 3), z0o), ((57, 4), z0s), ((62, 5), z2b), ((99, 2), z03), ((99, 2), z05)]
noncomputable def Γ6 : Ctx := ⟨tyTab, fnTab, tblSum tb6, tblLp lt6⟩
theorem tb6_ok : SumL Try.prog tb6 := SumL.cons z0p (SumL.cons z0g (SumL.cons z0k (SumL.cons z0q (SumL.cons z0u (SumL.cons z0n (SumL.cons z14 (SumL.cons z0v (SumL.cons z15 (SumL.cons z23 (SumL.cons z0t (SumL.cons z12 (SumL.cons z11 (SumL.cons z1p (SumL.cons z18 (SumL.cons z1n (SumL.cons z0m (SumL.cons z0w (SumL.cons z0x (SumL.cons z1a (SumL.cons z13 (SumL.cons z1i (SumL.cons z2i (SumL.cons z09 (SumL.cons z2d (SumL.cons z0e (SumL.cons z2l (SumL.nil)))))))))))))))))))))))))))
theorem lt6_ok : LpL Try.prog fnTab lt6 := LpL.cons z0i (LpL.cons z0j (LpL.cons z1q (LpL.cons z02 (LpL.cons z04 (LpL.nil)))))
noncomputable def z2r : List PT → Option (Bool × AV × List Blk)
  | [.one (.s (.flt .f32 x))] => some ((zag x), ((AV.v (TV.one (At.flt FloatKind.f32 (z01 x)))), []))
  | _ => none
def zci (x : Nat) : Option (Nat) → Option (AV × List Blk)
  | some r => some ((AV.v (TV.one (At.flt FloatKind.f32 r))), [])
  | none => none
theorem zf4 (x : Nat) : evFn Γ6 8 8 94 (impTs 0 [.one (.s (.flt .f32 x))]).1 (impTs 0 [.one (.s (.flt .f32 x))]).2 (expo (impTs 0 [.one (.s (.flt .f32 x))]).2.length) = z7k x (fun c0_ => some ((AV.v (TV.one (At.flt FloatKind.f32 c0_))), [])) := by kernel_rfl
theorem z2a : SumOne Try.prog 94 z2r := sum_of (Γ := Γ6) (fuel := 8) (d := 8) tyTab_ok (FnL.ok fnTab_ok _ _) (LpL.ok lt6_ok) (SumL.ok tb6_ok _) mixed (by
  intro pts v news hp hc
  clear hc
  unfold z2r at hp
  split at hp
  · rename_i x
    exact Eq.trans (Eq.trans (zf4 x) (zdh (zci x) rfl x (fun c0_ => some c0_))) (fin_out (o := (zci x)) (x := z7i x) (d := default) (V := fun r => ((AV.v (TV.one (At.flt FloatKind.f32 r))), [])) (fun r => rfl) hp)
  · cases hp)
noncomputable def z29 : List PT → Option (Bool × AV × List Blk)
  | [.one (.s (.flt .f32 x))] => some ((z9s x), ((AV.v (TV.one (At.flt FloatKind.f32 (z35 x)))), []))
  | _ => none
def zbn (x : Nat) : Option (Nat) → Option (AV × List Blk)
  | some r => some ((AV.v (TV.one (At.flt FloatKind.f32 r))), [])
  | none => none
theorem ze9 (x : Nat) : evFn Γ6 8 8 98 (impTs 0 [.one (.s (.flt .f32 x))]).1 (impTs 0 [.one (.s (.flt .f32 x))]).2 (expo (impTs 0 [.one (.s (.flt .f32 x))]).2.length) = z6q x (fun c0_ => some ((AV.v (TV.one (At.flt FloatKind.f32 c0_))), [])) := by kernel_rfl
theorem z1x : SumOne Try.prog 98 z29 := sum_of (Γ := Γ6) (fuel := 8) (d := 8) tyTab_ok (FnL.ok fnTab_ok _ _) (LpL.ok lt6_ok) (SumL.ok tb6_ok _) mixed (by
  intro pts v news hp hc
  clear hc
  unfold z29 at hp
  split at hp
  · rename_i x
    exact Eq.trans (Eq.trans (ze9 x) (zcu (zbn x) rfl x (fun c0_ => some c0_))) (fin_out (o := (zbn x)) (x := z6e x) (d := default) (V := fun r => ((AV.v (TV.one (At.flt FloatKind.f32 r))), [])) (fun r => rfl) hp)
  · cases hp)
noncomputable def z07 : List PT → Option (Bool × AV × List Blk)
  | [.one (.row 1 s_n (.fl .f32 s)), .fn 118 []] => some ((z44 s_n s), ((AV.v (TV.one (At.bool (z42 s_n s)))), []))
  | _ => none
def z5q (s_n : Nat) (s : List Nat) : Option (Bool) → Option (AV × List Blk)
  | some r => some ((AV.v (TV.one (At.bool r))), [])
  | none => none
theorem z95 (s_n : Nat) (s : List Nat) : evFn Γ6 8 8 117 (impTs 0 [.one (.row 1 s_n (.fl .f32 s)), .fn 118 []]).1 (impTs 0 [.one (.row 1 s_n (.fl .f32 s)), .fn 118 []]).2 (expo (impTs 0 [.one (.row 1 s_n (.fl .f32 s)), .fn 118 []]).2.length) = z3d s_n s (fun c0_ => some ((AV.v (TV.one (At.bool c0_))), [])) := by kernel_rfl
theorem z06 : SumOne Try.prog 117 z07 := sum_of (Γ := Γ6) (fuel := 8) (d := 8) tyTab_ok (FnL.ok fnTab_ok _ _) (LpL.ok lt6_ok) (SumL.ok tb6_ok _) mixed (by
  intro pts v news hp hc
  clear hc
  unfold z07 at hp
  split at hp
  · rename_i s_n s
    exact Eq.trans (Eq.trans (z95 s_n s) (z88 (z5q s_n s) rfl s_n s (fun c0_ => some c0_))) (fin_out (o := (z5q s_n s)) (x := z3e s_n s) (d := default) (V := fun r => ((AV.v (TV.one (At.bool r))), [])) (fun r => rfl) hp)
  · cases hp)
noncomputable def z0c : List PT → Option (Bool × AV × List Blk)
  | [.one (.row 1 s_n (.fl .f32 s)), .fn 119 []] => some ((z47 s_n s), ((AV.v (TV.one (At.bool (z45 s_n s)))), []))
  | _ => none
def z5r (s_n : Nat) (s : List Nat) : Option (Bool) → Option (AV × List Blk)
  | some r => some ((AV.v (TV.one (At.bool r))), [])
  | none => none
theorem z9g (s_n : Nat) (s : List Nat) : evFn Γ6 8 8 117 (impTs 0 [.one (.row 1 s_n (.fl .f32 s)), .fn 119 []]).1 (impTs 0 [.one (.row 1 s_n (.fl .f32 s)), .fn 119 []]).2 (expo (impTs 0 [.one (.row 1 s_n (.fl .f32 s)), .fn 119 []]).2.length) = z3k s_n s (fun c0_ => some ((AV.v (TV.one (At.bool c0_))), [])) := by kernel_rfl
theorem z0b : SumOne Try.prog 117 z0c := sum_of (Γ := Γ6) (fuel := 8) (d := 8) tyTab_ok (FnL.ok fnTab_ok _ _) (LpL.ok lt6_ok) (SumL.ok tb6_ok _) mixed (by
  intro pts v news hp hc
  clear hc
  unfold z0c at hp
  split at hp
  · rename_i s_n s
    exact Eq.trans (Eq.trans (z9g s_n s) (z8g (z5r s_n s) rfl s_n s (fun c0_ => some c0_))) (fin_out (o := (z5r s_n s)) (x := z3j s_n s) (d := default) (V := fun r => ((AV.v (TV.one (At.bool r))), [])) (fun r => rfl) hp)
  · cases hp)
noncomputable def tb7 : List (Nat × (List PT → Option (Bool × AV × List Blk))) := [(125, z1b), (128, z0h), (134, z0r), (137, z1c), (18, z1k), (48, z16), (54, z1w), (61, z1j), (97, z1v), (102, z2o), (109, z1l), (14, z1s), (51, z1r), (56, z28), (103, z20), (111, z27), (118, z10), (52, z1g), (119, z1h), (16, z1z), (57, z1o), (19, z22), (62, z2y), (99, z0a), (49, z2s), (99, z0f), (116, z31), (94, z2r), (98, z29), (117, z07), (117, z0c)]
noncomputable def lt7 : List ((Nat × Nat) × (Nat → St → Option (Bool × LO))) := [((52, 3), z0o), ((57, 4), z0s), ((62, 5), z2b), ((99, 2), z03), ((99, 2), z05)]
noncomputable def Γ7 : Ctx := ⟨tyTab, fnTab, tblSum tb7, tblLp lt7⟩
theorem tb7_ok : SumL Try.prog tb7 := SumL.cons z0p (SumL.cons z0g (SumL.cons z0k (SumL.cons z0q (SumL.cons z0u (SumL.cons z0n (SumL.cons z14 (SumL.cons z0v (SumL.cons z15 (SumL.cons z23 (SumL.cons z0t (SumL.cons z12 (SumL.cons z11 (SumL.cons z1p (SumL.cons z18 (SumL.cons z1n (SumL.cons z0m (SumL.cons z0w (SumL.cons z0x (SumL.cons z1a (SumL.cons z13 (SumL.cons z1i (SumL.cons z2i (SumL.cons z09 (SumL.cons z2d (SumL.cons z0e (SumL.cons z2l (SumL.cons z2a (SumL.cons z1x (SumL.cons z06 (SumL.cons z0b (SumL.nil)))))))))))))))))))))))))))))))
theorem lt7_ok : LpL Try.prog fnTab lt7 := LpL.cons z0i (LpL.cons z0j (LpL.cons z1q (LpL.cons z02 (LpL.cons z04 (LpL.nil)))))
noncomputable def z2c : List PT → Option (Bool × AV × List Blk)
  | [.one (.row 1 q0q (.fl .f32 q0u))] => some ((z9n q0q q0u), ((AV.v (TV.one (At.bool (z91 q0q q0u)))), []))
  | _ => none
def zbp (q0q : Nat) (q0u : List Nat) : Option (Bool) → Option (AV × List Blk)
  | some r => some ((AV.v (TV.one (At.bool r))), [])
  | none => none
theorem zef (q0q : Nat) (q0u : List Nat) : evFn Γ7 8 8 95 (impTs 0 [.one (.row 1 q0q (.fl .f32 q0u))]).1 (impTs 0 [.one (.row 1 q0q (.fl .f32 q0u))]).2 (expo (impTs 0 [.one (.row 1 q0q (.fl .f32 q0u))]).2.length) = z6a q0q q0u (fun c0_ => some ((AV.v (TV.one (At.bool c0_))), [])) := by kernel_rfl
theorem z21 : SumOne Try.prog 95 z2c := sum_of (Γ := Γ7) (fuel := 8) (d := 8) tyTab_ok (FnL.ok fnTab_ok _ _) (LpL.ok lt7_ok) (SumL.ok tb7_ok _) mixed (by
  intro pts v news hp hc
  clear hc
  unfold z2c at hp
  split at hp
  · rename_i q0q q0u
    exact Eq.trans (Eq.trans (zef q0q q0u) (zcs (zbp q0q q0u) rfl q0q q0u (fun c0_ => some c0_))) (fin_out (o := (zbp q0q q0u)) (x := z6h q0q q0u) (d := default) (V := fun r => ((AV.v (TV.one (At.bool r))), [])) (fun r => rfl) hp)
  · cases hp)
noncomputable def z2k : List PT → Option (Bool × AV × List Blk)
  | [.one (.row 1 q0q (.fl .f32 q0u))] => some ((z9x q0q q0u), ((AV.v (TV.one (At.bool (z9l q0q q0u)))), []))
  | _ => none
def zbz (q0q : Nat) (q0u : List Nat) : Option (Bool) → Option (AV × List Blk)
  | some r => some ((AV.v (TV.one (At.bool r))), [])
  | none => none
theorem zes (q0q : Nat) (q0u : List Nat) : evFn Γ7 8 8 96 (impTs 0 [.one (.row 1 q0q (.fl .f32 q0u))]).1 (impTs 0 [.one (.row 1 q0q (.fl .f32 q0u))]).2 (expo (impTs 0 [.one (.row 1 q0q (.fl .f32 q0u))]).2.length) = z6v q0q q0u (fun c0_ => some ((AV.v (TV.one (At.bool c0_))), [])) := by kernel_rfl
theorem z25 : SumOne Try.prog 96 z2k := sum_of (Γ := Γ7) (fuel := 8) (d := 8) tyTab_ok (FnL.ok fnTab_ok _ _) (LpL.ok lt7_ok) (SumL.ok tb7_ok _) mixed (by
  intro pts v news hp hc
  clear hc
  unfold z2k at hp
  split at hp
  · rename_i q0q q0u
    exact Eq.trans (Eq.trans (zes q0q q0u) (zd7 (zbz q0q q0u) rfl q0q q0u (fun c0_ => some c0_))) (fin_out (o := (zbz q0q q0u)) (x := z70 q0q q0u) (d := default) (V := fun r => ((AV.v (TV.one (At.bool r))), [])) (fun r => rfl) hp)
  · cases hp)
noncomputable def tb8 : List (Nat × (List PT → Option (Bool × AV × List Blk))) := [(125, z1b), (128, z0h), (134, z0r), (137, z1c), (18, z1k), (48, z16), (54, z1w), (61, z1j), (97, z1v), (102, z2o), (109, z1l), (14, z1s), (51, z1r), (56, z28), (103, z20), (111, z27), (118, z10), (52, z1g), (119, z1h), (16, z1z), (57, z1o), (19, z22), (62, z2y), (99, z0a), (49, z2s), (99, z0f), (116, z31), (94, z2r), (98, z29), (117, z07), (117, z0c), (95, z2c), (96, z2k)]
noncomputable def lt8 : List ((Nat × Nat) × (Nat → St → Option (Bool × LO))) := [((52, 3), z0o), ((57, 4), z0s), ((62, 5), z2b), ((99, 2), z03), ((99, 2), z05)]
noncomputable def Γ8 : Ctx := ⟨tyTab, fnTab, tblSum tb8, tblLp lt8⟩
theorem tb8_ok : SumL Try.prog tb8 := SumL.cons z0p (SumL.cons z0g (SumL.cons z0k (SumL.cons z0q (SumL.cons z0u (SumL.cons z0n (SumL.cons z14 (SumL.cons z0v (SumL.cons z15 (SumL.cons z23 (SumL.cons z0t (SumL.cons z12 (SumL.cons z11 (SumL.cons z1p (SumL.cons z18 (SumL.cons z1n (SumL.cons z0m (SumL.cons z0w (SumL.cons z0x (SumL.cons z1a (SumL.cons z13 (SumL.cons z1i (SumL.cons z2i (SumL.cons z09 (SumL.cons z2d (SumL.cons z0e (SumL.cons z2l (SumL.cons z2a (SumL.cons z1x (SumL.cons z06 (SumL.cons z0b (SumL.cons z21 (SumL.cons z25 (SumL.nil)))))))))))))))))))))))))))))))))
theorem lt8_ok : LpL Try.prog fnTab lt8 := LpL.cons z0i (LpL.cons z0j (LpL.cons z1q (LpL.cons z02 (LpL.cons z04 (LpL.nil)))))
noncomputable def zaz (t8 : Nat) (t9 : Int) (t10 : Int) (b0 : List Nat) (b1 : List Nat) (b2 : List Nat) (q0m : Nat) (q0s : Nat) (q0r : Nat) : Bool × LO := ((z8v t8 b0 q0m t10), (LO.one (Ex.exit 0) (St.mk [(0, (AV.v (TV.one (At.ptr 3 0 3)))), (8, (AV.v (TV.one (At.flt FloatKind.f32 t8)))), (9, (AV.v (TV.one (At.int IntKind.i64 t9)))), (10, (AV.v (TV.one (At.int IntKind.i64 (z00 t8 b0 q0m t10))))), (36, (AV.v (TV.one (At.bool (z9m t8 b0 q0m t10)))))] [(Blk.mk Bool.false (Body.fl FloatKind.f32 b0)), (Blk.mk Bool.false (Body.fl FloatKind.f32 b1)), (Blk.mk Bool.false (Body.fl FloatKind.f32 b2)), (Blk.mk Bool.false (Body.cells [(At.vw 0 0 q0m 1), (At.vw 1 0 q0s 1), (At.vw 2 0 q0r 1)]))])))
noncomputable def z2e : Nat → St → Option (Bool × LO) := lpT 4 (pSt [(pTm 0 (pV (pOne (pPtr 3 (liN 0) 3)))), (pTm 8 (pV (pOne (pFlt FloatKind.f32)))), (pTm 9 (pV (pOne (pInt IntKind.i64)))), (pTm 10 (pV (pOne (pInt IntKind.i64))))] [(pBlk Bool.false (pFl FloatKind.f32)), (pBlk Bool.false (pFl FloatKind.f32)), (pBlk Bool.false (pFl FloatKind.f32)), (pBlk Bool.false (pCells [(pVw 0 (liN 0) 1), (pVw 1 (liN 0) 1), (pVw 2 (liN 0) 1)]))]) (fun hs => zaz (hvN (hGet hs 0)) (hvI (hGet hs 1)) (hvI (hGet hs 2)) (hvLn (hGet hs 3)) (hvLn (hGet hs 4)) (hvLn (hGet hs 5)) (hvN (hGet hs 6)) (hvN (hGet hs 7)) (hvN (hGet hs 8)))
def z90 (t8 : Nat) (t9 : Int) (b0 : List Nat) (b1 : List Nat) (b2 : List Nat) (q0m : Nat) (q0s : Nat) (q0r : Nat) : Option ((Int × Bool)) → Option (Ex × St)
  | none => none
  | some r => some ((Ex.exit 0), (St.mk [(0, (AV.v (TV.one (At.ptr 3 0 3)))), (8, (AV.v (TV.one (At.flt FloatKind.f32 t8)))), (9, (AV.v (TV.one (At.int IntKind.i64 t9)))), (10, (AV.v (TV.one (At.int IntKind.i64 r.1)))), (36, (AV.v (TV.one (At.bool r.2))))] [(Blk.mk Bool.false (Body.fl FloatKind.f32 b0)), (Blk.mk Bool.false (Body.fl FloatKind.f32 b1)), (Blk.mk Bool.false (Body.fl FloatKind.f32 b2)), (Blk.mk Bool.false (Body.cells [(At.vw 0 0 q0m 1), (At.vw 1 0 q0s 1), (At.vw 2 0 q0r 1)]))]))
def zdm (t8 : Nat) (t9 : Int) (b0 : List Nat) (b1 : List Nat) (b2 : List Nat) (q0m : Nat) (q0s : Nat) (q0r : Nat) (x : Option ((Int × Bool))) : LO := (LO.one (Ex.exit 0) (St.mk [(0, (AV.v (TV.one (At.ptr 3 0 3)))), (8, (AV.v (TV.one (At.flt FloatKind.f32 t8)))), (9, (AV.v (TV.one (At.int IntKind.i64 t9)))), (10, (AV.v (TV.one (At.int IntKind.i64 (x.getD default).1)))), (36, (AV.v (TV.one (At.bool (x.getD default).2))))] [(Blk.mk Bool.false (Body.fl FloatKind.f32 b0)), (Blk.mk Bool.false (Body.fl FloatKind.f32 b1)), (Blk.mk Bool.false (Body.fl FloatKind.f32 b2)), (Blk.mk Bool.false (Body.cells [(At.vw 0 0 q0m 1), (At.vw 1 0 q0s 1), (At.vw 2 0 q0r 1)]))]))
theorem ze0 (t8 : Nat) (t9 : Int) (b0 : List Nat) (b1 : List Nat) (b2 : List Nat) (q0m : Nat) (q0s : Nat) (q0r : Nat) : ∀ x : Option ((Int × Bool)), x.isSome = true → (z90 t8 t9 b0 b1 b2 q0m q0s q0r) x = some (pick (zdm t8 t9 b0 b1 b2 q0m q0s q0r x))
  | none, h => by cases h
  | some r, _ => rfl
theorem zdt (t8 : Nat) (t9 : Int) (t10 : Int) (b0 : List Nat) (b1 : List Nat) (b2 : List Nat) (q0m : Nat) (q0s : Nat) (q0r : Nat) (K : Ex → St → Option (Ex × St)) : evC (R := Ex × St) Γ8 (evFn Γ8 8 8) 50 4 fi50.nt fi50.live fi50.nl 8 (findL 4 (loopsIn fi50.code)) (St.mk [(0, (AV.v (TV.one (At.ptr 3 0 3)))), (8, (AV.v (TV.one (At.flt FloatKind.f32 t8)))), (9, (AV.v (TV.one (At.int IntKind.i64 t9)))), (10, (AV.v (TV.one (At.int IntKind.i64 t10))))] [(Blk.mk Bool.false (Body.fl FloatKind.f32 b0)), (Blk.mk Bool.false (Body.fl FloatKind.f32 b1)), (Blk.mk Bool.false (Body.fl FloatKind.f32 b2)), (Blk.mk Bool.false (Body.cells [(At.vw 0 0 q0m 1), (At.vw 1 0 q0s 1), (At.vw 2 0 q0r 1)]))]) K = z4q t8 b0 q0m t10 (fun t10' => K .normal (St.mk [(0, (AV.v (TV.one (At.ptr 3 0 3)))), (8, (AV.v (TV.one (At.flt FloatKind.f32 t8)))), (9, (AV.v (TV.one (At.int IntKind.i64 t9)))), (10, (AV.v (TV.one (At.int IntKind.i64 t10'))))] [(Blk.mk Bool.false (Body.fl FloatKind.f32 b0)), (Blk.mk Bool.false (Body.fl FloatKind.f32 b1)), (Blk.mk Bool.false (Body.fl FloatKind.f32 b2)), (Blk.mk Bool.false (Body.cells [(At.vw 0 0 q0m 1), (At.vw 1 0 q0s 1), (At.vw 2 0 q0r 1)]))])) (fun c0_ c1_ => K (Ex.exit 0) (St.mk [(0, (AV.v (TV.one (At.ptr 3 0 3)))), (8, (AV.v (TV.one (At.flt FloatKind.f32 t8)))), (9, (AV.v (TV.one (At.int IntKind.i64 t9)))), (10, (AV.v (TV.one (At.int IntKind.i64 c0_)))), (36, (AV.v (TV.one (At.bool c1_))))] [(Blk.mk Bool.false (Body.fl FloatKind.f32 b0)), (Blk.mk Bool.false (Body.fl FloatKind.f32 b1)), (Blk.mk Bool.false (Body.fl FloatKind.f32 b2)), (Blk.mk Bool.false (Body.cells [(At.vw 0 0 q0m 1), (At.vw 1 0 q0s 1), (At.vw 2 0 q0r 1)]))])) := by kernel_rfl
theorem zdv (t8 : Nat) (t9 : Int) (b0 : List Nat) (b1 : List Nat) (b2 : List Nat) (q0m : Nat) (q0s : Nat) (q0r : Nat) : ∀ (n : Nat) (t10 : Int), iter 50 4 4 (evC (R := Ex × St) Γ8 (evFn Γ8 8 8) 50 4 fi50.nt fi50.live fi50.nl 8 (findL 4 (loopsIn fi50.code))) n (St.mk [(0, (AV.v (TV.one (At.ptr 3 0 3)))), (8, (AV.v (TV.one (At.flt FloatKind.f32 t8)))), (9, (AV.v (TV.one (At.int IntKind.i64 t9)))), (10, (AV.v (TV.one (At.int IntKind.i64 t10))))] [(Blk.mk Bool.false (Body.fl FloatKind.f32 b0)), (Blk.mk Bool.false (Body.fl FloatKind.f32 b1)), (Blk.mk Bool.false (Body.fl FloatKind.f32 b2)), (Blk.mk Bool.false (Body.cells [(At.vw 0 0 q0m 1), (At.vw 1 0 q0s 1), (At.vw 2 0 q0r 1)]))]) (fun e st => some (e, st)) = (z90 t8 t9 b0 b1 b2 q0m q0s q0r) (z3z t8 b0 q0m n t10) := by
  intro n
  induction n with
  | zero => intros; rfl
  | succ n ih =>
    intro t10
    refine Eq.trans (iter_succ ..) (Eq.trans (zdt t8 t9 t10 b0 b1 b2 q0m q0s q0r (nextK 50 4 4 (evC (R := Ex × St) Γ8 (evFn Γ8 8 8) 50 4 fi50.nt fi50.live fi50.nl 8 (findL 4 (loopsIn fi50.code))) n (fun e st => some (e, st)))) (Eq.trans ?_ (zch (z90 t8 t9 b0 b1 b2 q0m q0s q0r) rfl t8 b0 q0m t10 (fun t10' => z3z t8 b0 q0m n t10') (fun c0_ c1_ => some (c0_, c1_)))))
    exact congrArg (fun kn_ => z4q t8 b0 q0m t10 kn_ (fun c0_ c1_ => (z90 t8 t9 b0 b1 b2 q0m q0s q0r) (some (c0_, c1_)))) (funext fun t10' => ih t10')
theorem z1y : LoopOne Try.prog fnTab 50 4 z2e := lp_of (Γ := Γ8) tyTab_ok (FnL.ok fnTab_ok _ _) (LpL.ok lt8_ok) (SumL.ok tb8_ok _) mixed (fi := fi50) (by kernel_rfl) (by kernel_rfl) (by
  intro lo st out hp
  obtain ⟨hs, e1, e2, e3⟩ := lpT_inv hp
  clear hp
  obtain rfl : st = (St.mk [(0, (AV.v (TV.one (At.ptr 3 0 3)))), (8, (AV.v (TV.one (At.flt FloatKind.f32 (hvN (hGet hs 0)))))), (9, (AV.v (TV.one (At.int IntKind.i64 (hvI (hGet hs 1)))))), (10, (AV.v (TV.one (At.int IntKind.i64 (hvI (hGet hs 2))))))] [(Blk.mk Bool.false (Body.fl FloatKind.f32 (hvLn (hGet hs 3)))), (Blk.mk Bool.false (Body.fl FloatKind.f32 (hvLn (hGet hs 4)))), (Blk.mk Bool.false (Body.fl FloatKind.f32 (hvLn (hGet hs 5)))), (Blk.mk Bool.false (Body.cells [(At.vw 0 0 (hvN (hGet hs 6)) 1), (At.vw 1 0 (hvN (hGet hs 7)) 1), (At.vw 2 0 (hvN (hGet hs 8)) 1)]))]) := e2.trans (by kernel_rfl)
  clear e2
  subst e1
  unfold zaz at e3
  injection e3 with h1 h2
  subst h2
  exact ⟨8, 8, big, Eq.trans (zdv (hvN (hGet hs 0)) (hvI (hGet hs 1)) (hvLn (hGet hs 3)) (hvLn (hGet hs 4)) (hvLn (hGet hs 5)) (hvN (hGet hs 6)) (hvN (hGet hs 7)) (hvN (hGet hs 8)) big (hvI (hGet hs 2))) (ze0 (hvN (hGet hs 0)) (hvI (hGet hs 1)) (hvLn (hGet hs 3)) (hvLn (hGet hs 4)) (hvLn (hGet hs 5)) (hvN (hGet hs 6)) (hvN (hGet hs 7)) (hvN (hGet hs 8)) (z3z (hvN (hGet hs 0)) (hvLn (hGet hs 3)) (hvN (hGet hs 6)) big (hvI (hGet hs 2))) h1)⟩)
noncomputable def z51 (sn : Nat) (t7 : Int) (t8 : Int) (b0 : List Nat) (b1 : List Nat) (b2 : List Nat) (q0m : Nat) (q0s : Nat) (q0r : Nat) (b4 : Nat) : Bool × LO := ((z38 sn t7 b0 b4 t8), (LO.two (z37 sn t7 b0 b4 t8) (LO.one Ex.ret (St.mk [(4, (AV.v (TV.one (At.int IntKind.i64 (z1t sn t7 b0 b4 t8)))))] [(Blk.mk Bool.false (Body.fl FloatKind.f32 b0)), (Blk.mk Bool.false (Body.fl FloatKind.f32 b1)), (Blk.mk Bool.false (Body.fl FloatKind.f32 b2)), (Blk.mk Bool.true (Body.cells [(At.vw 0 0 q0m 1), (At.vw 1 0 q0s 1), (At.vw 2 0 q0r 1)])), (Blk.mk Bool.true (Body.cells [(At.flt FloatKind.f32 b4)]))])) (LO.one (Ex.exit 0) (St.mk [(0, (AV.v (TV.one (At.vw 0 0 sn 1)))), (1, (AV.v (TV.one (At.fn 100 [(At.ptr 4 0 1)])))), (7, (AV.v (TV.one (At.int IntKind.i64 t7)))), (8, (AV.v (TV.one (At.int IntKind.i64 (z4h sn t7 b0 b4 t8))))), (9, (AV.v (TV.one (At.bool (z4g sn t7 b0 b4 t8)))))] [(Blk.mk Bool.false (Body.fl FloatKind.f32 b0)), (Blk.mk Bool.false (Body.fl FloatKind.f32 b1)), (Blk.mk Bool.false (Body.fl FloatKind.f32 b2)), (Blk.mk Bool.true (Body.cells [(At.vw 0 0 q0m 1), (At.vw 1 0 q0s 1), (At.vw 2 0 q0r 1)])), (Blk.mk Bool.true (Body.cells [(At.flt FloatKind.f32 b4)]))]))))
noncomputable def z0d : Nat → St → Option (Bool × LO) := lpT 5 (pSt [(pTm 0 (pV (pOne (pVw 0 (liN 0) 1)))), (pTm 1 (pV (pOne (pFn 100 [(pPtr 4 (liN 0) 1)])))), (pTm 7 (pV (pOne (pInt IntKind.i64)))), (pTm 8 (pV (pOne (pInt IntKind.i64))))] [(pBlk Bool.false (pFl FloatKind.f32)), (pBlk Bool.false (pFl FloatKind.f32)), (pBlk Bool.false (pFl FloatKind.f32)), (pBlk Bool.true (pCells [(pVw 0 (liN 0) 1), (pVw 1 (liN 0) 1), (pVw 2 (liN 0) 1)])), (pBlk Bool.true (pCells [(pFlt FloatKind.f32)]))]) (fun hs => z51 (hvN (hGet hs 0)) (hvI (hGet hs 1)) (hvI (hGet hs 2)) (hvLn (hGet hs 3)) (hvLn (hGet hs 4)) (hvLn (hGet hs 5)) (hvN (hGet hs 6)) (hvN (hGet hs 7)) (hvN (hGet hs 8)) (hvN (hGet hs 9)))
def z3o (sn : Nat) (t7 : Int) (b0 : List Nat) (b1 : List Nat) (b2 : List Nat) (q0m : Nat) (q0s : Nat) (q0r : Nat) (b4 : Nat) : Option ((Int) ⊕ (Int × Bool)) → Option (Ex × St)
  | none => none
  | some (Sum.inl r) => some (Ex.ret, (St.mk [(4, (AV.v (TV.one (At.int IntKind.i64 r))))] [(Blk.mk Bool.false (Body.fl FloatKind.f32 b0)), (Blk.mk Bool.false (Body.fl FloatKind.f32 b1)), (Blk.mk Bool.false (Body.fl FloatKind.f32 b2)), (Blk.mk Bool.true (Body.cells [(At.vw 0 0 q0m 1), (At.vw 1 0 q0s 1), (At.vw 2 0 q0r 1)])), (Blk.mk Bool.true (Body.cells [(At.flt FloatKind.f32 b4)]))]))
  | some (Sum.inr r) => some ((Ex.exit 0), (St.mk [(0, (AV.v (TV.one (At.vw 0 0 sn 1)))), (1, (AV.v (TV.one (At.fn 100 [(At.ptr 4 0 1)])))), (7, (AV.v (TV.one (At.int IntKind.i64 t7)))), (8, (AV.v (TV.one (At.int IntKind.i64 r.1)))), (9, (AV.v (TV.one (At.bool r.2))))] [(Blk.mk Bool.false (Body.fl FloatKind.f32 b0)), (Blk.mk Bool.false (Body.fl FloatKind.f32 b1)), (Blk.mk Bool.false (Body.fl FloatKind.f32 b2)), (Blk.mk Bool.true (Body.cells [(At.vw 0 0 q0m 1), (At.vw 1 0 q0s 1), (At.vw 2 0 q0r 1)])), (Blk.mk Bool.true (Body.cells [(At.flt FloatKind.f32 b4)]))]))
def z83 (sn : Nat) (t7 : Int) (b0 : List Nat) (b1 : List Nat) (b2 : List Nat) (q0m : Nat) (q0s : Nat) (q0r : Nat) (b4 : Nat) (x : Option ((Int) ⊕ (Int × Bool))) : LO := (LO.two (oL x) (LO.one Ex.ret (St.mk [(4, (AV.v (TV.one (At.int IntKind.i64 ((tL x).getD default)))))] [(Blk.mk Bool.false (Body.fl FloatKind.f32 b0)), (Blk.mk Bool.false (Body.fl FloatKind.f32 b1)), (Blk.mk Bool.false (Body.fl FloatKind.f32 b2)), (Blk.mk Bool.true (Body.cells [(At.vw 0 0 q0m 1), (At.vw 1 0 q0s 1), (At.vw 2 0 q0r 1)])), (Blk.mk Bool.true (Body.cells [(At.flt FloatKind.f32 b4)]))])) (LO.one (Ex.exit 0) (St.mk [(0, (AV.v (TV.one (At.vw 0 0 sn 1)))), (1, (AV.v (TV.one (At.fn 100 [(At.ptr 4 0 1)])))), (7, (AV.v (TV.one (At.int IntKind.i64 t7)))), (8, (AV.v (TV.one (At.int IntKind.i64 ((tR x).getD default).1)))), (9, (AV.v (TV.one (At.bool ((tR x).getD default).2))))] [(Blk.mk Bool.false (Body.fl FloatKind.f32 b0)), (Blk.mk Bool.false (Body.fl FloatKind.f32 b1)), (Blk.mk Bool.false (Body.fl FloatKind.f32 b2)), (Blk.mk Bool.true (Body.cells [(At.vw 0 0 q0m 1), (At.vw 1 0 q0s 1), (At.vw 2 0 q0r 1)])), (Blk.mk Bool.true (Body.cells [(At.flt FloatKind.f32 b4)]))])))
theorem z8i (sn : Nat) (t7 : Int) (b0 : List Nat) (b1 : List Nat) (b2 : List Nat) (q0m : Nat) (q0s : Nat) (q0r : Nat) (b4 : Nat) : ∀ x : Option ((Int) ⊕ (Int × Bool)), x.isSome = true → (z3o sn t7 b0 b1 b2 q0m q0s q0r b4) x = some (pick (z83 sn t7 b0 b1 b2 q0m q0s q0r b4 x))
  | none, h => by cases h
  | some (Sum.inl r), _ => rfl
  | some (Sum.inr r), _ => rfl
theorem z8l (sn : Nat) (t7 : Int) (t8 : Int) (b0 : List Nat) (b1 : List Nat) (b2 : List Nat) (q0m : Nat) (q0s : Nat) (q0r : Nat) (b4 : Nat) (K : Ex → St → Option (Ex × St)) : evC (R := Ex × St) Γ8 (evFn Γ8 8 8) 99 5 fi99.nt fi99.live fi99.nl 8 (findL 2 (loopsIn fi99.code)) (St.mk [(0, (AV.v (TV.one (At.vw 0 0 sn 1)))), (1, (AV.v (TV.one (At.fn 100 [(At.ptr 4 0 1)])))), (7, (AV.v (TV.one (At.int IntKind.i64 t7)))), (8, (AV.v (TV.one (At.int IntKind.i64 t8))))] [(Blk.mk Bool.false (Body.fl FloatKind.f32 b0)), (Blk.mk Bool.false (Body.fl FloatKind.f32 b1)), (Blk.mk Bool.false (Body.fl FloatKind.f32 b2)), (Blk.mk Bool.true (Body.cells [(At.vw 0 0 q0m 1), (At.vw 1 0 q0s 1), (At.vw 2 0 q0r 1)])), (Blk.mk Bool.true (Body.cells [(At.flt FloatKind.f32 b4)]))]) K = z2q sn t7 b0 b4 t8 (fun t8' => K .normal (St.mk [(0, (AV.v (TV.one (At.vw 0 0 sn 1)))), (1, (AV.v (TV.one (At.fn 100 [(At.ptr 4 0 1)])))), (7, (AV.v (TV.one (At.int IntKind.i64 t7)))), (8, (AV.v (TV.one (At.int IntKind.i64 t8'))))] [(Blk.mk Bool.false (Body.fl FloatKind.f32 b0)), (Blk.mk Bool.false (Body.fl FloatKind.f32 b1)), (Blk.mk Bool.false (Body.fl FloatKind.f32 b2)), (Blk.mk Bool.true (Body.cells [(At.vw 0 0 q0m 1), (At.vw 1 0 q0s 1), (At.vw 2 0 q0r 1)])), (Blk.mk Bool.true (Body.cells [(At.flt FloatKind.f32 b4)]))])) (fun c0_ => K Ex.ret (St.mk [(4, (AV.v (TV.one (At.int IntKind.i64 c0_))))] [(Blk.mk Bool.false (Body.fl FloatKind.f32 b0)), (Blk.mk Bool.false (Body.fl FloatKind.f32 b1)), (Blk.mk Bool.false (Body.fl FloatKind.f32 b2)), (Blk.mk Bool.true (Body.cells [(At.vw 0 0 q0m 1), (At.vw 1 0 q0s 1), (At.vw 2 0 q0r 1)])), (Blk.mk Bool.true (Body.cells [(At.flt FloatKind.f32 b4)]))])) (fun c0_ c1_ => K (Ex.exit 0) (St.mk [(0, (AV.v (TV.one (At.vw 0 0 sn 1)))), (1, (AV.v (TV.one (At.fn 100 [(At.ptr 4 0 1)])))), (7, (AV.v (TV.one (At.int IntKind.i64 t7)))), (8, (AV.v (TV.one (At.int IntKind.i64 c0_)))), (9, (AV.v (TV.one (At.bool c1_))))] [(Blk.mk Bool.false (Body.fl FloatKind.f32 b0)), (Blk.mk Bool.false (Body.fl FloatKind.f32 b1)), (Blk.mk Bool.false (Body.fl FloatKind.f32 b2)), (Blk.mk Bool.true (Body.cells [(At.vw 0 0 q0m 1), (At.vw 1 0 q0s 1), (At.vw 2 0 q0r 1)])), (Blk.mk Bool.true (Body.cells [(At.flt FloatKind.f32 b4)]))])) := by kernel_rfl
theorem z8d (sn : Nat) (t7 : Int) (b0 : List Nat) (b1 : List Nat) (b2 : List Nat) (q0m : Nat) (q0s : Nat) (q0r : Nat) (b4 : Nat) : ∀ (n : Nat) (t8 : Int), iter 99 2 5 (evC (R := Ex × St) Γ8 (evFn Γ8 8 8) 99 5 fi99.nt fi99.live fi99.nl 8 (findL 2 (loopsIn fi99.code))) n (St.mk [(0, (AV.v (TV.one (At.vw 0 0 sn 1)))), (1, (AV.v (TV.one (At.fn 100 [(At.ptr 4 0 1)])))), (7, (AV.v (TV.one (At.int IntKind.i64 t7)))), (8, (AV.v (TV.one (At.int IntKind.i64 t8))))] [(Blk.mk Bool.false (Body.fl FloatKind.f32 b0)), (Blk.mk Bool.false (Body.fl FloatKind.f32 b1)), (Blk.mk Bool.false (Body.fl FloatKind.f32 b2)), (Blk.mk Bool.true (Body.cells [(At.vw 0 0 q0m 1), (At.vw 1 0 q0s 1), (At.vw 2 0 q0r 1)])), (Blk.mk Bool.true (Body.cells [(At.flt FloatKind.f32 b4)]))]) (fun e st => some (e, st)) = (z3o sn t7 b0 b1 b2 q0m q0s q0r b4) (z0l sn t7 b0 b4 n t8) := by
  intro n
  induction n with
  | zero => intros; rfl
  | succ n ih =>
    intro t8
    refine Eq.trans (iter_succ ..) (Eq.trans (z8l sn t7 t8 b0 b1 b2 q0m q0s q0r b4 (nextK 99 2 5 (evC (R := Ex × St) Γ8 (evFn Γ8 8 8) 99 5 fi99.nt fi99.live fi99.nl 8 (findL 2 (loopsIn fi99.code))) n (fun e st => some (e, st)))) (Eq.trans ?_ (z7j (z3o sn t7 b0 b1 b2 q0m q0s q0r b4) rfl sn t7 b0 b4 t8 (fun t8' => z0l sn t7 b0 b4 n t8') (fun c0_ => some (Sum.inl c0_)) (fun c0_ c1_ => some (Sum.inr (c0_, c1_))))))
    exact congrArg (fun kn_ => z2q sn t7 b0 b4 t8 kn_ (fun c0_ => (z3o sn t7 b0 b1 b2 q0m q0s q0r b4) (some (Sum.inl c0_))) (fun c0_ c1_ => (z3o sn t7 b0 b1 b2 q0m q0s q0r b4) (some (Sum.inr (c0_, c1_))))) (funext fun t8' => ih t8')
theorem z08 : LoopOne Try.prog fnTab 99 2 z0d := lp_of (Γ := Γ8) tyTab_ok (FnL.ok fnTab_ok _ _) (LpL.ok lt8_ok) (SumL.ok tb8_ok _) mixed (fi := fi99) (by kernel_rfl) (by kernel_rfl) (by
  intro lo st out hp
  obtain ⟨hs, e1, e2, e3⟩ := lpT_inv hp
  clear hp
  obtain rfl : st = (St.mk [(0, (AV.v (TV.one (At.vw 0 0 (hvN (hGet hs 0)) 1)))), (1, (AV.v (TV.one (At.fn 100 [(At.ptr 4 0 1)])))), (7, (AV.v (TV.one (At.int IntKind.i64 (hvI (hGet hs 1)))))), (8, (AV.v (TV.one (At.int IntKind.i64 (hvI (hGet hs 2))))))] [(Blk.mk Bool.false (Body.fl FloatKind.f32 (hvLn (hGet hs 3)))), (Blk.mk Bool.false (Body.fl FloatKind.f32 (hvLn (hGet hs 4)))), (Blk.mk Bool.false (Body.fl FloatKind.f32 (hvLn (hGet hs 5)))), (Blk.mk Bool.true (Body.cells [(At.vw 0 0 (hvN (hGet hs 6)) 1), (At.vw 1 0 (hvN (hGet hs 7)) 1), (At.vw 2 0 (hvN (hGet hs 8)) 1)])), (Blk.mk Bool.true (Body.cells [(At.flt FloatKind.f32 (hvN (hGet hs 9)))]))]) := e2.trans (by kernel_rfl)
  clear e2
  subst e1
  unfold z51 at e3
  injection e3 with h1 h2
  subst h2
  exact ⟨8, 8, big, Eq.trans (z8d (hvN (hGet hs 0)) (hvI (hGet hs 1)) (hvLn (hGet hs 3)) (hvLn (hGet hs 4)) (hvLn (hGet hs 5)) (hvN (hGet hs 6)) (hvN (hGet hs 7)) (hvN (hGet hs 8)) (hvN (hGet hs 9)) big (hvI (hGet hs 2))) (z8i (hvN (hGet hs 0)) (hvI (hGet hs 1)) (hvLn (hGet hs 3)) (hvLn (hGet hs 4)) (hvLn (hGet hs 5)) (hvN (hGet hs 6)) (hvN (hGet hs 7)) (hvN (hGet hs 8)) (hvN (hGet hs 9)) (z0l (hvN (hGet hs 0)) (hvI (hGet hs 1)) (hvLn (hGet hs 3)) (hvN (hGet hs 9)) big (hvI (hGet hs 2))) h1)⟩)
noncomputable def tb9 : List (Nat × (List PT → Option (Bool × AV × List Blk))) := [(125, z1b), (128, z0h), (134, z0r), (137, z1c), (18, z1k), (48, z16), (54, z1w), (61, z1j), (97, z1v), (102, z2o), (109, z1l), (14, z1s), (51, z1r), (56, z28), (103, z20), (111, z27), (118, z10), (52, z1g), (119, z1h), (16, z1z), (57, z1o), (19, z22), (62, z2y), (99, z0a), (49, z2s), (99, z0f), (116, z31), (94, z2r), (98, z29), (117, z07), (117, z0c), (95, z2c), (96, z2k)]
noncomputable def lt9 : List ((Nat × Nat) × (Nat → St → Option (Bool × LO))) := [((52, 3), z0o), ((57, 4), z0s), ((62, 5), z2b), ((99, 2), z03), ((99, 2), z05), ((50, 4), z2e), ((99, 2), z0d)]
noncomputable def Γ9 : Ctx := ⟨tyTab, fnTab, tblSum tb9, tblLp lt9⟩
theorem tb9_ok : SumL Try.prog tb9 := SumL.cons z0p (SumL.cons z0g (SumL.cons z0k (SumL.cons z0q (SumL.cons z0u (SumL.cons z0n (SumL.cons z14 (SumL.cons z0v (SumL.cons z15 (SumL.cons z23 (SumL.cons z0t (SumL.cons z12 (SumL.cons z11 (SumL.cons z1p (SumL.cons z18 (SumL.cons z1n (SumL.cons z0m (SumL.cons z0w (SumL.cons z0x (SumL.cons z1a (SumL.cons z13 (SumL.cons z1i (SumL.cons z2i (SumL.cons z09 (SumL.cons z2d (SumL.cons z0e (SumL.cons z2l (SumL.cons z2a (SumL.cons z1x (SumL.cons z06 (SumL.cons z0b (SumL.cons z21 (SumL.cons z25 (SumL.nil)))))))))))))))))))))))))))))))))
theorem lt9_ok : LpL Try.prog fnTab lt9 := LpL.cons z0i (LpL.cons z0j (LpL.cons z1q (LpL.cons z02 (LpL.cons z04 (LpL.cons z1y (LpL.cons z08 (LpL.nil)))))))
noncomputable def z2z : List PT → Option (Bool × AV × List Blk)
  | [.ptr [.row 1 q00 (.fl .f32 q01), .row 1 q09 (.fl .f32 q0c), .row 1 q08 (.fl .f32 q0d)], .one (.s (.flt .f32 x1))] => some ((zad q00 q01 q09 q0c q08 q0d x1), ((AV.tup [(TV.one (At.int IntKind.i64 (z5u q00 q01 q09 q0c q08 q0d x1))), (TV.one (At.int IntKind.i64 (z8f q00 q01 q09 q0c q08 q0d x1))), (TV.one (At.flt FloatKind.f32 (za2 q00 q01 q09 q0c q08 q0d x1))), (TV.one (At.flt FloatKind.f32 (zat q00 q01 q09 q0c q08 q0d x1)))]), []))
  | _ => none
def zc7 (q00 : Nat) (q01 : List Nat) (q09 : Nat) (q0c : List Nat) (q08 : Nat) (q0d : List Nat) (x1 : Nat) : Option (Int × Int × Nat × Nat) → Option (AV × List Blk)
  | some r => some ((AV.tup [(TV.one (At.int IntKind.i64 r.1)), (TV.one (At.int IntKind.i64 r.2.1)), (TV.one (At.flt FloatKind.f32 r.2.2.1)), (TV.one (At.flt FloatKind.f32 r.2.2.2))]), [])
  | none => none
theorem zf6 (q00 : Nat) (q01 : List Nat) (q09 : Nat) (q0c : List Nat) (q08 : Nat) (q0d : List Nat) (x1 : Nat) : evFn Γ9 8 8 50 (impTs 0 [.ptr [.row 1 q00 (.fl .f32 q01), .row 1 q09 (.fl .f32 q0c), .row 1 q08 (.fl .f32 q0d)], .one (.s (.flt .f32 x1))]).1 (impTs 0 [.ptr [.row 1 q00 (.fl .f32 q01), .row 1 q09 (.fl .f32 q0c), .row 1 q08 (.fl .f32 q0d)], .one (.s (.flt .f32 x1))]).2 (expo (impTs 0 [.ptr [.row 1 q00 (.fl .f32 q01), .row 1 q09 (.fl .f32 q0c), .row 1 q08 (.fl .f32 q0d)], .one (.s (.flt .f32 x1))]).2.length) = z6r q00 q01 q09 q0c q08 q0d x1 (fun c0_ c1_ c2_ c3_ => some ((AV.tup [(TV.one (At.int IntKind.i64 c0_)), (TV.one (At.int IntKind.i64 c1_)), (TV.one (At.flt FloatKind.f32 c2_)), (TV.one (At.flt FloatKind.f32 c3_))]), [])) := by kernel_rfl
theorem z2m : SumOne Try.prog 50 z2z := sum_of (Γ := Γ9) (fuel := 8) (d := 8) tyTab_ok (FnL.ok fnTab_ok _ _) (LpL.ok lt9_ok) (SumL.ok tb9_ok _) mixed (by
  intro pts v news hp hc
  clear hc
  unfold z2z at hp
  split at hp
  · rename_i q00 q01 q09 q0c q08 q0d x1
    exact Eq.trans (Eq.trans (zf6 q00 q01 q09 q0c q08 q0d x1) (zdk (zc7 q00 q01 q09 q0c q08 q0d x1) rfl q00 q01 q09 q0c q08 q0d x1 (fun c0_ c1_ c2_ c3_ => some (c0_, c1_, c2_, c3_)))) (fin_out (o := (zc7 q00 q01 q09 q0c q08 q0d x1)) (x := z4u q00 q01 q09 q0c q08 q0d x1) (d := default) (V := fun r => ((AV.tup [(TV.one (At.int IntKind.i64 r.1)), (TV.one (At.int IntKind.i64 r.2.1)), (TV.one (At.flt FloatKind.f32 r.2.2.1)), (TV.one (At.flt FloatKind.f32 r.2.2.2))]), [])) (fun r => rfl) hp)
  · cases hp)
noncomputable def z17 : List PT → Option (Bool × AV × List Blk)
  | [.agg [.row 1 q00 (.fl .f32 q01), .row 1 q09 (.fl .f32 q0c), .row 1 q08 (.fl .f32 q0d)], .one (.s (.flt .f32 x1))] => some ((z6s q00 q01 q09 q0c q08 q0d x1), ((AV.tup [(TV.one (At.int IntKind.i64 (z3w q00 q01 q09 q0c q08 q0d x1))), (TV.one (At.int IntKind.i64 (z3x q00 q01 q09 q0c q08 q0d x1))), (TV.one (At.flt FloatKind.f32 (z46 q00 q01 q09 q0c q08 q0d x1))), (TV.one (At.flt FloatKind.f32 (z4r q00 q01 q09 q0c q08 q0d x1))), (TV.one (At.flt FloatKind.f32 (z54 q00 q01 q09 q0c q08 q0d x1)))]), []))
  | _ => none
def zal (q00 : Nat) (q01 : List Nat) (q09 : Nat) (q0c : List Nat) (q08 : Nat) (q0d : List Nat) (x1 : Nat) : Option (Int × Int × Nat × Nat × Nat) → Option (AV × List Blk)
  | some r => some ((AV.tup [(TV.one (At.int IntKind.i64 r.1)), (TV.one (At.int IntKind.i64 r.2.1)), (TV.one (At.flt FloatKind.f32 r.2.2.1)), (TV.one (At.flt FloatKind.f32 r.2.2.2.1)), (TV.one (At.flt FloatKind.f32 r.2.2.2.2))]), [])
  | none => none
theorem zc4 (q00 : Nat) (q01 : List Nat) (q09 : Nat) (q0c : List Nat) (q08 : Nat) (q0d : List Nat) (x1 : Nat) : evFn Γ9 8 8 55 (impTs 0 [.agg [.row 1 q00 (.fl .f32 q01), .row 1 q09 (.fl .f32 q0c), .row 1 q08 (.fl .f32 q0d)], .one (.s (.flt .f32 x1))]).1 (impTs 0 [.agg [.row 1 q00 (.fl .f32 q01), .row 1 q09 (.fl .f32 q0c), .row 1 q08 (.fl .f32 q0d)], .one (.s (.flt .f32 x1))]).2 (expo (impTs 0 [.agg [.row 1 q00 (.fl .f32 q01), .row 1 q09 (.fl .f32 q0c), .row 1 q08 (.fl .f32 q0d)], .one (.s (.flt .f32 x1))]).2.length) = z4o q00 q01 q09 q0c q08 q0d x1 (fun c0_ c1_ c2_ c3_ c4_ => some ((AV.tup [(TV.one (At.int IntKind.i64 c0_)), (TV.one (At.int IntKind.i64 c1_)), (TV.one (At.flt FloatKind.f32 c2_)), (TV.one (At.flt FloatKind.f32 c3_)), (TV.one (At.flt FloatKind.f32 c4_))]), [])) := by kernel_rfl
theorem z0z : SumOne Try.prog 55 z17 := sum_of (Γ := Γ9) (fuel := 8) (d := 8) tyTab_ok (FnL.ok fnTab_ok _ _) (LpL.ok lt9_ok) (SumL.ok tb9_ok _) mixed (by
  intro pts v news hp hc
  clear hc
  unfold z17 at hp
  split at hp
  · rename_i q00 q01 q09 q0c q08 q0d x1
    exact Eq.trans (Eq.trans (zc4 q00 q01 q09 q0c q08 q0d x1) (zb3 (zal q00 q01 q09 q0c q08 q0d x1) rfl q00 q01 q09 q0c q08 q0d x1 (fun c0_ c1_ c2_ c3_ c4_ => some (c0_, c1_, c2_, c3_, c4_)))) (fin_out (o := (zal q00 q01 q09 q0c q08 q0d x1)) (x := z3r q00 q01 q09 q0c q08 q0d x1) (d := default) (V := fun r => ((AV.tup [(TV.one (At.int IntKind.i64 r.1)), (TV.one (At.int IntKind.i64 r.2.1)), (TV.one (At.flt FloatKind.f32 r.2.2.1)), (TV.one (At.flt FloatKind.f32 r.2.2.2.1)), (TV.one (At.flt FloatKind.f32 r.2.2.2.2))]), [])) (fun r => rfl) hp)
  · cases hp)
noncomputable def zac (q11 : Nat) (t43 : Int) (t44 : Int) (b0 : List Nat) (b1 : List Nat) (b2 : List Nat) (q0m : Nat) (q0s : Nat) (q0r : Nat) : Bool × LO := ((z4m q11 t43 b0 q0m t44), (LO.two (z4j q11 t43 b0 q0m t44) (LO.one Ex.ret (St.mk [(2, (AV.v (TV.one (At.bool Bool.false))))] [(Blk.mk Bool.false (Body.fl FloatKind.f32 b0)), (Blk.mk Bool.false (Body.fl FloatKind.f32 b1)), (Blk.mk Bool.false (Body.fl FloatKind.f32 b2))])) (LO.one (Ex.exit 0) (St.mk [(1, (AV.v (TV.one (At.ptr 3 0 3)))), (42, (AV.v (TV.one (At.vw 0 0 q11 1)))), (43, (AV.v (TV.one (At.int IntKind.i64 t43)))), (44, (AV.v (TV.one (At.int IntKind.i64 (z7c q11 t43 b0 q0m t44))))), (45, (AV.v (TV.one (At.bool (z7e q11 t43 b0 q0m t44)))))] [(Blk.mk Bool.false (Body.fl FloatKind.f32 b0)), (Blk.mk Bool.false (Body.fl FloatKind.f32 b1)), (Blk.mk Bool.false (Body.fl FloatKind.f32 b2)), (Blk.mk Bool.true (Body.cells [(At.vw 0 0 q0m 1), (At.vw 1 0 q0s 1), (At.vw 2 0 q0r 1)]))]))))
noncomputable def z1e : Nat → St → Option (Bool × LO) := lpT 3 (pSt [(pTm 1 (pV (pOne (pPtr 3 (liN 0) 3)))), (pTm 42 (pV (pOne (pVw 0 (liN 0) 1)))), (pTm 43 (pV (pOne (pInt IntKind.i64)))), (pTm 44 (pV (pOne (pInt IntKind.i64))))] [(pBlk Bool.false (pFl FloatKind.f32)), (pBlk Bool.false (pFl FloatKind.f32)), (pBlk Bool.false (pFl FloatKind.f32)), (pBlk Bool.true (pCells [(pVw 0 (liN 0) 1), (pVw 1 (liN 0) 1), (pVw 2 (liN 0) 1)]))]) (fun hs => zac (hvN (hGet hs 0)) (hvI (hGet hs 1)) (hvI (hGet hs 2)) (hvLn (hGet hs 3)) (hvLn (hGet hs 4)) (hvLn (hGet hs 5)) (hvN (hGet hs 6)) (hvN (hGet hs 7)) (hvN (hGet hs 8)))
def z5c (q11 : Nat) (t43 : Int) (b0 : List Nat) (b1 : List Nat) (b2 : List Nat) (q0m : Nat) (q0s : Nat) (q0r : Nat) : Option ((Unit) ⊕ (Int × Bool)) → Option (Ex × St)
  | none => none
  | some (Sum.inl r) => some (Ex.ret, (St.mk [(2, (AV.v (TV.one (At.bool Bool.false))))] [(Blk.mk Bool.false (Body.fl FloatKind.f32 b0)), (Blk.mk Bool.false (Body.fl FloatKind.f32 b1)), (Blk.mk Bool.false (Body.fl FloatKind.f32 b2))]))
  | some (Sum.inr r) => some ((Ex.exit 0), (St.mk [(1, (AV.v (TV.one (At.ptr 3 0 3)))), (42, (AV.v (TV.one (At.vw 0 0 q11 1)))), (43, (AV.v (TV.one (At.int IntKind.i64 t43)))), (44, (AV.v (TV.one (At.int IntKind.i64 r.1)))), (45, (AV.v (TV.one (At.bool r.2))))] [(Blk.mk Bool.false (Body.fl FloatKind.f32 b0)), (Blk.mk Bool.false (Body.fl FloatKind.f32 b1)), (Blk.mk Bool.false (Body.fl FloatKind.f32 b2)), (Blk.mk Bool.true (Body.cells [(At.vw 0 0 q0m 1), (At.vw 1 0 q0s 1), (At.vw 2 0 q0r 1)]))]))
def zbu (q11 : Nat) (t43 : Int) (b0 : List Nat) (b1 : List Nat) (b2 : List Nat) (q0m : Nat) (q0s : Nat) (q0r : Nat) (x : Option ((Unit) ⊕ (Int × Bool))) : LO := (LO.two (oL x) (LO.one Ex.ret (St.mk [(2, (AV.v (TV.one (At.bool Bool.false))))] [(Blk.mk Bool.false (Body.fl FloatKind.f32 b0)), (Blk.mk Bool.false (Body.fl FloatKind.f32 b1)), (Blk.mk Bool.false (Body.fl FloatKind.f32 b2))])) (LO.one (Ex.exit 0) (St.mk [(1, (AV.v (TV.one (At.ptr 3 0 3)))), (42, (AV.v (TV.one (At.vw 0 0 q11 1)))), (43, (AV.v (TV.one (At.int IntKind.i64 t43)))), (44, (AV.v (TV.one (At.int IntKind.i64 ((tR x).getD default).1)))), (45, (AV.v (TV.one (At.bool ((tR x).getD default).2))))] [(Blk.mk Bool.false (Body.fl FloatKind.f32 b0)), (Blk.mk Bool.false (Body.fl FloatKind.f32 b1)), (Blk.mk Bool.false (Body.fl FloatKind.f32 b2)), (Blk.mk Bool.true (Body.cells [(At.vw 0 0 q0m 1), (At.vw 1 0 q0s 1), (At.vw 2 0 q0r 1)]))])))
theorem zc6 (q11 : Nat) (t43 : Int) (b0 : List Nat) (b1 : List Nat) (b2 : List Nat) (q0m : Nat) (q0s : Nat) (q0r : Nat) : ∀ x : Option ((Unit) ⊕ (Int × Bool)), x.isSome = true → (z5c q11 t43 b0 b1 b2 q0m q0s q0r) x = some (pick (zbu q11 t43 b0 b1 b2 q0m q0s q0r x))
  | none, h => by cases h
  | some (Sum.inl r), _ => rfl
  | some (Sum.inr r), _ => rfl
theorem zc5 (q11 : Nat) (t43 : Int) (t44 : Int) (b0 : List Nat) (b1 : List Nat) (b2 : List Nat) (q0m : Nat) (q0s : Nat) (q0r : Nat) (K : Ex → St → Option (Ex × St)) : evC (R := Ex × St) Γ9 (evFn Γ9 8 8) 53 3 fi53.nt fi53.live fi53.nl 8 (findL 5 (loopsIn fi53.code)) (St.mk [(1, (AV.v (TV.one (At.ptr 3 0 3)))), (42, (AV.v (TV.one (At.vw 0 0 q11 1)))), (43, (AV.v (TV.one (At.int IntKind.i64 t43)))), (44, (AV.v (TV.one (At.int IntKind.i64 t44))))] [(Blk.mk Bool.false (Body.fl FloatKind.f32 b0)), (Blk.mk Bool.false (Body.fl FloatKind.f32 b1)), (Blk.mk Bool.false (Body.fl FloatKind.f32 b2)), (Blk.mk Bool.true (Body.cells [(At.vw 0 0 q0m 1), (At.vw 1 0 q0s 1), (At.vw 2 0 q0r 1)]))]) K = z40 q11 t43 b0 q0m t44 (fun t44' => K .normal (St.mk [(1, (AV.v (TV.one (At.ptr 3 0 3)))), (42, (AV.v (TV.one (At.vw 0 0 q11 1)))), (43, (AV.v (TV.one (At.int IntKind.i64 t43)))), (44, (AV.v (TV.one (At.int IntKind.i64 t44'))))] [(Blk.mk Bool.false (Body.fl FloatKind.f32 b0)), (Blk.mk Bool.false (Body.fl FloatKind.f32 b1)), (Blk.mk Bool.false (Body.fl FloatKind.f32 b2)), (Blk.mk Bool.true (Body.cells [(At.vw 0 0 q0m 1), (At.vw 1 0 q0s 1), (At.vw 2 0 q0r 1)]))])) (fun _ => K Ex.ret (St.mk [(2, (AV.v (TV.one (At.bool Bool.false))))] [(Blk.mk Bool.false (Body.fl FloatKind.f32 b0)), (Blk.mk Bool.false (Body.fl FloatKind.f32 b1)), (Blk.mk Bool.false (Body.fl FloatKind.f32 b2))])) (fun c0_ c1_ => K (Ex.exit 0) (St.mk [(1, (AV.v (TV.one (At.ptr 3 0 3)))), (42, (AV.v (TV.one (At.vw 0 0 q11 1)))), (43, (AV.v (TV.one (At.int IntKind.i64 t43)))), (44, (AV.v (TV.one (At.int IntKind.i64 c0_)))), (45, (AV.v (TV.one (At.bool c1_))))] [(Blk.mk Bool.false (Body.fl FloatKind.f32 b0)), (Blk.mk Bool.false (Body.fl FloatKind.f32 b1)), (Blk.mk Bool.false (Body.fl FloatKind.f32 b2)), (Blk.mk Bool.true (Body.cells [(At.vw 0 0 q0m 1), (At.vw 1 0 q0s 1), (At.vw 2 0 q0r 1)]))])) := by kernel_rfl
theorem zc1 (q11 : Nat) (t43 : Int) (b0 : List Nat) (b1 : List Nat) (b2 : List Nat) (q0m : Nat) (q0s : Nat) (q0r : Nat) : ∀ (n : Nat) (t44 : Int), iter 53 5 3 (evC (R := Ex × St) Γ9 (evFn Γ9 8 8) 53 3 fi53.nt fi53.live fi53.nl 8 (findL 5 (loopsIn fi53.code))) n (St.mk [(1, (AV.v (TV.one (At.ptr 3 0 3)))), (42, (AV.v (TV.one (At.vw 0 0 q11 1)))), (43, (AV.v (TV.one (At.int IntKind.i64 t43)))), (44, (AV.v (TV.one (At.int IntKind.i64 t44))))] [(Blk.mk Bool.false (Body.fl FloatKind.f32 b0)), (Blk.mk Bool.false (Body.fl FloatKind.f32 b1)), (Blk.mk Bool.false (Body.fl FloatKind.f32 b2)), (Blk.mk Bool.true (Body.cells [(At.vw 0 0 q0m 1), (At.vw 1 0 q0s 1), (At.vw 2 0 q0r 1)]))]) (fun e st => some (e, st)) = (z5c q11 t43 b0 b1 b2 q0m q0s q0r) (z39 q11 t43 b0 q0m n t44) := by
  intro n
  induction n with
  | zero => intros; rfl
  | succ n ih =>
    intro t44
    refine Eq.trans (iter_succ ..) (Eq.trans (zc5 q11 t43 t44 b0 b1 b2 q0m q0s q0r (nextK 53 5 3 (evC (R := Ex × St) Γ9 (evFn Γ9 8 8) 53 3 fi53.nt fi53.live fi53.nl 8 (findL 5 (loopsIn fi53.code))) n (fun e st => some (e, st)))) (Eq.trans ?_ (zb2 (z5c q11 t43 b0 b1 b2 q0m q0s q0r) rfl q11 t43 b0 q0m t44 (fun t44' => z39 q11 t43 b0 q0m n t44') (fun _ => some (Sum.inl ())) (fun c0_ c1_ => some (Sum.inr (c0_, c1_))))))
    exact congrArg (fun kn_ => z40 q11 t43 b0 q0m t44 kn_ (fun _ => (z5c q11 t43 b0 b1 b2 q0m q0s q0r) (some (Sum.inl ()))) (fun c0_ c1_ => (z5c q11 t43 b0 b1 b2 q0m q0s q0r) (some (Sum.inr (c0_, c1_))))) (funext fun t44' => ih t44')
theorem z0y : LoopOne Try.prog fnTab 53 5 z1e := lp_of (Γ := Γ9) tyTab_ok (FnL.ok fnTab_ok _ _) (LpL.ok lt9_ok) (SumL.ok tb9_ok _) mixed (fi := fi53) (by kernel_rfl) (by kernel_rfl) (by
  intro lo st out hp
  obtain ⟨hs, e1, e2, e3⟩ := lpT_inv hp
  clear hp
  obtain rfl : st = (St.mk [(1, (AV.v (TV.one (At.ptr 3 0 3)))), (42, (AV.v (TV.one (At.vw 0 0 (hvN (hGet hs 0)) 1)))), (43, (AV.v (TV.one (At.int IntKind.i64 (hvI (hGet hs 1)))))), (44, (AV.v (TV.one (At.int IntKind.i64 (hvI (hGet hs 2))))))] [(Blk.mk Bool.false (Body.fl FloatKind.f32 (hvLn (hGet hs 3)))), (Blk.mk Bool.false (Body.fl FloatKind.f32 (hvLn (hGet hs 4)))), (Blk.mk Bool.false (Body.fl FloatKind.f32 (hvLn (hGet hs 5)))), (Blk.mk Bool.true (Body.cells [(At.vw 0 0 (hvN (hGet hs 6)) 1), (At.vw 1 0 (hvN (hGet hs 7)) 1), (At.vw 2 0 (hvN (hGet hs 8)) 1)]))]) := e2.trans (by kernel_rfl)
  clear e2
  subst e1
  unfold zac at e3
  injection e3 with h1 h2
  subst h2
  exact ⟨8, 8, big, Eq.trans (zc1 (hvN (hGet hs 0)) (hvI (hGet hs 1)) (hvLn (hGet hs 3)) (hvLn (hGet hs 4)) (hvLn (hGet hs 5)) (hvN (hGet hs 6)) (hvN (hGet hs 7)) (hvN (hGet hs 8)) big (hvI (hGet hs 2))) (zc6 (hvN (hGet hs 0)) (hvI (hGet hs 1)) (hvLn (hGet hs 3)) (hvLn (hGet hs 4)) (hvLn (hGet hs 5)) (hvN (hGet hs 6)) (hvN (hGet hs 7)) (hvN (hGet hs 8)) (z39 (hvN (hGet hs 0)) (hvI (hGet hs 1)) (hvLn (hGet hs 3)) (hvN (hGet hs 6)) big (hvI (hGet hs 2))) h1)⟩)
noncomputable def tb10 : List (Nat × (List PT → Option (Bool × AV × List Blk))) := [(125, z1b), (128, z0h), (134, z0r), (137, z1c), (18, z1k), (48, z16), (54, z1w), (61, z1j), (97, z1v), (102, z2o), (109, z1l), (14, z1s), (51, z1r), (56, z28), (103, z20), (111, z27), (118, z10), (52, z1g), (119, z1h), (16, z1z), (57, z1o), (19, z22), (62, z2y), (99, z0a), (49, z2s), (99, z0f), (116, z31), (94, z2r), (98, z29), (117, z07), (117, z0c), (95, z2c), (96, z2k), (50, z2z), (55, z17)]
noncomputable def lt10 : List ((Nat × Nat) × (Nat → St → Option (Bool × LO))) := [((52, 3), z0o), ((57, 4), z0s), ((62, 5), z2b), ((99, 2), z03), ((99, 2), z05), ((50, 4), z2e), ((99, 2), z0d), ((53, 5), z1e)]
noncomputable def Γ10 : Ctx := ⟨tyTab, fnTab, tblSum tb10, tblLp lt10⟩
theorem tb10_ok : SumL Try.prog tb10 := SumL.cons z0p (SumL.cons z0g (SumL.cons z0k (SumL.cons z0q (SumL.cons z0u (SumL.cons z0n (SumL.cons z14 (SumL.cons z0v (SumL.cons z15 (SumL.cons z23 (SumL.cons z0t (SumL.cons z12 (SumL.cons z11 (SumL.cons z1p (SumL.cons z18 (SumL.cons z1n (SumL.cons z0m (SumL.cons z0w (SumL.cons z0x (SumL.cons z1a (SumL.cons z13 (SumL.cons z1i (SumL.cons z2i (SumL.cons z09 (SumL.cons z2d (SumL.cons z0e (SumL.cons z2l (SumL.cons z2a (SumL.cons z1x (SumL.cons z06 (SumL.cons z0b (SumL.cons z21 (SumL.cons z25 (SumL.cons z2m (SumL.cons z0z (SumL.nil)))))))))))))))))))))))))))))))))))
theorem lt10_ok : LpL Try.prog fnTab lt10 := LpL.cons z0i (LpL.cons z0j (LpL.cons z1q (LpL.cons z02 (LpL.cons z04 (LpL.cons z1y (LpL.cons z08 (LpL.cons z0y (LpL.nil))))))))
noncomputable def z24 : List PT → Option (Bool × AV × List Blk)
  | [.agg [.row 1 q00 (.fl .f32 q01), .row 1 q09 (.fl .f32 q0c), .row 1 q08 (.fl .f32 q0d)]] => some ((z7y q00 q01 q09 q0c q08 q0d), ((AV.v (TV.one (At.bool (z7g q00 q01 q09 q0c q08 q0d)))), []))
  | _ => none
def zay (q00 : Nat) (q01 : List Nat) (q09 : Nat) (q0c : List Nat) (q08 : Nat) (q0d : List Nat) : Option (Bool) → Option (AV × List Blk)
  | some r => some ((AV.v (TV.one (At.bool r))), [])
  | none => none
theorem zdb (q00 : Nat) (q01 : List Nat) (q09 : Nat) (q0c : List Nat) (q08 : Nat) (q0d : List Nat) : evFn Γ10 8 8 53 (impTs 0 [.agg [.row 1 q00 (.fl .f32 q01), .row 1 q09 (.fl .f32 q0c), .row 1 q08 (.fl .f32 q0d)]]).1 (impTs 0 [.agg [.row 1 q00 (.fl .f32 q01), .row 1 q09 (.fl .f32 q0c), .row 1 q08 (.fl .f32 q0d)]]).2 (expo (impTs 0 [.agg [.row 1 q00 (.fl .f32 q01), .row 1 q09 (.fl .f32 q0c), .row 1 q08 (.fl .f32 q0d)]]).2.length) = z5a q00 q01 q09 q0c q08 q0d (fun c0_ => some ((AV.v (TV.one (At.bool c0_))), [])) := by kernel_rfl
theorem z1u : SumOne Try.prog 53 z24 := sum_of (Γ := Γ10) (fuel := 8) (d := 8) tyTab_ok (FnL.ok fnTab_ok _ _) (LpL.ok lt10_ok) (SumL.ok tb10_ok _) mixed (by
  intro pts v news hp hc
  clear hc
  unfold z24 at hp
  split at hp
  · rename_i q00 q01 q09 q0c q08 q0d
    exact Eq.trans (Eq.trans (zdb q00 q01 q09 q0c q08 q0d) (zbt (zay q00 q01 q09 q0c q08 q0d) rfl q00 q01 q09 q0c q08 q0d (fun c0_ => some c0_))) (fin_out (o := (zay q00 q01 q09 q0c q08 q0d)) (x := z59 q00 q01 q09 q0c q08 q0d) (d := default) (V := fun r => ((AV.v (TV.one (At.bool r))), [])) (fun r => rfl) hp)
  · cases hp)
noncomputable def z2j : List PT → Option (Bool × AV × List Blk)
  | [.agg [.row 1 q02 (.fl .f32 q0a), .row 1 q03 (.fl .f32 q0b), .row 1 q04 (.fl .f32 q0e)], .one (.row 1 q0q (.fl .f32 q0u)), .one (.s (.flt .f32 q0f))] => some ((z8w q02 q0a q03 q0b q04 q0e q0q q0u q0f), ((AV.v (TV.one (At.flt FloatKind.f32 (z5n q02 q0a q03 q0b q04 q0e q0q q0u q0f)))), []))
  | _ => none
def zb5 (q02 : Nat) (q0a : List Nat) (q03 : Nat) (q0b : List Nat) (q04 : Nat) (q0e : List Nat) (q0q : Nat) (q0u : List Nat) (q0f : Nat) : Option (Nat) → Option (AV × List Blk)
  | some r => some ((AV.v (TV.one (At.flt FloatKind.f32 r))), [])
  | none => none
theorem ze5 (q02 : Nat) (q0a : List Nat) (q03 : Nat) (q0b : List Nat) (q04 : Nat) (q0e : List Nat) (q0q : Nat) (q0u : List Nat) (q0f : Nat) : evFn Γ10 8 8 59 (impTs 0 [.agg [.row 1 q02 (.fl .f32 q0a), .row 1 q03 (.fl .f32 q0b), .row 1 q04 (.fl .f32 q0e)], .one (.row 1 q0q (.fl .f32 q0u)), .one (.s (.flt .f32 q0f))]).1 (impTs 0 [.agg [.row 1 q02 (.fl .f32 q0a), .row 1 q03 (.fl .f32 q0b), .row 1 q04 (.fl .f32 q0e)], .one (.row 1 q0q (.fl .f32 q0u)), .one (.s (.flt .f32 q0f))]).2 (expo (impTs 0 [.agg [.row 1 q02 (.fl .f32 q0a), .row 1 q03 (.fl .f32 q0b), .row 1 q04 (.fl .f32 q0e)], .one (.row 1 q0q (.fl .f32 q0u)), .one (.s (.flt .f32 q0f))]).2.length) = z63 q02 q0a q03 q0b q04 q0e q0q q0u q0f (fun c0_ => some ((AV.v (TV.one (At.flt FloatKind.f32 c0_))), [])) := by kernel_rfl
theorem z26 : SumOne Try.prog 59 z2j := sum_of (Γ := Γ10) (fuel := 8) (d := 8) tyTab_ok (FnL.ok fnTab_ok _ _) (LpL.ok lt10_ok) (SumL.ok tb10_ok _) mixed (by
  intro pts v news hp hc
  clear hc
  unfold z2j at hp
  split at hp
  · rename_i q02 q0a q03 q0b q04 q0e q0q q0u q0f
    exact Eq.trans (Eq.trans (ze5 q02 q0a q03 q0b q04 q0e q0q q0u q0f) (zcf (zb5 q02 q0a q03 q0b q04 q0e q0q q0u q0f) rfl q02 q0a q03 q0b q04 q0e q0q q0u q0f (fun c0_ => some c0_))) (fin_out (o := (zb5 q02 q0a q03 q0b q04 q0e q0q q0u q0f)) (x := z5y q02 q0a q03 q0b q04 q0e q0q q0u q0f) (d := default) (V := fun r => ((AV.v (TV.one (At.flt FloatKind.f32 r))), [])) (fun r => rfl) hp)
  · cases hp)
noncomputable def z36 : List PT → Option (Bool × AV × List Blk)
  | [.ptr [.row 1 q02 (.fl .f32 q0a), .row 1 q03 (.fl .f32 q0b), .row 1 q04 (.fl .f32 q0e)], .one (.row 1 q0q (.fl .f32 q0u)), .one (.s (.flt .f32 q0f))] => some ((zas q02 q0a q03 q0b q04 q0e q0q q0u q0f), ((AV.v (TV.one (At.flt FloatKind.f32 (zar q02 q0a q03 q0b q04 q0e q0q q0u q0f)))), []))
  | _ => none
def zdo (q02 : Nat) (q0a : List Nat) (q03 : Nat) (q0b : List Nat) (q04 : Nat) (q0e : List Nat) (q0q : Nat) (q0u : List Nat) (q0f : Nat) : Option (Nat) → Option (AV × List Blk)
  | some r => some ((AV.v (TV.one (At.flt FloatKind.f32 r))), [])
  | none => none
theorem zfh (q02 : Nat) (q0a : List Nat) (q03 : Nat) (q0b : List Nat) (q04 : Nat) (q0e : List Nat) (q0q : Nat) (q0u : List Nat) (q0f : Nat) : evFn Γ10 8 8 101 (impTs 0 [.ptr [.row 1 q02 (.fl .f32 q0a), .row 1 q03 (.fl .f32 q0b), .row 1 q04 (.fl .f32 q0e)], .one (.row 1 q0q (.fl .f32 q0u)), .one (.s (.flt .f32 q0f))]).1 (impTs 0 [.ptr [.row 1 q02 (.fl .f32 q0a), .row 1 q03 (.fl .f32 q0b), .row 1 q04 (.fl .f32 q0e)], .one (.row 1 q0q (.fl .f32 q0u)), .one (.s (.flt .f32 q0f))]).2 (expo (impTs 0 [.ptr [.row 1 q02 (.fl .f32 q0a), .row 1 q03 (.fl .f32 q0b), .row 1 q04 (.fl .f32 q0e)], .one (.row 1 q0q (.fl .f32 q0u)), .one (.s (.flt .f32 q0f))]).2.length) = z92 q02 q0a q03 q0b q04 q0e q0q q0u q0f (fun c0_ => some ((AV.v (TV.one (At.flt FloatKind.f32 c0_))), [])) := by kernel_rfl
theorem z32 : SumOne Try.prog 101 z36 := sum_of (Γ := Γ10) (fuel := 8) (d := 8) tyTab_ok (FnL.ok fnTab_ok _ _) (LpL.ok lt10_ok) (SumL.ok tb10_ok _) mixed (by
  intro pts v news hp hc
  clear hc
  unfold z36 at hp
  split at hp
  · rename_i q02 q0a q03 q0b q04 q0e q0q q0u q0f
    exact Eq.trans (Eq.trans (zfh q02 q0a q03 q0b q04 q0e q0q q0u q0f) (zee (zdo q02 q0a q03 q0b q04 q0e q0q q0u q0f) rfl q02 q0a q03 q0b q04 q0e q0q q0u q0f (fun c0_ => some c0_))) (fin_out (o := (zdo q02 q0a q03 q0b q04 q0e q0q q0u q0f)) (x := z9b q02 q0a q03 q0b q04 q0e q0q q0u q0f) (d := default) (V := fun r => ((AV.v (TV.one (At.flt FloatKind.f32 r))), [])) (fun r => rfl) hp)
  · cases hp)
noncomputable def tb11 : List (Nat × (List PT → Option (Bool × AV × List Blk))) := [(125, z1b), (128, z0h), (134, z0r), (137, z1c), (18, z1k), (48, z16), (54, z1w), (61, z1j), (97, z1v), (102, z2o), (109, z1l), (14, z1s), (51, z1r), (56, z28), (103, z20), (111, z27), (118, z10), (52, z1g), (119, z1h), (16, z1z), (57, z1o), (19, z22), (62, z2y), (99, z0a), (49, z2s), (99, z0f), (116, z31), (94, z2r), (98, z29), (117, z07), (117, z0c), (95, z2c), (96, z2k), (50, z2z), (55, z17), (53, z24), (59, z2j), (101, z36)]
noncomputable def lt11 : List ((Nat × Nat) × (Nat → St → Option (Bool × LO))) := [((52, 3), z0o), ((57, 4), z0s), ((62, 5), z2b), ((99, 2), z03), ((99, 2), z05), ((50, 4), z2e), ((99, 2), z0d), ((53, 5), z1e)]
noncomputable def Γ11 : Ctx := ⟨tyTab, fnTab, tblSum tb11, tblLp lt11⟩
theorem tb11_ok : SumL Try.prog tb11 := SumL.cons z0p (SumL.cons z0g (SumL.cons z0k (SumL.cons z0q (SumL.cons z0u (SumL.cons z0n (SumL.cons z14 (SumL.cons z0v (SumL.cons z15 (SumL.cons z23 (SumL.cons z0t (SumL.cons z12 (SumL.cons z11 (SumL.cons z1p (SumL.cons z18 (SumL.cons z1n (SumL.cons z0m (SumL.cons z0w (SumL.cons z0x (SumL.cons z1a (SumL.cons z13 (SumL.cons z1i (SumL.cons z2i (SumL.cons z09 (SumL.cons z2d (SumL.cons z0e (SumL.cons z2l (SumL.cons z2a (SumL.cons z1x (SumL.cons z06 (SumL.cons z0b (SumL.cons z21 (SumL.cons z25 (SumL.cons z2m (SumL.cons z0z (SumL.cons z1u (SumL.cons z26 (SumL.cons z32 (SumL.nil))))))))))))))))))))))))))))))))))))))
theorem lt11_ok : LpL Try.prog fnTab lt11 := LpL.cons z0i (LpL.cons z0j (LpL.cons z1q (LpL.cons z02 (LpL.cons z04 (LpL.cons z1y (LpL.cons z08 (LpL.cons z0y (LpL.nil))))))))
noncomputable def z34 : List PT → Option (Bool × AV × List Blk)
  | [.agg [.row 1 q02 (.fl .f32 q0a), .row 1 q03 (.fl .f32 q0b), .row 1 q04 (.fl .f32 q0e)], .one (.s (.flt .f32 q0f))] => some ((zaq q02 q0a q03 q0b q04 q0e q0f), ((AV.tup [(TV.one (At.flt FloatKind.f32 (z52 q02 q0a q03 q0b q04 q0e q0f))), (TV.one (At.bool (zae q02 q0a q03 q0b q04 q0e q0f)))]), []))
  | _ => none
def zd2 (q02 : Nat) (q0a : List Nat) (q03 : Nat) (q0b : List Nat) (q04 : Nat) (q0e : List Nat) (q0f : Nat) : Option (Nat × Bool) → Option (AV × List Blk)
  | some r => some ((AV.tup [(TV.one (At.flt FloatKind.f32 r.1)), (TV.one (At.bool r.2))]), [])
  | none => none
theorem zfb (q02 : Nat) (q0a : List Nat) (q03 : Nat) (q0b : List Nat) (q04 : Nat) (q0e : List Nat) (q0f : Nat) : evFn Γ11 8 8 23 (impTs 0 [.agg [.row 1 q02 (.fl .f32 q0a), .row 1 q03 (.fl .f32 q0b), .row 1 q04 (.fl .f32 q0e)], .one (.s (.flt .f32 q0f))]).1 (impTs 0 [.agg [.row 1 q02 (.fl .f32 q0a), .row 1 q03 (.fl .f32 q0b), .row 1 q04 (.fl .f32 q0e)], .one (.s (.flt .f32 q0f))]).2 (expo (impTs 0 [.agg [.row 1 q02 (.fl .f32 q0a), .row 1 q03 (.fl .f32 q0b), .row 1 q04 (.fl .f32 q0e)], .one (.s (.flt .f32 q0f))]).2.length) = z8b q02 q0a q03 q0b q04 q0e q0f (fun c0_ c1_ => some ((AV.tup [(TV.one (At.flt FloatKind.f32 c0_)), (TV.one (At.bool c1_))]), [])) := by kernel_rfl
theorem z30 : SumOne Try.prog 23 z34 := sum_of (Γ := Γ11) (fuel := 8) (d := 8) tyTab_ok (FnL.ok fnTab_ok _ _) (LpL.ok lt11_ok) (SumL.ok tb11_ok _) mixed (by
  intro pts v news hp hc
  clear hc
  unfold z34 at hp
  split at hp
  · rename_i q02 q0a q03 q0b q04 q0e q0f
    exact Eq.trans (Eq.trans (zfb q02 q0a q03 q0b q04 q0e q0f) (ze8 (zd2 q02 q0a q03 q0b q04 q0e q0f) rfl q02 q0a q03 q0b q04 q0e q0f (fun c0_ c1_ => some (c0_, c1_)))) (fin_out (o := (zd2 q02 q0a q03 q0b q04 q0e q0f)) (x := z72 q02 q0a q03 q0b q04 q0e q0f) (d := default) (V := fun r => ((AV.tup [(TV.one (At.flt FloatKind.f32 r.1)), (TV.one (At.bool r.2))]), [])) (fun r => rfl) hp)
  · cases hp)
noncomputable def z33 : List PT → Option (Bool × AV × List Blk)
  | [.ptr [.row 1 q02 (.fl .f32 q0a), .row 1 q03 (.fl .f32 q0b), .row 1 q04 (.fl .f32 q0e)], .one (.s (.flt .f32 q0f))] => some ((zaf q02 q0a q03 q0b q04 q0e q0f), ((AV.v (TV.one (At.flt FloatKind.f32 (z4w q02 q0a q03 q0b q04 q0e q0f)))), []))
  | _ => none
def zca (q02 : Nat) (q0a : List Nat) (q03 : Nat) (q0b : List Nat) (q04 : Nat) (q0e : List Nat) (q0f : Nat) : Option (Nat) → Option (AV × List Blk)
  | some r => some ((AV.v (TV.one (At.flt FloatKind.f32 r))), [])
  | none => none
theorem zf8 (q02 : Nat) (q0a : List Nat) (q03 : Nat) (q0b : List Nat) (q04 : Nat) (q0e : List Nat) (q0f : Nat) : evFn Γ11 8 8 60 (impTs 0 [.ptr [.row 1 q02 (.fl .f32 q0a), .row 1 q03 (.fl .f32 q0b), .row 1 q04 (.fl .f32 q0e)], .one (.s (.flt .f32 q0f))]).1 (impTs 0 [.ptr [.row 1 q02 (.fl .f32 q0a), .row 1 q03 (.fl .f32 q0b), .row 1 q04 (.fl .f32 q0e)], .one (.s (.flt .f32 q0f))]).2 (expo (impTs 0 [.ptr [.row 1 q02 (.fl .f32 q0a), .row 1 q03 (.fl .f32 q0b), .row 1 q04 (.fl .f32 q0e)], .one (.s (.flt .f32 q0f))]).2.length) = z7n q02 q0a q03 q0b q04 q0e q0f (fun c0_ => some ((AV.v (TV.one (At.flt FloatKind.f32 c0_))), [])) := by kernel_rfl
theorem z2t : SumOne Try.prog 60 z33 := sum_of (Γ := Γ11) (fuel := 8) (d := 8) tyTab_ok (FnL.ok fnTab_ok _ _) (LpL.ok lt11_ok) (SumL.ok tb11_ok _) mixed (by
  intro pts v news hp hc
  clear hc
  unfold z33 at hp
  split at hp
  · rename_i q02 q0a q03 q0b q04 q0e q0f
    exact Eq.trans (Eq.trans (zf8 q02 q0a q03 q0b q04 q0e q0f) (zde (zca q02 q0a q03 q0b q04 q0e q0f) rfl q02 q0a q03 q0b q04 q0e q0f (fun c0_ => some c0_))) (fin_out (o := (zca q02 q0a q03 q0b q04 q0e q0f)) (x := z7h q02 q0a q03 q0b q04 q0e q0f) (d := default) (V := fun r => ((AV.v (TV.one (At.flt FloatKind.f32 r))), [])) (fun r => rfl) hp)
  · cases hp)
noncomputable def tb12 : List (Nat × (List PT → Option (Bool × AV × List Blk))) := [(125, z1b), (128, z0h), (134, z0r), (137, z1c), (18, z1k), (48, z16), (54, z1w), (61, z1j), (97, z1v), (102, z2o), (109, z1l), (14, z1s), (51, z1r), (56, z28), (103, z20), (111, z27), (118, z10), (52, z1g), (119, z1h), (16, z1z), (57, z1o), (19, z22), (62, z2y), (99, z0a), (49, z2s), (99, z0f), (116, z31), (94, z2r), (98, z29), (117, z07), (117, z0c), (95, z2c), (96, z2k), (50, z2z), (55, z17), (53, z24), (59, z2j), (101, z36), (23, z34), (60, z33)]
noncomputable def lt12 : List ((Nat × Nat) × (Nat → St → Option (Bool × LO))) := [((52, 3), z0o), ((57, 4), z0s), ((62, 5), z2b), ((99, 2), z03), ((99, 2), z05), ((50, 4), z2e), ((99, 2), z0d), ((53, 5), z1e)]
noncomputable def Γ12 : Ctx := ⟨tyTab, fnTab, tblSum tb12, tblLp lt12⟩
theorem tb12_ok : SumL Try.prog tb12 := SumL.cons z0p (SumL.cons z0g (SumL.cons z0k (SumL.cons z0q (SumL.cons z0u (SumL.cons z0n (SumL.cons z14 (SumL.cons z0v (SumL.cons z15 (SumL.cons z23 (SumL.cons z0t (SumL.cons z12 (SumL.cons z11 (SumL.cons z1p (SumL.cons z18 (SumL.cons z1n (SumL.cons z0m (SumL.cons z0w (SumL.cons z0x (SumL.cons z1a (SumL.cons z13 (SumL.cons z1i (SumL.cons z2i (SumL.cons z09 (SumL.cons z2d (SumL.cons z0e (SumL.cons z2l (SumL.cons z2a (SumL.cons z1x (SumL.cons z06 (SumL.cons z0b (SumL.cons z21 (SumL.cons z25 (SumL.cons z2m (SumL.cons z0z (SumL.cons z1u (SumL.cons z26 (SumL.cons z32 (SumL.cons z30 (SumL.cons z2t (SumL.nil))))))))))))))))))))))))))))))))))))))))
theorem lt12_ok : LpL Try.prog fnTab lt12 := LpL.cons z0i (LpL.cons z0j (LpL.cons z1q (LpL.cons z02 (LpL.cons z04 (LpL.cons z1y (LpL.cons z08 (LpL.cons z0y (LpL.nil))))))))
noncomputable def z2v : List PT → Option (Bool × AV × List Blk)
  | [.agg [.row 1 q02 (.fl .f32 q0a), .row 1 q03 (.fl .f32 q0b), .row 1 q04 (.fl .f32 q0e)], .one (.s (.flt .f32 q0f)), .one (.s (.flt .f32 q0t)), .one (.s (.bool q0v))] => some ((z9k q02 q0a q03 q0b q04 q0e q0f q0t q0v), ((AV.tup [(TV.one (At.flt FloatKind.f32 (z74 q02 q0a q03 q0b q04 q0e q0f q0t q0v))), (TV.one (At.bool (z8z q02 q0a q03 q0b q04 q0e q0f q0t q0v)))]), []))
  | _ => none
def zbk (q02 : Nat) (q0a : List Nat) (q03 : Nat) (q0b : List Nat) (q04 : Nat) (q0e : List Nat) (q0f : Nat) (q0t : Nat) (q0v : Bool) : Option (Nat × Bool) → Option (AV × List Blk)
  | some r => some ((AV.tup [(TV.one (At.flt FloatKind.f32 r.1)), (TV.one (At.bool r.2))]), [])
  | none => none
theorem zea (q02 : Nat) (q0a : List Nat) (q03 : Nat) (q0b : List Nat) (q04 : Nat) (q0e : List Nat) (q0f : Nat) (q0t : Nat) (q0v : Bool) : evFn Γ12 8 8 24 (impTs 0 [.agg [.row 1 q02 (.fl .f32 q0a), .row 1 q03 (.fl .f32 q0b), .row 1 q04 (.fl .f32 q0e)], .one (.s (.flt .f32 q0f)), .one (.s (.flt .f32 q0t)), .one (.s (.bool q0v))]).1 (impTs 0 [.agg [.row 1 q02 (.fl .f32 q0a), .row 1 q03 (.fl .f32 q0b), .row 1 q04 (.fl .f32 q0e)], .one (.s (.flt .f32 q0f)), .one (.s (.flt .f32 q0t)), .one (.s (.bool q0v))]).2 (expo (impTs 0 [.agg [.row 1 q02 (.fl .f32 q0a), .row 1 q03 (.fl .f32 q0b), .row 1 q04 (.fl .f32 q0e)], .one (.s (.flt .f32 q0f)), .one (.s (.flt .f32 q0t)), .one (.s (.bool q0v))]).2.length) = z6k q02 q0a q03 q0b q04 q0e q0f q0t q0v (fun c0_ c1_ => some ((AV.tup [(TV.one (At.flt FloatKind.f32 c0_)), (TV.one (At.bool c1_))]), [])) := by kernel_rfl
theorem z2p : SumOne Try.prog 24 z2v := sum_of (Γ := Γ12) (fuel := 8) (d := 8) tyTab_ok (FnL.ok fnTab_ok _ _) (LpL.ok lt12_ok) (SumL.ok tb12_ok _) mixed (by
  intro pts v news hp hc
  clear hc
  unfold z2v at hp
  split at hp
  · rename_i q02 q0a q03 q0b q04 q0e q0f q0t q0v
    exact Eq.trans (Eq.trans (zea q02 q0a q03 q0b q04 q0e q0f q0t q0v) (zcv (zbk q02 q0a q03 q0b q04 q0e q0f q0t q0v) rfl q02 q0a q03 q0b q04 q0e q0f q0t q0v (fun c0_ c1_ => some (c0_, c1_)))) (fin_out (o := (zbk q02 q0a q03 q0b q04 q0e q0f q0t q0v)) (x := z5g q02 q0a q03 q0b q04 q0e q0f q0t q0v) (d := default) (V := fun r => ((AV.tup [(TV.one (At.flt FloatKind.f32 r.1)), (TV.one (At.bool r.2))]), [])) (fun r => rfl) hp)
  · cases hp)
noncomputable def z2w : List PT → Option (Bool × AV × List Blk)
  | [.agg [.row 1 q02 (.fl .f32 q0a), .row 1 q03 (.fl .f32 q0b), .row 1 q04 (.fl .f32 q0e)], .one (.s (.flt .f32 q0f)), .one (.s (.flt .f32 q0t)), .one (.s (.bool q0v))] => some ((z9r q02 q0a q03 q0b q04 q0e q0f q0t q0v), ((AV.tup [(TV.one (At.flt FloatKind.f32 (z76 q02 q0a q03 q0b q04 q0e q0f q0t q0v))), (TV.one (At.bool (z8x q02 q0a q03 q0b q04 q0e q0f q0t q0v)))]), []))
  | _ => none
def zbr (q02 : Nat) (q0a : List Nat) (q03 : Nat) (q0b : List Nat) (q04 : Nat) (q0e : List Nat) (q0f : Nat) (q0t : Nat) (q0v : Bool) : Option (Nat × Bool) → Option (AV × List Blk)
  | some r => some ((AV.tup [(TV.one (At.flt FloatKind.f32 r.1)), (TV.one (At.bool r.2))]), [])
  | none => none
theorem zeh (q02 : Nat) (q0a : List Nat) (q03 : Nat) (q0b : List Nat) (q04 : Nat) (q0e : List Nat) (q0f : Nat) (q0t : Nat) (q0v : Bool) : evFn Γ12 8 8 25 (impTs 0 [.agg [.row 1 q02 (.fl .f32 q0a), .row 1 q03 (.fl .f32 q0b), .row 1 q04 (.fl .f32 q0e)], .one (.s (.flt .f32 q0f)), .one (.s (.flt .f32 q0t)), .one (.s (.bool q0v))]).1 (impTs 0 [.agg [.row 1 q02 (.fl .f32 q0a), .row 1 q03 (.fl .f32 q0b), .row 1 q04 (.fl .f32 q0e)], .one (.s (.flt .f32 q0f)), .one (.s (.flt .f32 q0t)), .one (.s (.bool q0v))]).2 (expo (impTs 0 [.agg [.row 1 q02 (.fl .f32 q0a), .row 1 q03 (.fl .f32 q0b), .row 1 q04 (.fl .f32 q0e)], .one (.s (.flt .f32 q0f)), .one (.s (.flt .f32 q0t)), .one (.s (.bool q0v))]).2.length) = z6j q02 q0a q03 q0b q04 q0e q0f q0t q0v (fun c0_ c1_ => some ((AV.tup [(TV.one (At.flt FloatKind.f32 c0_)), (TV.one (At.bool c1_))]), [])) := by kernel_rfl
theorem z2n : SumOne Try.prog 25 z2w := sum_of (Γ := Γ12) (fuel := 8) (d := 8) tyTab_ok (FnL.ok fnTab_ok _ _) (LpL.ok lt12_ok) (SumL.ok tb12_ok _) mixed (by
  intro pts v news hp hc
  clear hc
  unfold z2w at hp
  split at hp
  · rename_i q02 q0a q03 q0b q04 q0e q0f q0t q0v
    exact Eq.trans (Eq.trans (zeh q02 q0a q03 q0b q04 q0e q0f q0t q0v) (zcx (zbr q02 q0a q03 q0b q04 q0e q0f q0t q0v) rfl q02 q0a q03 q0b q04 q0e q0f q0t q0v (fun c0_ c1_ => some (c0_, c1_)))) (fin_out (o := (zbr q02 q0a q03 q0b q04 q0e q0f q0t q0v)) (x := z5f q02 q0a q03 q0b q04 q0e q0f q0t q0v) (d := default) (V := fun r => ((AV.tup [(TV.one (At.flt FloatKind.f32 r.1)), (TV.one (At.bool r.2))]), [])) (fun r => rfl) hp)
  · cases hp)
noncomputable def tb13 : List (Nat × (List PT → Option (Bool × AV × List Blk))) := [(125, z1b), (128, z0h), (134, z0r), (137, z1c), (18, z1k), (48, z16), (54, z1w), (61, z1j), (97, z1v), (102, z2o), (109, z1l), (14, z1s), (51, z1r), (56, z28), (103, z20), (111, z27), (118, z10), (52, z1g), (119, z1h), (16, z1z), (57, z1o), (19, z22), (62, z2y), (99, z0a), (49, z2s), (99, z0f), (116, z31), (94, z2r), (98, z29), (117, z07), (117, z0c), (95, z2c), (96, z2k), (50, z2z), (55, z17), (53, z24), (59, z2j), (101, z36), (23, z34), (60, z33), (24, z2v), (25, z2w)]
noncomputable def lt13 : List ((Nat × Nat) × (Nat → St → Option (Bool × LO))) := [((52, 3), z0o), ((57, 4), z0s), ((62, 5), z2b), ((99, 2), z03), ((99, 2), z05), ((50, 4), z2e), ((99, 2), z0d), ((53, 5), z1e)]
noncomputable def Γ13 : Ctx := ⟨tyTab, fnTab, tblSum tb13, tblLp lt13⟩
theorem tb13_ok : SumL Try.prog tb13 := SumL.cons z0p (SumL.cons z0g (SumL.cons z0k (SumL.cons z0q (SumL.cons z0u (SumL.cons z0n (SumL.cons z14 (SumL.cons z0v (SumL.cons z15 (SumL.cons z23 (SumL.cons z0t (SumL.cons z12 (SumL.cons z11 (SumL.cons z1p (SumL.cons z18 (SumL.cons z1n (SumL.cons z0m (SumL.cons z0w (SumL.cons z0x (SumL.cons z1a (SumL.cons z13 (SumL.cons z1i (SumL.cons z2i (SumL.cons z09 (SumL.cons z2d (SumL.cons z0e (SumL.cons z2l (SumL.cons z2a (SumL.cons z1x (SumL.cons z06 (SumL.cons z0b (SumL.cons z21 (SumL.cons z25 (SumL.cons z2m (SumL.cons z0z (SumL.cons z1u (SumL.cons z26 (SumL.cons z32 (SumL.cons z30 (SumL.cons z2t (SumL.cons z2p (SumL.cons z2n (SumL.nil))))))))))))))))))))))))))))))))))))))))))
theorem lt13_ok : LpL Try.prog fnTab lt13 := LpL.cons z0i (LpL.cons z0j (LpL.cons z1q (LpL.cons z02 (LpL.cons z04 (LpL.cons z1y (LpL.cons z08 (LpL.cons z0y (LpL.nil))))))))
noncomputable def z1m : List PT → Option (Bool × AV × List Blk)
  | [.agg [.row 1 q05 (.fl .f32 q0h), .row 1 q07 (.fl .f32 q0k), .row 1 q06 (.fl .f32 q0j)], .one (.s (.flt .f32 q14)), .one (.s (.flt .f32 q12)), .one (.s (.bool q13))] => some ((z89 q05 q0h q07 q0k q06 q0j q14 q12 q13), ((AV.v (TV.one (At.bool (z7t q05 q0h q07 q0k q06 q0j q14 q12 q13)))), []))
  | _ => none
def zaj (q05 : Nat) (q0h : List Nat) (q07 : Nat) (q0k : List Nat) (q06 : Nat) (q0j : List Nat) (q14 : Nat) (q12 : Nat) (q13 : Bool) : Option (Bool) → Option (AV × List Blk)
  | some r => some ((AV.v (TV.one (At.bool r))), [])
  | none => none
theorem zbs (q05 : Nat) (q0h : List Nat) (q07 : Nat) (q0k : List Nat) (q06 : Nat) (q0j : List Nat) (q14 : Nat) (q12 : Nat) (q13 : Bool) : evFn Γ13 8 8 6 (impTs 0 [.agg [.row 1 q05 (.fl .f32 q0h), .row 1 q07 (.fl .f32 q0k), .row 1 q06 (.fl .f32 q0j)], .one (.s (.flt .f32 q14)), .one (.s (.flt .f32 q12)), .one (.s (.bool q13))]).1 (impTs 0 [.agg [.row 1 q05 (.fl .f32 q0h), .row 1 q07 (.fl .f32 q0k), .row 1 q06 (.fl .f32 q0j)], .one (.s (.flt .f32 q14)), .one (.s (.flt .f32 q12)), .one (.s (.bool q13))]).2 (expo (impTs 0 [.agg [.row 1 q05 (.fl .f32 q0h), .row 1 q07 (.fl .f32 q0k), .row 1 q06 (.fl .f32 q0j)], .one (.s (.flt .f32 q14)), .one (.s (.flt .f32 q12)), .one (.s (.bool q13))]).2.length) = z4s q05 q0h q07 q0k q06 q0j q14 q12 q13 (fun c0_ => some ((AV.v (TV.one (At.bool c0_))), [])) := by kernel_rfl
theorem z1d : SumOne Try.prog 6 z1m := sum_of (Γ := Γ13) (fuel := 8) (d := 8) tyTab_ok (FnL.ok fnTab_ok _ _) (LpL.ok lt13_ok) (SumL.ok tb13_ok _) mixed (by
  intro pts v news hp hc
  clear hc
  unfold z1m at hp
  split at hp
  · rename_i q05 q0h q07 q0k q06 q0j q14 q12 q13
    exact Eq.trans (Eq.trans (zbs q05 q0h q07 q0k q06 q0j q14 q12 q13) (zb1 (zaj q05 q0h q07 q0k q06 q0j q14 q12 q13) rfl q05 q0h q07 q0k q06 q0j q14 q12 q13 (fun c0_ => some c0_))) (fin_out (o := (zaj q05 q0h q07 q0k q06 q0j q14 q12 q13)) (x := z4t q05 q0h q07 q0k q06 q0j q14 q12 q13) (d := default) (V := fun r => ((AV.v (TV.one (At.bool r))), [])) (fun r => rfl) hp)
  · cases hp)
noncomputable def tb14 : List (Nat × (List PT → Option (Bool × AV × List Blk))) := [(125, z1b), (128, z0h), (134, z0r), (137, z1c), (18, z1k), (48, z16), (54, z1w), (61, z1j), (97, z1v), (102, z2o), (109, z1l), (14, z1s), (51, z1r), (56, z28), (103, z20), (111, z27), (118, z10), (52, z1g), (119, z1h), (16, z1z), (57, z1o), (19, z22), (62, z2y), (99, z0a), (49, z2s), (99, z0f), (116, z31), (94, z2r), (98, z29), (117, z07), (117, z0c), (95, z2c), (96, z2k), (50, z2z), (55, z17), (53, z24), (59, z2j), (101, z36), (23, z34), (60, z33), (24, z2v), (25, z2w), (6, z1m)]
noncomputable def lt14 : List ((Nat × Nat) × (Nat → St → Option (Bool × LO))) := [((52, 3), z0o), ((57, 4), z0s), ((62, 5), z2b), ((99, 2), z03), ((99, 2), z05), ((50, 4), z2e), ((99, 2), z0d), ((53, 5), z1e)]
noncomputable def Γ14 : Ctx := ⟨tyTab, fnTab, tblSum tb14, tblLp lt14⟩
theorem tb14_ok : SumL Try.prog tb14 := SumL.cons z0p (SumL.cons z0g (SumL.cons z0k (SumL.cons z0q (SumL.cons z0u (SumL.cons z0n (SumL.cons z14 (SumL.cons z0v (SumL.cons z15 (SumL.cons z23 (SumL.cons z0t (SumL.cons z12 (SumL.cons z11 (SumL.cons z1p (SumL.cons z18 (SumL.cons z1n (SumL.cons z0m (SumL.cons z0w (SumL.cons z0x (SumL.cons z1a (SumL.cons z13 (SumL.cons z1i (SumL.cons z2i (SumL.cons z09 (SumL.cons z2d (SumL.cons z0e (SumL.cons z2l (SumL.cons z2a (SumL.cons z1x (SumL.cons z06 (SumL.cons z0b (SumL.cons z21 (SumL.cons z25 (SumL.cons z2m (SumL.cons z0z (SumL.cons z1u (SumL.cons z26 (SumL.cons z32 (SumL.cons z30 (SumL.cons z2t (SumL.cons z2p (SumL.cons z2n (SumL.cons z1d (SumL.nil)))))))))))))))))))))))))))))))))))))))))))
theorem lt14_ok : LpL Try.prog fnTab lt14 := LpL.cons z0i (LpL.cons z0j (LpL.cons z1q (LpL.cons z02 (LpL.cons z04 (LpL.cons z1y (LpL.cons z08 (LpL.cons z0y (LpL.nil))))))))
noncomputable def tb15 : List (Nat × (List PT → Option (Bool × AV × List Blk))) := [(125, z1b), (128, z0h), (134, z0r), (137, z1c), (18, z1k), (48, z16), (54, z1w), (61, z1j), (97, z1v), (102, z2o), (109, z1l), (14, z1s), (51, z1r), (56, z28), (103, z20), (111, z27), (118, z10), (52, z1g), (119, z1h), (16, z1z), (57, z1o), (19, z22), (62, z2y), (99, z0a), (49, z2s), (99, z0f), (116, z31), (94, z2r), (98, z29), (117, z07), (117, z0c), (95, z2c), (96, z2k), (50, z2z), (55, z17), (53, z24), (59, z2j), (101, z36), (23, z34), (60, z33), (24, z2v), (25, z2w), (6, z1m)]
noncomputable def lt15 : List ((Nat × Nat) × (Nat → St → Option (Bool × LO))) := [((52, 3), z0o), ((57, 4), z0s), ((62, 5), z2b), ((99, 2), z03), ((99, 2), z05), ((50, 4), z2e), ((99, 2), z0d), ((53, 5), z1e)]
noncomputable def Γ15 : Ctx := ⟨tyTab, fnTab, tblSum tb15, tblLp lt15⟩
theorem tb15_ok : SumL Try.prog tb15 := SumL.cons z0p (SumL.cons z0g (SumL.cons z0k (SumL.cons z0q (SumL.cons z0u (SumL.cons z0n (SumL.cons z14 (SumL.cons z0v (SumL.cons z15 (SumL.cons z23 (SumL.cons z0t (SumL.cons z12 (SumL.cons z11 (SumL.cons z1p (SumL.cons z18 (SumL.cons z1n (SumL.cons z0m (SumL.cons z0w (SumL.cons z0x (SumL.cons z1a (SumL.cons z13 (SumL.cons z1i (SumL.cons z2i (SumL.cons z09 (SumL.cons z2d (SumL.cons z0e (SumL.cons z2l (SumL.cons z2a (SumL.cons z1x (SumL.cons z06 (SumL.cons z0b (SumL.cons z21 (SumL.cons z25 (SumL.cons z2m (SumL.cons z0z (SumL.cons z1u (SumL.cons z26 (SumL.cons z32 (SumL.cons z30 (SumL.cons z2t (SumL.cons z2p (SumL.cons z2n (SumL.cons z1d (SumL.nil)))))))))))))))))))))))))))))))))))))))))))
theorem lt15_ok : LpL Try.prog fnTab lt15 := LpL.cons z0i (LpL.cons z0j (LpL.cons z1q (LpL.cons z02 (LpL.cons z04 (LpL.cons z1y (LpL.cons z08 (LpL.cons z0y (LpL.nil))))))))
noncomputable def tb16 : List (Nat × (List PT → Option (Bool × AV × List Blk))) := [(125, z1b), (128, z0h), (134, z0r), (137, z1c), (18, z1k), (48, z16), (54, z1w), (61, z1j), (97, z1v), (102, z2o), (109, z1l), (14, z1s), (51, z1r), (56, z28), (103, z20), (111, z27), (118, z10), (52, z1g), (119, z1h), (16, z1z), (57, z1o), (19, z22), (62, z2y), (99, z0a), (49, z2s), (99, z0f), (116, z31), (94, z2r), (98, z29), (117, z07), (117, z0c), (95, z2c), (96, z2k), (50, z2z), (55, z17), (53, z24), (59, z2j), (101, z36), (23, z34), (60, z33), (24, z2v), (25, z2w), (6, z1m)]
noncomputable def lt16 : List ((Nat × Nat) × (Nat → St → Option (Bool × LO))) := [((52, 3), z0o), ((57, 4), z0s), ((62, 5), z2b), ((99, 2), z03), ((99, 2), z05), ((50, 4), z2e), ((99, 2), z0d), ((53, 5), z1e)]
noncomputable def Γ16 : Ctx := ⟨tyTab, fnTab, tblSum tb16, tblLp lt16⟩
theorem tb16_ok : SumL Try.prog tb16 := SumL.cons z0p (SumL.cons z0g (SumL.cons z0k (SumL.cons z0q (SumL.cons z0u (SumL.cons z0n (SumL.cons z14 (SumL.cons z0v (SumL.cons z15 (SumL.cons z23 (SumL.cons z0t (SumL.cons z12 (SumL.cons z11 (SumL.cons z1p (SumL.cons z18 (SumL.cons z1n (SumL.cons z0m (SumL.cons z0w (SumL.cons z0x (SumL.cons z1a (SumL.cons z13 (SumL.cons z1i (SumL.cons z2i (SumL.cons z09 (SumL.cons z2d (SumL.cons z0e (SumL.cons z2l (SumL.cons z2a (SumL.cons z1x (SumL.cons z06 (SumL.cons z0b (SumL.cons z21 (SumL.cons z25 (SumL.cons z2m (SumL.cons z0z (SumL.cons z1u (SumL.cons z26 (SumL.cons z32 (SumL.cons z30 (SumL.cons z2t (SumL.cons z2p (SumL.cons z2n (SumL.cons z1d (SumL.nil)))))))))))))))))))))))))))))))))))))))))))
theorem lt16_ok : LpL Try.prog fnTab lt16 := LpL.cons z0i (LpL.cons z0j (LpL.cons z1q (LpL.cons z02 (LpL.cons z04 (LpL.cons z1y (LpL.cons z08 (LpL.cons z0y (LpL.nil))))))))
noncomputable def tb17 : List (Nat × (List PT → Option (Bool × AV × List Blk))) := [(125, z1b), (128, z0h), (134, z0r), (137, z1c), (18, z1k), (48, z16), (54, z1w), (61, z1j), (97, z1v), (102, z2o), (109, z1l), (14, z1s), (51, z1r), (56, z28), (103, z20), (111, z27), (118, z10), (52, z1g), (119, z1h), (16, z1z), (57, z1o), (19, z22), (62, z2y), (99, z0a), (49, z2s), (99, z0f), (116, z31), (94, z2r), (98, z29), (117, z07), (117, z0c), (95, z2c), (96, z2k), (50, z2z), (55, z17), (53, z24), (59, z2j), (101, z36), (23, z34), (60, z33), (24, z2v), (25, z2w), (6, z1m)]
noncomputable def lt17 : List ((Nat × Nat) × (Nat → St → Option (Bool × LO))) := [((52, 3), z0o), ((57, 4), z0s), ((62, 5), z2b), ((99, 2), z03), ((99, 2), z05), ((50, 4), z2e), ((99, 2), z0d), ((53, 5), z1e)]
noncomputable def Γ17 : Ctx := ⟨tyTab, fnTab, tblSum tb17, tblLp lt17⟩
theorem tb17_ok : SumL Try.prog tb17 := SumL.cons z0p (SumL.cons z0g (SumL.cons z0k (SumL.cons z0q (SumL.cons z0u (SumL.cons z0n (SumL.cons z14 (SumL.cons z0v (SumL.cons z15 (SumL.cons z23 (SumL.cons z0t (SumL.cons z12 (SumL.cons z11 (SumL.cons z1p (SumL.cons z18 (SumL.cons z1n (SumL.cons z0m (SumL.cons z0w (SumL.cons z0x (SumL.cons z1a (SumL.cons z13 (SumL.cons z1i (SumL.cons z2i (SumL.cons z09 (SumL.cons z2d (SumL.cons z0e (SumL.cons z2l (SumL.cons z2a (SumL.cons z1x (SumL.cons z06 (SumL.cons z0b (SumL.cons z21 (SumL.cons z25 (SumL.cons z2m (SumL.cons z0z (SumL.cons z1u (SumL.cons z26 (SumL.cons z32 (SumL.cons z30 (SumL.cons z2t (SumL.cons z2p (SumL.cons z2n (SumL.cons z1d (SumL.nil)))))))))))))))))))))))))))))))))))))))))))
theorem lt17_ok : LpL Try.prog fnTab lt17 := LpL.cons z0i (LpL.cons z0j (LpL.cons z1q (LpL.cons z02 (LpL.cons z04 (LpL.cons z1y (LpL.cons z08 (LpL.cons z0y (LpL.nil))))))))
noncomputable def tb18 : List (Nat × (List PT → Option (Bool × AV × List Blk))) := [(125, z1b), (128, z0h), (134, z0r), (137, z1c), (18, z1k), (48, z16), (54, z1w), (61, z1j), (97, z1v), (102, z2o), (109, z1l), (14, z1s), (51, z1r), (56, z28), (103, z20), (111, z27), (118, z10), (52, z1g), (119, z1h), (16, z1z), (57, z1o), (19, z22), (62, z2y), (99, z0a), (49, z2s), (99, z0f), (116, z31), (94, z2r), (98, z29), (117, z07), (117, z0c), (95, z2c), (96, z2k), (50, z2z), (55, z17), (53, z24), (59, z2j), (101, z36), (23, z34), (60, z33), (24, z2v), (25, z2w), (6, z1m)]
noncomputable def lt18 : List ((Nat × Nat) × (Nat → St → Option (Bool × LO))) := [((52, 3), z0o), ((57, 4), z0s), ((62, 5), z2b), ((99, 2), z03), ((99, 2), z05), ((50, 4), z2e), ((99, 2), z0d), ((53, 5), z1e)]
noncomputable def Γ18 : Ctx := ⟨tyTab, fnTab, tblSum tb18, tblLp lt18⟩
theorem tb18_ok : SumL Try.prog tb18 := SumL.cons z0p (SumL.cons z0g (SumL.cons z0k (SumL.cons z0q (SumL.cons z0u (SumL.cons z0n (SumL.cons z14 (SumL.cons z0v (SumL.cons z15 (SumL.cons z23 (SumL.cons z0t (SumL.cons z12 (SumL.cons z11 (SumL.cons z1p (SumL.cons z18 (SumL.cons z1n (SumL.cons z0m (SumL.cons z0w (SumL.cons z0x (SumL.cons z1a (SumL.cons z13 (SumL.cons z1i (SumL.cons z2i (SumL.cons z09 (SumL.cons z2d (SumL.cons z0e (SumL.cons z2l (SumL.cons z2a (SumL.cons z1x (SumL.cons z06 (SumL.cons z0b (SumL.cons z21 (SumL.cons z25 (SumL.cons z2m (SumL.cons z0z (SumL.cons z1u (SumL.cons z26 (SumL.cons z32 (SumL.cons z30 (SumL.cons z2t (SumL.cons z2p (SumL.cons z2n (SumL.cons z1d (SumL.nil)))))))))))))))))))))))))))))))))))))))))))
theorem lt18_ok : LpL Try.prog fnTab lt18 := LpL.cons z0i (LpL.cons z0j (LpL.cons z1q (LpL.cons z02 (LpL.cons z04 (LpL.cons z1y (LpL.cons z08 (LpL.cons z0y (LpL.nil))))))))
noncomputable def tb19 : List (Nat × (List PT → Option (Bool × AV × List Blk))) := [(125, z1b), (128, z0h), (134, z0r), (137, z1c), (18, z1k), (48, z16), (54, z1w), (61, z1j), (97, z1v), (102, z2o), (109, z1l), (14, z1s), (51, z1r), (56, z28), (103, z20), (111, z27), (118, z10), (52, z1g), (119, z1h), (16, z1z), (57, z1o), (19, z22), (62, z2y), (99, z0a), (49, z2s), (99, z0f), (116, z31), (94, z2r), (98, z29), (117, z07), (117, z0c), (95, z2c), (96, z2k), (50, z2z), (55, z17), (53, z24), (59, z2j), (101, z36), (23, z34), (60, z33), (24, z2v), (25, z2w), (6, z1m)]
noncomputable def lt19 : List ((Nat × Nat) × (Nat → St → Option (Bool × LO))) := [((52, 3), z0o), ((57, 4), z0s), ((62, 5), z2b), ((99, 2), z03), ((99, 2), z05), ((50, 4), z2e), ((99, 2), z0d), ((53, 5), z1e)]
noncomputable def Γ19 : Ctx := ⟨tyTab, fnTab, tblSum tb19, tblLp lt19⟩
theorem tb19_ok : SumL Try.prog tb19 := SumL.cons z0p (SumL.cons z0g (SumL.cons z0k (SumL.cons z0q (SumL.cons z0u (SumL.cons z0n (SumL.cons z14 (SumL.cons z0v (SumL.cons z15 (SumL.cons z23 (SumL.cons z0t (SumL.cons z12 (SumL.cons z11 (SumL.cons z1p (SumL.cons z18 (SumL.cons z1n (SumL.cons z0m (SumL.cons z0w (SumL.cons z0x (SumL.cons z1a (SumL.cons z13 (SumL.cons z1i (SumL.cons z2i (SumL.cons z09 (SumL.cons z2d (SumL.cons z0e (SumL.cons z2l (SumL.cons z2a (SumL.cons z1x (SumL.cons z06 (SumL.cons z0b (SumL.cons z21 (SumL.cons z25 (SumL.cons z2m (SumL.cons z0z (SumL.cons z1u (SumL.cons z26 (SumL.cons z32 (SumL.cons z30 (SumL.cons z2t (SumL.cons z2p (SumL.cons z2n (SumL.cons z1d (SumL.nil)))))))))))))))))))))))))))))))))))))))))))
theorem lt19_ok : LpL Try.prog fnTab lt19 := LpL.cons z0i (LpL.cons z0j (LpL.cons z1q (LpL.cons z02 (LpL.cons z04 (LpL.cons z1y (LpL.cons z08 (LpL.cons z0y (LpL.nil))))))))
noncomputable def tb20 : List (Nat × (List PT → Option (Bool × AV × List Blk))) := [(125, z1b), (128, z0h), (134, z0r), (137, z1c), (18, z1k), (48, z16), (54, z1w), (61, z1j), (97, z1v), (102, z2o), (109, z1l), (14, z1s), (51, z1r), (56, z28), (103, z20), (111, z27), (118, z10), (52, z1g), (119, z1h), (16, z1z), (57, z1o), (19, z22), (62, z2y), (99, z0a), (49, z2s), (99, z0f), (116, z31), (94, z2r), (98, z29), (117, z07), (117, z0c), (95, z2c), (96, z2k), (50, z2z), (55, z17), (53, z24), (59, z2j), (101, z36), (23, z34), (60, z33), (24, z2v), (25, z2w), (6, z1m)]
noncomputable def lt20 : List ((Nat × Nat) × (Nat → St → Option (Bool × LO))) := [((52, 3), z0o), ((57, 4), z0s), ((62, 5), z2b), ((99, 2), z03), ((99, 2), z05), ((50, 4), z2e), ((99, 2), z0d), ((53, 5), z1e)]
noncomputable def Γ20 : Ctx := ⟨tyTab, fnTab, tblSum tb20, tblLp lt20⟩
theorem tb20_ok : SumL Try.prog tb20 := SumL.cons z0p (SumL.cons z0g (SumL.cons z0k (SumL.cons z0q (SumL.cons z0u (SumL.cons z0n (SumL.cons z14 (SumL.cons z0v (SumL.cons z15 (SumL.cons z23 (SumL.cons z0t (SumL.cons z12 (SumL.cons z11 (SumL.cons z1p (SumL.cons z18 (SumL.cons z1n (SumL.cons z0m (SumL.cons z0w (SumL.cons z0x (SumL.cons z1a (SumL.cons z13 (SumL.cons z1i (SumL.cons z2i (SumL.cons z09 (SumL.cons z2d (SumL.cons z0e (SumL.cons z2l (SumL.cons z2a (SumL.cons z1x (SumL.cons z06 (SumL.cons z0b (SumL.cons z21 (SumL.cons z25 (SumL.cons z2m (SumL.cons z0z (SumL.cons z1u (SumL.cons z26 (SumL.cons z32 (SumL.cons z30 (SumL.cons z2t (SumL.cons z2p (SumL.cons z2n (SumL.cons z1d (SumL.nil)))))))))))))))))))))))))))))))))))))))))))
theorem lt20_ok : LpL Try.prog fnTab lt20 := LpL.cons z0i (LpL.cons z0j (LpL.cons z1q (LpL.cons z02 (LpL.cons z04 (LpL.cons z1y (LpL.cons z08 (LpL.cons z0y (LpL.nil))))))))
noncomputable def tb21 : List (Nat × (List PT → Option (Bool × AV × List Blk))) := [(125, z1b), (128, z0h), (134, z0r), (137, z1c), (18, z1k), (48, z16), (54, z1w), (61, z1j), (97, z1v), (102, z2o), (109, z1l), (14, z1s), (51, z1r), (56, z28), (103, z20), (111, z27), (118, z10), (52, z1g), (119, z1h), (16, z1z), (57, z1o), (19, z22), (62, z2y), (99, z0a), (49, z2s), (99, z0f), (116, z31), (94, z2r), (98, z29), (117, z07), (117, z0c), (95, z2c), (96, z2k), (50, z2z), (55, z17), (53, z24), (59, z2j), (101, z36), (23, z34), (60, z33), (24, z2v), (25, z2w), (6, z1m)]
noncomputable def lt21 : List ((Nat × Nat) × (Nat → St → Option (Bool × LO))) := [((52, 3), z0o), ((57, 4), z0s), ((62, 5), z2b), ((99, 2), z03), ((99, 2), z05), ((50, 4), z2e), ((99, 2), z0d), ((53, 5), z1e)]
noncomputable def Γ21 : Ctx := ⟨tyTab, fnTab, tblSum tb21, tblLp lt21⟩
theorem tb21_ok : SumL Try.prog tb21 := SumL.cons z0p (SumL.cons z0g (SumL.cons z0k (SumL.cons z0q (SumL.cons z0u (SumL.cons z0n (SumL.cons z14 (SumL.cons z0v (SumL.cons z15 (SumL.cons z23 (SumL.cons z0t (SumL.cons z12 (SumL.cons z11 (SumL.cons z1p (SumL.cons z18 (SumL.cons z1n (SumL.cons z0m (SumL.cons z0w (SumL.cons z0x (SumL.cons z1a (SumL.cons z13 (SumL.cons z1i (SumL.cons z2i (SumL.cons z09 (SumL.cons z2d (SumL.cons z0e (SumL.cons z2l (SumL.cons z2a (SumL.cons z1x (SumL.cons z06 (SumL.cons z0b (SumL.cons z21 (SumL.cons z25 (SumL.cons z2m (SumL.cons z0z (SumL.cons z1u (SumL.cons z26 (SumL.cons z32 (SumL.cons z30 (SumL.cons z2t (SumL.cons z2p (SumL.cons z2n (SumL.cons z1d (SumL.nil)))))))))))))))))))))))))))))))))))))))))))
theorem lt21_ok : LpL Try.prog fnTab lt21 := LpL.cons z0i (LpL.cons z0j (LpL.cons z1q (LpL.cons z02 (LpL.cons z04 (LpL.cons z1y (LpL.cons z08 (LpL.cons z0y (LpL.nil))))))))
noncomputable def tb22 : List (Nat × (List PT → Option (Bool × AV × List Blk))) := [(125, z1b), (128, z0h), (134, z0r), (137, z1c), (18, z1k), (48, z16), (54, z1w), (61, z1j), (97, z1v), (102, z2o), (109, z1l), (14, z1s), (51, z1r), (56, z28), (103, z20), (111, z27), (118, z10), (52, z1g), (119, z1h), (16, z1z), (57, z1o), (19, z22), (62, z2y), (99, z0a), (49, z2s), (99, z0f), (116, z31), (94, z2r), (98, z29), (117, z07), (117, z0c), (95, z2c), (96, z2k), (50, z2z), (55, z17), (53, z24), (59, z2j), (101, z36), (23, z34), (60, z33), (24, z2v), (25, z2w), (6, z1m)]
noncomputable def lt22 : List ((Nat × Nat) × (Nat → St → Option (Bool × LO))) := [((52, 3), z0o), ((57, 4), z0s), ((62, 5), z2b), ((99, 2), z03), ((99, 2), z05), ((50, 4), z2e), ((99, 2), z0d), ((53, 5), z1e)]
noncomputable def Γ22 : Ctx := ⟨tyTab, fnTab, tblSum tb22, tblLp lt22⟩
theorem tb22_ok : SumL Try.prog tb22 := SumL.cons z0p (SumL.cons z0g (SumL.cons z0k (SumL.cons z0q (SumL.cons z0u (SumL.cons z0n (SumL.cons z14 (SumL.cons z0v (SumL.cons z15 (SumL.cons z23 (SumL.cons z0t (SumL.cons z12 (SumL.cons z11 (SumL.cons z1p (SumL.cons z18 (SumL.cons z1n (SumL.cons z0m (SumL.cons z0w (SumL.cons z0x (SumL.cons z1a (SumL.cons z13 (SumL.cons z1i (SumL.cons z2i (SumL.cons z09 (SumL.cons z2d (SumL.cons z0e (SumL.cons z2l (SumL.cons z2a (SumL.cons z1x (SumL.cons z06 (SumL.cons z0b (SumL.cons z21 (SumL.cons z25 (SumL.cons z2m (SumL.cons z0z (SumL.cons z1u (SumL.cons z26 (SumL.cons z32 (SumL.cons z30 (SumL.cons z2t (SumL.cons z2p (SumL.cons z2n (SumL.cons z1d (SumL.nil)))))))))))))))))))))))))))))))))))))))))))
theorem lt22_ok : LpL Try.prog fnTab lt22 := LpL.cons z0i (LpL.cons z0j (LpL.cons z1q (LpL.cons z02 (LpL.cons z04 (LpL.cons z1y (LpL.cons z08 (LpL.cons z0y (LpL.nil))))))))
noncomputable def tb23 : List (Nat × (List PT → Option (Bool × AV × List Blk))) := [(125, z1b), (128, z0h), (134, z0r), (137, z1c), (18, z1k), (48, z16), (54, z1w), (61, z1j), (97, z1v), (102, z2o), (109, z1l), (14, z1s), (51, z1r), (56, z28), (103, z20), (111, z27), (118, z10), (52, z1g), (119, z1h), (16, z1z), (57, z1o), (19, z22), (62, z2y), (99, z0a), (49, z2s), (99, z0f), (116, z31), (94, z2r), (98, z29), (117, z07), (117, z0c), (95, z2c), (96, z2k), (50, z2z), (55, z17), (53, z24), (59, z2j), (101, z36), (23, z34), (60, z33), (24, z2v), (25, z2w), (6, z1m)]
noncomputable def lt23 : List ((Nat × Nat) × (Nat → St → Option (Bool × LO))) := [((52, 3), z0o), ((57, 4), z0s), ((62, 5), z2b), ((99, 2), z03), ((99, 2), z05), ((50, 4), z2e), ((99, 2), z0d), ((53, 5), z1e)]
noncomputable def Γ23 : Ctx := ⟨tyTab, fnTab, tblSum tb23, tblLp lt23⟩
theorem tb23_ok : SumL Try.prog tb23 := SumL.cons z0p (SumL.cons z0g (SumL.cons z0k (SumL.cons z0q (SumL.cons z0u (SumL.cons z0n (SumL.cons z14 (SumL.cons z0v (SumL.cons z15 (SumL.cons z23 (SumL.cons z0t (SumL.cons z12 (SumL.cons z11 (SumL.cons z1p (SumL.cons z18 (SumL.cons z1n (SumL.cons z0m (SumL.cons z0w (SumL.cons z0x (SumL.cons z1a (SumL.cons z13 (SumL.cons z1i (SumL.cons z2i (SumL.cons z09 (SumL.cons z2d (SumL.cons z0e (SumL.cons z2l (SumL.cons z2a (SumL.cons z1x (SumL.cons z06 (SumL.cons z0b (SumL.cons z21 (SumL.cons z25 (SumL.cons z2m (SumL.cons z0z (SumL.cons z1u (SumL.cons z26 (SumL.cons z32 (SumL.cons z30 (SumL.cons z2t (SumL.cons z2p (SumL.cons z2n (SumL.cons z1d (SumL.nil)))))))))))))))))))))))))))))))))))))))))))
theorem lt23_ok : LpL Try.prog fnTab lt23 := LpL.cons z0i (LpL.cons z0j (LpL.cons z1q (LpL.cons z02 (LpL.cons z04 (LpL.cons z1y (LpL.cons z08 (LpL.cons z0y (LpL.nil))))))))
noncomputable def tb24 : List (Nat × (List PT → Option (Bool × AV × List Blk))) := [(125, z1b), (128, z0h), (134, z0r), (137, z1c), (18, z1k), (48, z16), (54, z1w), (61, z1j), (97, z1v), (102, z2o), (109, z1l), (14, z1s), (51, z1r), (56, z28), (103, z20), (111, z27), (118, z10), (52, z1g), (119, z1h), (16, z1z), (57, z1o), (19, z22), (62, z2y), (99, z0a), (49, z2s), (99, z0f), (116, z31), (94, z2r), (98, z29), (117, z07), (117, z0c), (95, z2c), (96, z2k), (50, z2z), (55, z17), (53, z24), (59, z2j), (101, z36), (23, z34), (60, z33), (24, z2v), (25, z2w), (6, z1m)]
noncomputable def lt24 : List ((Nat × Nat) × (Nat → St → Option (Bool × LO))) := [((52, 3), z0o), ((57, 4), z0s), ((62, 5), z2b), ((99, 2), z03), ((99, 2), z05), ((50, 4), z2e), ((99, 2), z0d), ((53, 5), z1e)]
noncomputable def Γ24 : Ctx := ⟨tyTab, fnTab, tblSum tb24, tblLp lt24⟩
theorem tb24_ok : SumL Try.prog tb24 := SumL.cons z0p (SumL.cons z0g (SumL.cons z0k (SumL.cons z0q (SumL.cons z0u (SumL.cons z0n (SumL.cons z14 (SumL.cons z0v (SumL.cons z15 (SumL.cons z23 (SumL.cons z0t (SumL.cons z12 (SumL.cons z11 (SumL.cons z1p (SumL.cons z18 (SumL.cons z1n (SumL.cons z0m (SumL.cons z0w (SumL.cons z0x (SumL.cons z1a (SumL.cons z13 (SumL.cons z1i (SumL.cons z2i (SumL.cons z09 (SumL.cons z2d (SumL.cons z0e (SumL.cons z2l (SumL.cons z2a (SumL.cons z1x (SumL.cons z06 (SumL.cons z0b (SumL.cons z21 (SumL.cons z25 (SumL.cons z2m (SumL.cons z0z (SumL.cons z1u (SumL.cons z26 (SumL.cons z32 (SumL.cons z30 (SumL.cons z2t (SumL.cons z2p (SumL.cons z2n (SumL.cons z1d (SumL.nil)))))))))))))))))))))))))))))))))))))))))))
theorem lt24_ok : LpL Try.prog fnTab lt24 := LpL.cons z0i (LpL.cons z0j (LpL.cons z1q (LpL.cons z02 (LpL.cons z04 (LpL.cons z1y (LpL.cons z08 (LpL.cons z0y (LpL.nil))))))))
noncomputable def tb25 : List (Nat × (List PT → Option (Bool × AV × List Blk))) := [(125, z1b), (128, z0h), (134, z0r), (137, z1c), (18, z1k), (48, z16), (54, z1w), (61, z1j), (97, z1v), (102, z2o), (109, z1l), (14, z1s), (51, z1r), (56, z28), (103, z20), (111, z27), (118, z10), (52, z1g), (119, z1h), (16, z1z), (57, z1o), (19, z22), (62, z2y), (99, z0a), (49, z2s), (99, z0f), (116, z31), (94, z2r), (98, z29), (117, z07), (117, z0c), (95, z2c), (96, z2k), (50, z2z), (55, z17), (53, z24), (59, z2j), (101, z36), (23, z34), (60, z33), (24, z2v), (25, z2w), (6, z1m)]
noncomputable def lt25 : List ((Nat × Nat) × (Nat → St → Option (Bool × LO))) := [((52, 3), z0o), ((57, 4), z0s), ((62, 5), z2b), ((99, 2), z03), ((99, 2), z05), ((50, 4), z2e), ((99, 2), z0d), ((53, 5), z1e)]
noncomputable def Γ25 : Ctx := ⟨tyTab, fnTab, tblSum tb25, tblLp lt25⟩
theorem tb25_ok : SumL Try.prog tb25 := SumL.cons z0p (SumL.cons z0g (SumL.cons z0k (SumL.cons z0q (SumL.cons z0u (SumL.cons z0n (SumL.cons z14 (SumL.cons z0v (SumL.cons z15 (SumL.cons z23 (SumL.cons z0t (SumL.cons z12 (SumL.cons z11 (SumL.cons z1p (SumL.cons z18 (SumL.cons z1n (SumL.cons z0m (SumL.cons z0w (SumL.cons z0x (SumL.cons z1a (SumL.cons z13 (SumL.cons z1i (SumL.cons z2i (SumL.cons z09 (SumL.cons z2d (SumL.cons z0e (SumL.cons z2l (SumL.cons z2a (SumL.cons z1x (SumL.cons z06 (SumL.cons z0b (SumL.cons z21 (SumL.cons z25 (SumL.cons z2m (SumL.cons z0z (SumL.cons z1u (SumL.cons z26 (SumL.cons z32 (SumL.cons z30 (SumL.cons z2t (SumL.cons z2p (SumL.cons z2n (SumL.cons z1d (SumL.nil)))))))))))))))))))))))))))))))))))))))))))
theorem lt25_ok : LpL Try.prog fnTab lt25 := LpL.cons z0i (LpL.cons z0j (LpL.cons z1q (LpL.cons z02 (LpL.cons z04 (LpL.cons z1y (LpL.cons z08 (LpL.cons z0y (LpL.nil))))))))
noncomputable def tb26 : List (Nat × (List PT → Option (Bool × AV × List Blk))) := [(125, z1b), (128, z0h), (134, z0r), (137, z1c), (18, z1k), (48, z16), (54, z1w), (61, z1j), (97, z1v), (102, z2o), (109, z1l), (14, z1s), (51, z1r), (56, z28), (103, z20), (111, z27), (118, z10), (52, z1g), (119, z1h), (16, z1z), (57, z1o), (19, z22), (62, z2y), (99, z0a), (49, z2s), (99, z0f), (116, z31), (94, z2r), (98, z29), (117, z07), (117, z0c), (95, z2c), (96, z2k), (50, z2z), (55, z17), (53, z24), (59, z2j), (101, z36), (23, z34), (60, z33), (24, z2v), (25, z2w), (6, z1m)]
noncomputable def lt26 : List ((Nat × Nat) × (Nat → St → Option (Bool × LO))) := [((52, 3), z0o), ((57, 4), z0s), ((62, 5), z2b), ((99, 2), z03), ((99, 2), z05), ((50, 4), z2e), ((99, 2), z0d), ((53, 5), z1e)]
noncomputable def Γ26 : Ctx := ⟨tyTab, fnTab, tblSum tb26, tblLp lt26⟩
theorem tb26_ok : SumL Try.prog tb26 := SumL.cons z0p (SumL.cons z0g (SumL.cons z0k (SumL.cons z0q (SumL.cons z0u (SumL.cons z0n (SumL.cons z14 (SumL.cons z0v (SumL.cons z15 (SumL.cons z23 (SumL.cons z0t (SumL.cons z12 (SumL.cons z11 (SumL.cons z1p (SumL.cons z18 (SumL.cons z1n (SumL.cons z0m (SumL.cons z0w (SumL.cons z0x (SumL.cons z1a (SumL.cons z13 (SumL.cons z1i (SumL.cons z2i (SumL.cons z09 (SumL.cons z2d (SumL.cons z0e (SumL.cons z2l (SumL.cons z2a (SumL.cons z1x (SumL.cons z06 (SumL.cons z0b (SumL.cons z21 (SumL.cons z25 (SumL.cons z2m (SumL.cons z0z (SumL.cons z1u (SumL.cons z26 (SumL.cons z32 (SumL.cons z30 (SumL.cons z2t (SumL.cons z2p (SumL.cons z2n (SumL.cons z1d (SumL.nil)))))))))))))))))))))))))))))))))))))))))))
theorem lt26_ok : LpL Try.prog fnTab lt26 := LpL.cons z0i (LpL.cons z0j (LpL.cons z1q (LpL.cons z02 (LpL.cons z04 (LpL.cons z1y (LpL.cons z08 (LpL.cons z0y (LpL.nil))))))))
noncomputable def tb27 : List (Nat × (List PT → Option (Bool × AV × List Blk))) := [(125, z1b), (128, z0h), (134, z0r), (137, z1c), (18, z1k), (48, z16), (54, z1w), (61, z1j), (97, z1v), (102, z2o), (109, z1l), (14, z1s), (51, z1r), (56, z28), (103, z20), (111, z27), (118, z10), (52, z1g), (119, z1h), (16, z1z), (57, z1o), (19, z22), (62, z2y), (99, z0a), (49, z2s), (99, z0f), (116, z31), (94, z2r), (98, z29), (117, z07), (117, z0c), (95, z2c), (96, z2k), (50, z2z), (55, z17), (53, z24), (59, z2j), (101, z36), (23, z34), (60, z33), (24, z2v), (25, z2w), (6, z1m)]
noncomputable def lt27 : List ((Nat × Nat) × (Nat → St → Option (Bool × LO))) := [((52, 3), z0o), ((57, 4), z0s), ((62, 5), z2b), ((99, 2), z03), ((99, 2), z05), ((50, 4), z2e), ((99, 2), z0d), ((53, 5), z1e)]
noncomputable def Γ27 : Ctx := ⟨tyTab, fnTab, tblSum tb27, tblLp lt27⟩
theorem tb27_ok : SumL Try.prog tb27 := SumL.cons z0p (SumL.cons z0g (SumL.cons z0k (SumL.cons z0q (SumL.cons z0u (SumL.cons z0n (SumL.cons z14 (SumL.cons z0v (SumL.cons z15 (SumL.cons z23 (SumL.cons z0t (SumL.cons z12 (SumL.cons z11 (SumL.cons z1p (SumL.cons z18 (SumL.cons z1n (SumL.cons z0m (SumL.cons z0w (SumL.cons z0x (SumL.cons z1a (SumL.cons z13 (SumL.cons z1i (SumL.cons z2i (SumL.cons z09 (SumL.cons z2d (SumL.cons z0e (SumL.cons z2l (SumL.cons z2a (SumL.cons z1x (SumL.cons z06 (SumL.cons z0b (SumL.cons z21 (SumL.cons z25 (SumL.cons z2m (SumL.cons z0z (SumL.cons z1u (SumL.cons z26 (SumL.cons z32 (SumL.cons z30 (SumL.cons z2t (SumL.cons z2p (SumL.cons z2n (SumL.cons z1d (SumL.nil)))))))))))))))))))))))))))))))))))))))))))
theorem lt27_ok : LpL Try.prog fnTab lt27 := LpL.cons z0i (LpL.cons z0j (LpL.cons z1q (LpL.cons z02 (LpL.cons z04 (LpL.cons z1y (LpL.cons z08 (LpL.cons z0y (LpL.nil))))))))
noncomputable def tb28 : List (Nat × (List PT → Option (Bool × AV × List Blk))) := [(125, z1b), (128, z0h), (134, z0r), (137, z1c), (18, z1k), (48, z16), (54, z1w), (61, z1j), (97, z1v), (102, z2o), (109, z1l), (14, z1s), (51, z1r), (56, z28), (103, z20), (111, z27), (118, z10), (52, z1g), (119, z1h), (16, z1z), (57, z1o), (19, z22), (62, z2y), (99, z0a), (49, z2s), (99, z0f), (116, z31), (94, z2r), (98, z29), (117, z07), (117, z0c), (95, z2c), (96, z2k), (50, z2z), (55, z17), (53, z24), (59, z2j), (101, z36), (23, z34), (60, z33), (24, z2v), (25, z2w), (6, z1m)]
noncomputable def lt28 : List ((Nat × Nat) × (Nat → St → Option (Bool × LO))) := [((52, 3), z0o), ((57, 4), z0s), ((62, 5), z2b), ((99, 2), z03), ((99, 2), z05), ((50, 4), z2e), ((99, 2), z0d), ((53, 5), z1e)]
noncomputable def Γ28 : Ctx := ⟨tyTab, fnTab, tblSum tb28, tblLp lt28⟩
theorem tb28_ok : SumL Try.prog tb28 := SumL.cons z0p (SumL.cons z0g (SumL.cons z0k (SumL.cons z0q (SumL.cons z0u (SumL.cons z0n (SumL.cons z14 (SumL.cons z0v (SumL.cons z15 (SumL.cons z23 (SumL.cons z0t (SumL.cons z12 (SumL.cons z11 (SumL.cons z1p (SumL.cons z18 (SumL.cons z1n (SumL.cons z0m (SumL.cons z0w (SumL.cons z0x (SumL.cons z1a (SumL.cons z13 (SumL.cons z1i (SumL.cons z2i (SumL.cons z09 (SumL.cons z2d (SumL.cons z0e (SumL.cons z2l (SumL.cons z2a (SumL.cons z1x (SumL.cons z06 (SumL.cons z0b (SumL.cons z21 (SumL.cons z25 (SumL.cons z2m (SumL.cons z0z (SumL.cons z1u (SumL.cons z26 (SumL.cons z32 (SumL.cons z30 (SumL.cons z2t (SumL.cons z2p (SumL.cons z2n (SumL.cons z1d (SumL.nil)))))))))))))))))))))))))))))))))))))))))))
theorem lt28_ok : LpL Try.prog fnTab lt28 := LpL.cons z0i (LpL.cons z0j (LpL.cons z1q (LpL.cons z02 (LpL.cons z04 (LpL.cons z1y (LpL.cons z08 (LpL.cons z0y (LpL.nil))))))))
noncomputable def tb29 : List (Nat × (List PT → Option (Bool × AV × List Blk))) := [(125, z1b), (128, z0h), (134, z0r), (137, z1c), (18, z1k), (48, z16), (54, z1w), (61, z1j), (97, z1v), (102, z2o), (109, z1l), (14, z1s), (51, z1r), (56, z28), (103, z20), (111, z27), (118, z10), (52, z1g), (119, z1h), (16, z1z), (57, z1o), (19, z22), (62, z2y), (99, z0a), (49, z2s), (99, z0f), (116, z31), (94, z2r), (98, z29), (117, z07), (117, z0c), (95, z2c), (96, z2k), (50, z2z), (55, z17), (53, z24), (59, z2j), (101, z36), (23, z34), (60, z33), (24, z2v), (25, z2w), (6, z1m)]
noncomputable def lt29 : List ((Nat × Nat) × (Nat → St → Option (Bool × LO))) := [((52, 3), z0o), ((57, 4), z0s), ((62, 5), z2b), ((99, 2), z03), ((99, 2), z05), ((50, 4), z2e), ((99, 2), z0d), ((53, 5), z1e)]
noncomputable def Γ29 : Ctx := ⟨tyTab, fnTab, tblSum tb29, tblLp lt29⟩
theorem tb29_ok : SumL Try.prog tb29 := SumL.cons z0p (SumL.cons z0g (SumL.cons z0k (SumL.cons z0q (SumL.cons z0u (SumL.cons z0n (SumL.cons z14 (SumL.cons z0v (SumL.cons z15 (SumL.cons z23 (SumL.cons z0t (SumL.cons z12 (SumL.cons z11 (SumL.cons z1p (SumL.cons z18 (SumL.cons z1n (SumL.cons z0m (SumL.cons z0w (SumL.cons z0x (SumL.cons z1a (SumL.cons z13 (SumL.cons z1i (SumL.cons z2i (SumL.cons z09 (SumL.cons z2d (SumL.cons z0e (SumL.cons z2l (SumL.cons z2a (SumL.cons z1x (SumL.cons z06 (SumL.cons z0b (SumL.cons z21 (SumL.cons z25 (SumL.cons z2m (SumL.cons z0z (SumL.cons z1u (SumL.cons z26 (SumL.cons z32 (SumL.cons z30 (SumL.cons z2t (SumL.cons z2p (SumL.cons z2n (SumL.cons z1d (SumL.nil)))))))))))))))))))))))))))))))))))))))))))
theorem lt29_ok : LpL Try.prog fnTab lt29 := LpL.cons z0i (LpL.cons z0j (LpL.cons z1q (LpL.cons z02 (LpL.cons z04 (LpL.cons z1y (LpL.cons z08 (LpL.cons z0y (LpL.nil))))))))
noncomputable def tb30 : List (Nat × (List PT → Option (Bool × AV × List Blk))) := [(125, z1b), (128, z0h), (134, z0r), (137, z1c), (18, z1k), (48, z16), (54, z1w), (61, z1j), (97, z1v), (102, z2o), (109, z1l), (14, z1s), (51, z1r), (56, z28), (103, z20), (111, z27), (118, z10), (52, z1g), (119, z1h), (16, z1z), (57, z1o), (19, z22), (62, z2y), (99, z0a), (49, z2s), (99, z0f), (116, z31), (94, z2r), (98, z29), (117, z07), (117, z0c), (95, z2c), (96, z2k), (50, z2z), (55, z17), (53, z24), (59, z2j), (101, z36), (23, z34), (60, z33), (24, z2v), (25, z2w), (6, z1m)]
noncomputable def lt30 : List ((Nat × Nat) × (Nat → St → Option (Bool × LO))) := [((52, 3), z0o), ((57, 4), z0s), ((62, 5), z2b), ((99, 2), z03), ((99, 2), z05), ((50, 4), z2e), ((99, 2), z0d), ((53, 5), z1e)]
noncomputable def Γ30 : Ctx := ⟨tyTab, fnTab, tblSum tb30, tblLp lt30⟩
theorem tb30_ok : SumL Try.prog tb30 := SumL.cons z0p (SumL.cons z0g (SumL.cons z0k (SumL.cons z0q (SumL.cons z0u (SumL.cons z0n (SumL.cons z14 (SumL.cons z0v (SumL.cons z15 (SumL.cons z23 (SumL.cons z0t (SumL.cons z12 (SumL.cons z11 (SumL.cons z1p (SumL.cons z18 (SumL.cons z1n (SumL.cons z0m (SumL.cons z0w (SumL.cons z0x (SumL.cons z1a (SumL.cons z13 (SumL.cons z1i (SumL.cons z2i (SumL.cons z09 (SumL.cons z2d (SumL.cons z0e (SumL.cons z2l (SumL.cons z2a (SumL.cons z1x (SumL.cons z06 (SumL.cons z0b (SumL.cons z21 (SumL.cons z25 (SumL.cons z2m (SumL.cons z0z (SumL.cons z1u (SumL.cons z26 (SumL.cons z32 (SumL.cons z30 (SumL.cons z2t (SumL.cons z2p (SumL.cons z2n (SumL.cons z1d (SumL.nil)))))))))))))))))))))))))))))))))))))))))))
theorem lt30_ok : LpL Try.prog fnTab lt30 := LpL.cons z0i (LpL.cons z0j (LpL.cons z1q (LpL.cons z02 (LpL.cons z04 (LpL.cons z1y (LpL.cons z08 (LpL.cons z0y (LpL.nil))))))))
noncomputable def tb31 : List (Nat × (List PT → Option (Bool × AV × List Blk))) := [(125, z1b), (128, z0h), (134, z0r), (137, z1c), (18, z1k), (48, z16), (54, z1w), (61, z1j), (97, z1v), (102, z2o), (109, z1l), (14, z1s), (51, z1r), (56, z28), (103, z20), (111, z27), (118, z10), (52, z1g), (119, z1h), (16, z1z), (57, z1o), (19, z22), (62, z2y), (99, z0a), (49, z2s), (99, z0f), (116, z31), (94, z2r), (98, z29), (117, z07), (117, z0c), (95, z2c), (96, z2k), (50, z2z), (55, z17), (53, z24), (59, z2j), (101, z36), (23, z34), (60, z33), (24, z2v), (25, z2w), (6, z1m)]
noncomputable def lt31 : List ((Nat × Nat) × (Nat → St → Option (Bool × LO))) := [((52, 3), z0o), ((57, 4), z0s), ((62, 5), z2b), ((99, 2), z03), ((99, 2), z05), ((50, 4), z2e), ((99, 2), z0d), ((53, 5), z1e)]
noncomputable def Γ31 : Ctx := ⟨tyTab, fnTab, tblSum tb31, tblLp lt31⟩
theorem tb31_ok : SumL Try.prog tb31 := SumL.cons z0p (SumL.cons z0g (SumL.cons z0k (SumL.cons z0q (SumL.cons z0u (SumL.cons z0n (SumL.cons z14 (SumL.cons z0v (SumL.cons z15 (SumL.cons z23 (SumL.cons z0t (SumL.cons z12 (SumL.cons z11 (SumL.cons z1p (SumL.cons z18 (SumL.cons z1n (SumL.cons z0m (SumL.cons z0w (SumL.cons z0x (SumL.cons z1a (SumL.cons z13 (SumL.cons z1i (SumL.cons z2i (SumL.cons z09 (SumL.cons z2d (SumL.cons z0e (SumL.cons z2l (SumL.cons z2a (SumL.cons z1x (SumL.cons z06 (SumL.cons z0b (SumL.cons z21 (SumL.cons z25 (SumL.cons z2m (SumL.cons z0z (SumL.cons z1u (SumL.cons z26 (SumL.cons z32 (SumL.cons z30 (SumL.cons z2t (SumL.cons z2p (SumL.cons z2n (SumL.cons z1d (SumL.nil)))))))))))))))))))))))))))))))))))))))))))
theorem lt31_ok : LpL Try.prog fnTab lt31 := LpL.cons z0i (LpL.cons z0j (LpL.cons z1q (LpL.cons z02 (LpL.cons z04 (LpL.cons z1y (LpL.cons z08 (LpL.cons z0y (LpL.nil))))))))
noncomputable def tb32 : List (Nat × (List PT → Option (Bool × AV × List Blk))) := [(125, z1b), (128, z0h), (134, z0r), (137, z1c), (18, z1k), (48, z16), (54, z1w), (61, z1j), (97, z1v), (102, z2o), (109, z1l), (14, z1s), (51, z1r), (56, z28), (103, z20), (111, z27), (118, z10), (52, z1g), (119, z1h), (16, z1z), (57, z1o), (19, z22), (62, z2y), (99, z0a), (49, z2s), (99, z0f), (116, z31), (94, z2r), (98, z29), (117, z07), (117, z0c), (95, z2c), (96, z2k), (50, z2z), (55, z17), (53, z24), (59, z2j), (101, z36), (23, z34), (60, z33), (24, z2v), (25, z2w), (6, z1m)]
noncomputable def lt32 : List ((Nat × Nat) × (Nat → St → Option (Bool × LO))) := [((52, 3), z0o), ((57, 4), z0s), ((62, 5), z2b), ((99, 2), z03), ((99, 2), z05), ((50, 4), z2e), ((99, 2), z0d), ((53, 5), z1e)]
noncomputable def Γ32 : Ctx := ⟨tyTab, fnTab, tblSum tb32, tblLp lt32⟩
theorem tb32_ok : SumL Try.prog tb32 := SumL.cons z0p (SumL.cons z0g (SumL.cons z0k (SumL.cons z0q (SumL.cons z0u (SumL.cons z0n (SumL.cons z14 (SumL.cons z0v (SumL.cons z15 (SumL.cons z23 (SumL.cons z0t (SumL.cons z12 (SumL.cons z11 (SumL.cons z1p (SumL.cons z18 (SumL.cons z1n (SumL.cons z0m (SumL.cons z0w (SumL.cons z0x (SumL.cons z1a (SumL.cons z13 (SumL.cons z1i (SumL.cons z2i (SumL.cons z09 (SumL.cons z2d (SumL.cons z0e (SumL.cons z2l (SumL.cons z2a (SumL.cons z1x (SumL.cons z06 (SumL.cons z0b (SumL.cons z21 (SumL.cons z25 (SumL.cons z2m (SumL.cons z0z (SumL.cons z1u (SumL.cons z26 (SumL.cons z32 (SumL.cons z30 (SumL.cons z2t (SumL.cons z2p (SumL.cons z2n (SumL.cons z1d (SumL.nil)))))))))))))))))))))))))))))))))))))))))))
theorem lt32_ok : LpL Try.prog fnTab lt32 := LpL.cons z0i (LpL.cons z0j (LpL.cons z1q (LpL.cons z02 (LpL.cons z04 (LpL.cons z1y (LpL.cons z08 (LpL.cons z0y (LpL.nil))))))))
noncomputable def tb33 : List (Nat × (List PT → Option (Bool × AV × List Blk))) := [(125, z1b), (128, z0h), (134, z0r), (137, z1c), (18, z1k), (48, z16), (54, z1w), (61, z1j), (97, z1v), (102, z2o), (109, z1l), (14, z1s), (51, z1r), (56, z28), (103, z20), (111, z27), (118, z10), (52, z1g), (119, z1h), (16, z1z), (57, z1o), (19, z22), (62, z2y), (99, z0a), (49, z2s), (99, z0f), (116, z31), (94, z2r), (98, z29), (117, z07), (117, z0c), (95, z2c), (96, z2k), (50, z2z), (55, z17), (53, z24), (59, z2j), (101, z36), (23, z34), (60, z33), (24, z2v), (25, z2w), (6, z1m)]
noncomputable def lt33 : List ((Nat × Nat) × (Nat → St → Option (Bool × LO))) := [((52, 3), z0o), ((57, 4), z0s), ((62, 5), z2b), ((99, 2), z03), ((99, 2), z05), ((50, 4), z2e), ((99, 2), z0d), ((53, 5), z1e)]
noncomputable def Γ33 : Ctx := ⟨tyTab, fnTab, tblSum tb33, tblLp lt33⟩
theorem tb33_ok : SumL Try.prog tb33 := SumL.cons z0p (SumL.cons z0g (SumL.cons z0k (SumL.cons z0q (SumL.cons z0u (SumL.cons z0n (SumL.cons z14 (SumL.cons z0v (SumL.cons z15 (SumL.cons z23 (SumL.cons z0t (SumL.cons z12 (SumL.cons z11 (SumL.cons z1p (SumL.cons z18 (SumL.cons z1n (SumL.cons z0m (SumL.cons z0w (SumL.cons z0x (SumL.cons z1a (SumL.cons z13 (SumL.cons z1i (SumL.cons z2i (SumL.cons z09 (SumL.cons z2d (SumL.cons z0e (SumL.cons z2l (SumL.cons z2a (SumL.cons z1x (SumL.cons z06 (SumL.cons z0b (SumL.cons z21 (SumL.cons z25 (SumL.cons z2m (SumL.cons z0z (SumL.cons z1u (SumL.cons z26 (SumL.cons z32 (SumL.cons z30 (SumL.cons z2t (SumL.cons z2p (SumL.cons z2n (SumL.cons z1d (SumL.nil)))))))))))))))))))))))))))))))))))))))))))
theorem lt33_ok : LpL Try.prog fnTab lt33 := LpL.cons z0i (LpL.cons z0j (LpL.cons z1q (LpL.cons z02 (LpL.cons z04 (LpL.cons z1y (LpL.cons z08 (LpL.cons z0y (LpL.nil))))))))
noncomputable def tb34 : List (Nat × (List PT → Option (Bool × AV × List Blk))) := [(125, z1b), (128, z0h), (134, z0r), (137, z1c), (18, z1k), (48, z16), (54, z1w), (61, z1j), (97, z1v), (102, z2o), (109, z1l), (14, z1s), (51, z1r), (56, z28), (103, z20), (111, z27), (118, z10), (52, z1g), (119, z1h), (16, z1z), (57, z1o), (19, z22), (62, z2y), (99, z0a), (49, z2s), (99, z0f), (116, z31), (94, z2r), (98, z29), (117, z07), (117, z0c), (95, z2c), (96, z2k), (50, z2z), (55, z17), (53, z24), (59, z2j), (101, z36), (23, z34), (60, z33), (24, z2v), (25, z2w), (6, z1m)]
noncomputable def lt34 : List ((Nat × Nat) × (Nat → St → Option (Bool × LO))) := [((52, 3), z0o), ((57, 4), z0s), ((62, 5), z2b), ((99, 2), z03), ((99, 2), z05), ((50, 4), z2e), ((99, 2), z0d), ((53, 5), z1e)]
noncomputable def Γ34 : Ctx := ⟨tyTab, fnTab, tblSum tb34, tblLp lt34⟩
theorem tb34_ok : SumL Try.prog tb34 := SumL.cons z0p (SumL.cons z0g (SumL.cons z0k (SumL.cons z0q (SumL.cons z0u (SumL.cons z0n (SumL.cons z14 (SumL.cons z0v (SumL.cons z15 (SumL.cons z23 (SumL.cons z0t (SumL.cons z12 (SumL.cons z11 (SumL.cons z1p (SumL.cons z18 (SumL.cons z1n (SumL.cons z0m (SumL.cons z0w (SumL.cons z0x (SumL.cons z1a (SumL.cons z13 (SumL.cons z1i (SumL.cons z2i (SumL.cons z09 (SumL.cons z2d (SumL.cons z0e (SumL.cons z2l (SumL.cons z2a (SumL.cons z1x (SumL.cons z06 (SumL.cons z0b (SumL.cons z21 (SumL.cons z25 (SumL.cons z2m (SumL.cons z0z (SumL.cons z1u (SumL.cons z26 (SumL.cons z32 (SumL.cons z30 (SumL.cons z2t (SumL.cons z2p (SumL.cons z2n (SumL.cons z1d (SumL.nil)))))))))))))))))))))))))))))))))))))))))))
theorem lt34_ok : LpL Try.prog fnTab lt34 := LpL.cons z0i (LpL.cons z0j (LpL.cons z1q (LpL.cons z02 (LpL.cons z04 (LpL.cons z1y (LpL.cons z08 (LpL.cons z0y (LpL.nil))))))))
noncomputable def tb35 : List (Nat × (List PT → Option (Bool × AV × List Blk))) := [(125, z1b), (128, z0h), (134, z0r), (137, z1c), (18, z1k), (48, z16), (54, z1w), (61, z1j), (97, z1v), (102, z2o), (109, z1l), (14, z1s), (51, z1r), (56, z28), (103, z20), (111, z27), (118, z10), (52, z1g), (119, z1h), (16, z1z), (57, z1o), (19, z22), (62, z2y), (99, z0a), (49, z2s), (99, z0f), (116, z31), (94, z2r), (98, z29), (117, z07), (117, z0c), (95, z2c), (96, z2k), (50, z2z), (55, z17), (53, z24), (59, z2j), (101, z36), (23, z34), (60, z33), (24, z2v), (25, z2w), (6, z1m)]
noncomputable def lt35 : List ((Nat × Nat) × (Nat → St → Option (Bool × LO))) := [((52, 3), z0o), ((57, 4), z0s), ((62, 5), z2b), ((99, 2), z03), ((99, 2), z05), ((50, 4), z2e), ((99, 2), z0d), ((53, 5), z1e)]
noncomputable def Γ35 : Ctx := ⟨tyTab, fnTab, tblSum tb35, tblLp lt35⟩
theorem tb35_ok : SumL Try.prog tb35 := SumL.cons z0p (SumL.cons z0g (SumL.cons z0k (SumL.cons z0q (SumL.cons z0u (SumL.cons z0n (SumL.cons z14 (SumL.cons z0v (SumL.cons z15 (SumL.cons z23 (SumL.cons z0t (SumL.cons z12 (SumL.cons z11 (SumL.cons z1p (SumL.cons z18 (SumL.cons z1n (SumL.cons z0m (SumL.cons z0w (SumL.cons z0x (SumL.cons z1a (SumL.cons z13 (SumL.cons z1i (SumL.cons z2i (SumL.cons z09 (SumL.cons z2d (SumL.cons z0e (SumL.cons z2l (SumL.cons z2a (SumL.cons z1x (SumL.cons z06 (SumL.cons z0b (SumL.cons z21 (SumL.cons z25 (SumL.cons z2m (SumL.cons z0z (SumL.cons z1u (SumL.cons z26 (SumL.cons z32 (SumL.cons z30 (SumL.cons z2t (SumL.cons z2p (SumL.cons z2n (SumL.cons z1d (SumL.nil)))))))))))))))))))))))))))))))))))))))))))
theorem lt35_ok : LpL Try.prog fnTab lt35 := LpL.cons z0i (LpL.cons z0j (LpL.cons z1q (LpL.cons z02 (LpL.cons z04 (LpL.cons z1y (LpL.cons z08 (LpL.cons z0y (LpL.nil))))))))
end Go.Proofs.Ytihlcjjbenkokaa
