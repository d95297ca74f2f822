/-
  What functions answer: that the evaluator answers so. Printed by a program.
-/
import Derived.Test.YtdmbbllcgpicbaaTurnRoseC
set_option linter.unusedVariables false
set_option linter.unusedSimpArgs false
set_option maxRecDepth 100000
set_option maxHeartbeats 4000000
namespace Go.Proofs.Ytdmbbllcgpicbaa
open Go Go.Rf
def z0r : List PT → Option (Bool × AV × List Blk)
  | [.one (.s (.flt .f64 x))] => some (bnot (nanQ .f64 x), A1 (.int .u64 x), [])
  | _ => none
theorem z0j : SumOne Try.prog 129 z0r := by
  intro pts v news hp w vals hv
  unfold z0r at hp
  split at hp
  · rename_i x
    injection hp with hp
    injection hp with h1 hp
    injection hp with h2 h3
    subst h2
    subst h3
    obtain ⟨l, hl⟩ : ∃ l, l = vals.toList := ⟨_, rfl⟩
    rw [← hl] at hv
    cases hv with
    | cons a1 a2 =>
      cases a2
      obtain ⟨b, hb1, hb2, hb3⟩ := a1
      subst hb1
      rename_i hx
      have hvals : vals = #[.float .f64 b] := by rw [← Array.toList_inj, ← hl]
      subst hvals
      have hn : nanB .f64 b = false := by rw [← nanB_cn, hb3]; simpa [bnot, nanQ] using h1
      rw [cn_of_not hn] at hb3
      subst hb3
      refine .inl ⟨_, w, by (simp only [callFunc, Sem.run_bind, run_program, Result.andThen_ok, Try.func129]; rfl), NoB, ⟨⟨(fun t b' h => by cases t <;> cases h), (fun t t' b1 b2 x x' _ h => by cases t <;> cases h)⟩, (fun t x h => by cases h), Fr.refl _ w⟩, rfl⟩
  · cases hp
def z0c : List PT → Option (Bool × AV × List Blk)
  | [.one (.s (.int .u64 x))] => some (okU .f64 x, A1 (.flt .f64 (cnI .f64 x)), [])
  | _ => none
theorem z09 : SumOne Try.prog 133 z0c := by
  intro pts v news hp w vals hv
  unfold z0c at hp
  split at hp
  · rename_i x
    injection hp with hp
    injection hp with h1 hp
    injection hp with h2 h3
    subst h2
    subst h3
    obtain ⟨l, hl⟩ : ∃ l, l = vals.toList := ⟨_, rfl⟩
    rw [← hl] at hv
    cases hv with
    | cons a1 a2 =>
      cases a2
      have hb1 : _ = Value.int .u64 x := a1
      subst hb1
      rename_i hx
      have hvals : vals = #[.int .u64 x] := by rw [← Array.toList_inj, ← hl]
      subst hvals
      have hw := okU_lt h1
      refine .inl ⟨_, w, by (simp only [callFunc, Sem.run_bind, run_program, Result.andThen_ok, Try.func133]; rfl), NoB, ⟨⟨(fun t b' h => by cases t <;> cases h), (fun t t' b1 b2 x x' _ h => by cases t <;> cases h)⟩, (fun t x h => by cases h), Fr.refl _ w⟩, ⟨_, rfl, hw, rfl⟩⟩
  · cases hp
def z0s : List PT → Option (Bool × AV × List Blk)
  | [.one (.s (.flt .f32 x))] => some (bnot (nanQ .f32 x), A1 (.int .u32 x), [])
  | _ => none
theorem z0i : SumOne Try.prog 137 z0s := by
  intro pts v news hp w vals hv
  unfold z0s at hp
  split at hp
  · rename_i x
    injection hp with hp
    injection hp with h1 hp
    injection hp with h2 h3
    subst h2
    subst h3
    obtain ⟨l, hl⟩ : ∃ l, l = vals.toList := ⟨_, rfl⟩
    rw [← hl] at hv
    cases hv with
    | cons a1 a2 =>
      cases a2
      obtain ⟨b, hb1, hb2, hb3⟩ := a1
      subst hb1
      rename_i hx
      have hvals : vals = #[.float .f32 b] := by rw [← Array.toList_inj, ← hl]
      subst hvals
      have hn : nanB .f32 b = false := by rw [← nanB_cn, hb3]; simpa [bnot, nanQ] using h1
      rw [cn_of_not hn] at hb3
      subst hb3
      refine .inl ⟨_, w, by (simp only [callFunc, Sem.run_bind, run_program, Result.andThen_ok, Try.func137]; rfl), NoB, ⟨⟨(fun t b' h => by cases t <;> cases h), (fun t t' b1 b2 x x' _ h => by cases t <;> cases h)⟩, (fun t x h => by cases h), Fr.refl _ w⟩, rfl⟩
  · cases hp
def z15 : List PT → Option (Bool × AV × List Blk)
  | [.one (.s (.flt .f64 x))] => some (bnot (nanQ .f64 x), A1 (.flt .f64 (fint .zero x)), [])
  | _ => none
theorem z0q : SumOne Try.prog 139 z15 := by
  intro pts v news hp w vals hv
  unfold z15 at hp
  split at hp
  · rename_i x
    injection hp with hp
    injection hp with h1 hp
    injection hp with h2 h3
    subst h2
    subst h3
    obtain ⟨l, hl⟩ : ∃ l, l = vals.toList := ⟨_, rfl⟩
    rw [← hl] at hv
    cases hv with
    | cons a1 a2 =>
      cases a2
      obtain ⟨b, hb1, hb2, hb3⟩ := a1
      subst hb1
      rename_i hx
      have hvals : vals = #[.float .f64 b] := by rw [← Array.toList_inj, ← hl]
      subst hvals
      have hn : nanB .f64 b = false := by rw [← nanB_cn, hb3]; simpa [bnot, nanQ] using h1
      rw [cn_of_not hn] at hb3
      subst hb3
      refine .inl ⟨_, w, by (simp only [callFunc, Sem.run_bind, run_program, Result.andThen_ok, Try.func139]; change (do let v ← Extern.MathFloor.toIntegral "math.archTrunc" .zero #[.float .f64 b]; pure (.value v) : Sem Next).run Try.prog w = _; rw [Sem.run_bind, run_fint hn]; rfl), NoB, ⟨⟨(fun t b' h => by cases t <;> cases h), (fun t t' b1 b2 x x' _ h => by cases t <;> cases h)⟩, (fun t x h => by cases h), Fr.refl _ w⟩, fint_rel hn⟩
  · cases hp
noncomputable def tb0 : List (Nat × (List PT → Option (Bool × AV × List Blk))) := [(129, z0r), (133, z0c), (137, z0s), (139, z15)]
noncomputable def lt0 : List ((Nat × Nat) × (Nat → St → Option (Bool × LO))) := []
noncomputable def Γ0 : Ctx := ⟨tyTab, fnTab, tblSum tb0, tblLp lt0⟩
theorem tb0_ok : SumL Try.prog tb0 := SumL.cons z0j (SumL.cons z09 (SumL.cons z0i (SumL.cons z0q (SumL.nil))))
theorem lt0_ok : LpL Try.prog fnTab lt0 := LpL.nil
noncomputable def z18 : List PT → Option (Bool × AV × List Blk)
  | [.one (.s (.flt .f64 a)), .one (.s (.flt .f64 b))] => some ((z8z a b), ((AV.v (TV.one (At.bool (z7s a b)))), []))
  | _ => none
def zab (a : Nat) (b : Nat) : Option (Bool) → Option (AV × List Blk)
  | some r => some ((AV.v (TV.one (At.bool r))), [])
  | none => none
theorem zcq (a : Nat) (b : Nat) : evFn Γ0 8 8 25 (impTs 0 [.one (.s (.flt .f64 a)), .one (.s (.flt .f64 b))]).1 (impTs 0 [.one (.s (.flt .f64 a)), .one (.s (.flt .f64 b))]).2 (expo (impTs 0 [.one (.s (.flt .f64 a)), .one (.s (.flt .f64 b))]).2.length) = z5f a b (fun c0_ => some ((AV.v (TV.one (At.bool c0_))), [])) := by kernel_rfl
theorem z0t : SumOne Try.prog 25 z18 := sum_of (Γ := Γ0) (fuel := 8) (d := 8) tyTab_ok (FnL.ok fnTab_ok _ _) (LpL.ok lt0_ok) (SumL.ok tb0_ok _) mixed (by
  intro pts v news hp hc
  clear hc
  unfold z18 at hp
  split at hp
  · rename_i a b
    exact Eq.trans (Eq.trans (zcq a b) (zb8 (zab a b) rfl a b (fun c0_ => some c0_))) (fin_out (o := (zab a b)) (x := z5d a b) (d := default) (V := fun r => ((AV.v (TV.one (At.bool r))), [])) (fun r => rfl) hp)
  · cases hp)
noncomputable def z26 : List PT → Option (Bool × AV × List Blk)
  | [.one (.s (.int .i64 n_)), .one (.s (.int .i64 low)), .one (.s (.int .i64 q0r))] => some ((z9w n_ low q0r), ((AV.v (TV.one (At.bool (z9u n_ low q0r)))), []))
  | _ => none
def zc1 (n_ : Int) (low : Int) (q0r : Int) : Option (Bool) → Option (AV × List Blk)
  | some r => some ((AV.v (TV.one (At.bool r))), [])
  | none => none
theorem zdc (n_ : Int) (low : Int) (q0r : Int) : evFn Γ0 8 8 59 (impTs 0 [.one (.s (.int .i64 n_)), .one (.s (.int .i64 low)), .one (.s (.int .i64 q0r))]).1 (impTs 0 [.one (.s (.int .i64 n_)), .one (.s (.int .i64 low)), .one (.s (.int .i64 q0r))]).2 (expo (impTs 0 [.one (.s (.int .i64 n_)), .one (.s (.int .i64 low)), .one (.s (.int .i64 q0r))]).2.length) = z7w n_ low q0r (fun c0_ => some ((AV.v (TV.one (At.bool c0_))), [])) := by kernel_rfl
theorem z1o : SumOne Try.prog 59 z26 := sum_of (Γ := Γ0) (fuel := 8) (d := 8) tyTab_ok (FnL.ok fnTab_ok _ _) (LpL.ok lt0_ok) (SumL.ok tb0_ok _) mixed (by
  intro pts v news hp hc
  clear hc
  unfold z26 at hp
  split at hp
  · rename_i n_ low q0r
    exact Eq.trans (Eq.trans (zdc n_ low q0r) (zcp (zc1 n_ low q0r) rfl n_ low q0r (fun c0_ => some c0_))) (fin_out (o := (zc1 n_ low q0r)) (x := z84 n_ low q0r) (d := default) (V := fun r => ((AV.v (TV.one (At.bool r))), [])) (fun r => rfl) hp)
  · cases hp)
noncomputable def z19 : List PT → Option (Bool × AV × List Blk)
  | [.one (.s (.flt .f32 x))] => some ((z91 x), ((AV.v (TV.one (At.bool (z7q x)))), []))
  | _ => none
def za9 (x : Nat) : Option (Bool) → Option (AV × List Blk)
  | some r => some ((AV.v (TV.one (At.bool r))), [])
  | none => none
theorem zcm (x : Nat) : evFn Γ0 8 8 64 (impTs 0 [.one (.s (.flt .f32 x))]).1 (impTs 0 [.one (.s (.flt .f32 x))]).2 (expo (impTs 0 [.one (.s (.flt .f32 x))]).2.length) = z6c x (fun c0_ => some ((AV.v (TV.one (At.bool c0_))), [])) := by kernel_rfl
theorem z0v : SumOne Try.prog 64 z19 := sum_of (Γ := Γ0) (fuel := 8) (d := 8) tyTab_ok (FnL.ok fnTab_ok _ _) (LpL.ok lt0_ok) (SumL.ok tb0_ok _) mixed (by
  intro pts v news hp hc
  clear hc
  unfold z19 at hp
  split at hp
  · rename_i x
    exact Eq.trans (Eq.trans (zcm x) (zbd (za9 x) rfl x (fun c0_ => some c0_))) (fin_out (o := (za9 x)) (x := z6o x) (d := default) (V := fun r => ((AV.v (TV.one (At.bool r))), [])) (fun r => rfl) hp)
  · cases hp)
noncomputable def z20 : List PT → Option (Bool × AV × List Blk)
  | [.one (.s (.int .i64 n_)), .one (.s (.int .i64 low)), .one (.s (.int .i64 q0r))] => some ((z9v n_ low q0r), ((AV.v (TV.one (At.bool (z9p n_ low q0r)))), []))
  | _ => none
def zbk (n_ : Int) (low : Int) (q0r : Int) : Option (Bool) → Option (AV × List Blk)
  | some r => some ((AV.v (TV.one (At.bool r))), [])
  | none => none
theorem zd7 (n_ : Int) (low : Int) (q0r : Int) : evFn Γ0 8 8 66 (impTs 0 [.one (.s (.int .i64 n_)), .one (.s (.int .i64 low)), .one (.s (.int .i64 q0r))]).1 (impTs 0 [.one (.s (.int .i64 n_)), .one (.s (.int .i64 low)), .one (.s (.int .i64 q0r))]).2 (expo (impTs 0 [.one (.s (.int .i64 n_)), .one (.s (.int .i64 low)), .one (.s (.int .i64 q0r))]).2.length) = z6z n_ low q0r (fun c0_ => some ((AV.v (TV.one (At.bool c0_))), [])) := by kernel_rfl
theorem z1h : SumOne Try.prog 66 z20 := sum_of (Γ := Γ0) (fuel := 8) (d := 8) tyTab_ok (FnL.ok fnTab_ok _ _) (LpL.ok lt0_ok) (SumL.ok tb0_ok _) mixed (by
  intro pts v news hp hc
  clear hc
  unfold z20 at hp
  split at hp
  · rename_i n_ low q0r
    exact Eq.trans (Eq.trans (zd7 n_ low q0r) (zcg (zbk n_ low q0r) rfl n_ low q0r (fun c0_ => some c0_))) (fin_out (o := (zbk n_ low q0r)) (x := z72 n_ low q0r) (d := default) (V := fun r => ((AV.v (TV.one (At.bool r))), [])) (fun r => rfl) hp)
  · cases hp)
noncomputable def z11 : List PT → Option (Bool × AV × List Blk)
  | [.one (.row 1 a_n (.fl .f32 a)), .one (.s (.int .i64 q0o))] => some ((z5w a_n a q0o), ((AV.v (TV.one (At.int IntKind.i64 (z3n a_n a q0o)))), []))
  | _ => none
def za5 (a_n : Nat) (a : List Nat) (q0o : Int) : Option (Int) → Option (AV × List Blk)
  | some r => some ((AV.v (TV.one (At.int IntKind.i64 r))), [])
  | none => none
theorem zcc (a_n : Nat) (a : List Nat) (q0o : Int) : evFn Γ0 8 8 70 (impTs 0 [.one (.row 1 a_n (.fl .f32 a)), .one (.s (.int .i64 q0o))]).1 (impTs 0 [.one (.row 1 a_n (.fl .f32 a)), .one (.s (.int .i64 q0o))]).2 (expo (impTs 0 [.one (.row 1 a_n (.fl .f32 a)), .one (.s (.int .i64 q0o))]).2.length) = z52 a_n a q0o (fun c0_ => some ((AV.v (TV.one (At.int IntKind.i64 c0_))), [])) := by kernel_rfl
theorem z0o : SumOne Try.prog 70 z11 := sum_of (Γ := Γ0) (fuel := 8) (d := 8) tyTab_ok (FnL.ok fnTab_ok _ _) (LpL.ok lt0_ok) (SumL.ok tb0_ok _) mixed (by
  intro pts v news hp hc
  clear hc
  unfold z11 at hp
  split at hp
  · rename_i a_n a q0o
    exact Eq.trans (Eq.trans (zcc a_n a q0o) (zb1 (za5 a_n a q0o) rfl a_n a q0o (fun c0_ => some c0_))) (fin_out (o := (za5 a_n a q0o)) (x := z51 a_n a q0o) (d := default) (V := fun r => ((AV.v (TV.one (At.int IntKind.i64 r))), [])) (fun r => rfl) hp)
  · cases hp)
noncomputable def z1j : List PT → Option (Bool × AV × List Blk)
  | [.one (.s (.flt .f32 x))] => some ((z9i x), ((AV.v (TV.one (At.bool (z8v x)))), []))
  | _ => none
def zak (x : Nat) : Option (Bool) → Option (AV × List Blk)
  | some r => some ((AV.v (TV.one (At.bool r))), [])
  | none => none
theorem zd0 (x : Nat) : evFn Γ0 8 8 78 (impTs 0 [.one (.s (.flt .f32 x))]).1 (impTs 0 [.one (.s (.flt .f32 x))]).2 (expo (impTs 0 [.one (.s (.flt .f32 x))]).2.length) = z7d x (fun c0_ => some ((AV.v (TV.one (At.bool c0_))), [])) := by kernel_rfl
theorem z10 : SumOne Try.prog 78 z1j := sum_of (Γ := Γ0) (fuel := 8) (d := 8) tyTab_ok (FnL.ok fnTab_ok _ _) (LpL.ok lt0_ok) (SumL.ok tb0_ok _) mixed (by
  intro pts v news hp hc
  clear hc
  unfold z1j at hp
  split at hp
  · rename_i x
    exact Eq.trans (Eq.trans (zd0 x) (zbv (zak x) rfl x (fun c0_ => some c0_))) (fin_out (o := (zak x)) (x := z7g x) (d := default) (V := fun r => ((AV.v (TV.one (At.bool r))), [])) (fun r => rfl) hp)
  · cases hp)
noncomputable def tb1 : List (Nat × (List PT → Option (Bool × AV × List Blk))) := [(129, z0r), (133, z0c), (137, z0s), (139, z15), (25, z18), (59, z26), (64, z19), (66, z20), (70, z11), (78, z1j)]
noncomputable def lt1 : List ((Nat × Nat) × (Nat → St → Option (Bool × LO))) := []
noncomputable def Γ1 : Ctx := ⟨tyTab, fnTab, tblSum tb1, tblLp lt1⟩
theorem tb1_ok : SumL Try.prog tb1 := SumL.cons z0j (SumL.cons z09 (SumL.cons z0i (SumL.cons z0q (SumL.cons z0t (SumL.cons z1o (SumL.cons z0v (SumL.cons z1h (SumL.cons z0o (SumL.cons z10 (SumL.nil))))))))))
theorem lt1_ok : LpL Try.prog fnTab lt1 := LpL.nil
noncomputable def z21 : List PT → Option (Bool × AV × List Blk)
  | [.agg [.row 1 q06 (.fl .f32 q0c), .row 1 q07 (.fl .f32 q0f)], .one (.s (.int .i64 q0o))] => some ((z9d q06 q0c q07 q0f q0o), ((AV.v (TV.one (At.int IntKind.i64 (z7u q06 q0c q07 q0f q0o)))), []))
  | _ => none
def zbl (q06 : Nat) (q0c : List Nat) (q07 : Nat) (q0f : List Nat) (q0o : Int) : Option (Int) → Option (AV × List Blk)
  | some r => some ((AV.v (TV.one (At.int IntKind.i64 r))), [])
  | none => none
theorem zdb (q06 : Nat) (q0c : List Nat) (q07 : Nat) (q0f : List Nat) (q0o : Int) : evFn Γ1 8 8 21 (impTs 0 [.agg [.row 1 q06 (.fl .f32 q0c), .row 1 q07 (.fl .f32 q0f)], .one (.s (.int .i64 q0o))]).1 (impTs 0 [.agg [.row 1 q06 (.fl .f32 q0c), .row 1 q07 (.fl .f32 q0f)], .one (.s (.int .i64 q0o))]).2 (expo (impTs 0 [.agg [.row 1 q06 (.fl .f32 q0c), .row 1 q07 (.fl .f32 q0f)], .one (.s (.int .i64 q0o))]).2.length) = z71 q06 q0c q07 q0f q0o (fun c0_ => some ((AV.v (TV.one (At.int IntKind.i64 c0_))), [])) := by kernel_rfl
theorem z1l : SumOne Try.prog 21 z21 := sum_of (Γ := Γ1) (fuel := 8) (d := 8) tyTab_ok (FnL.ok fnTab_ok _ _) (LpL.ok lt1_ok) (SumL.ok tb1_ok _) mixed (by
  intro pts v news hp hc
  clear hc
  unfold z21 at hp
  split at hp
  · rename_i q06 q0c q07 q0f q0o
    exact Eq.trans (Eq.trans (zdb q06 q0c q07 q0f q0o) (zck (zbl q06 q0c q07 q0f q0o) rfl q06 q0c q07 q0f q0o (fun c0_ => some c0_))) (fin_out (o := (zbl q06 q0c q07 q0f q0o)) (x := z70 q06 q0c q07 q0f q0o) (d := default) (V := fun r => ((AV.v (TV.one (At.int IntKind.i64 r))), [])) (fun r => rfl) hp)
  · cases hp)
noncomputable def z1m : List PT → Option (Bool × AV × List Blk)
  | [.one (.s (.flt .f32 x))] => some ((z78 x), ((AV.v (TV.one (At.bool (z6a x)))), []))
  | _ => none
def zao (x : Nat) : Option (Bool) → Option (AV × List Blk)
  | some r => some ((AV.v (TV.one (At.bool r))), [])
  | none => none
theorem zcx (x : Nat) : evFn Γ1 8 8 58 (impTs 0 [.one (.s (.flt .f32 x))]).1 (impTs 0 [.one (.s (.flt .f32 x))]).2 (expo (impTs 0 [.one (.s (.flt .f32 x))]).2.length) = z5p x (fun c0_ => some ((AV.v (TV.one (At.bool c0_))), [])) := by kernel_rfl
theorem z13 : SumOne Try.prog 58 z1m := sum_of (Γ := Γ1) (fuel := 8) (d := 8) tyTab_ok (FnL.ok fnTab_ok _ _) (LpL.ok lt1_ok) (SumL.ok tb1_ok _) mixed (by
  intro pts v news hp hc
  clear hc
  unfold z1m at hp
  split at hp
  · rename_i x
    exact Eq.trans (Eq.trans (zcx x) (zbt (zao x) rfl x (fun c0_ => some c0_))) (fin_out (o := (zao x)) (x := z5n x) (d := default) (V := fun r => ((AV.v (TV.one (At.bool r))), [])) (fun r => rfl) hp)
  · cases hp)
noncomputable def z1u : List PT → Option (Bool × AV × List Blk)
  | [.one (.s (.flt .f32 x))] => some ((z9n x), ((AV.v (TV.one (At.bool (z9h x)))), []))
  | _ => none
def zaz (x : Nat) : Option (Bool) → Option (AV × List Blk)
  | some r => some ((AV.v (TV.one (At.bool r))), [])
  | none => none
theorem zd6 (x : Nat) : evFn Γ1 8 8 67 (impTs 0 [.one (.s (.flt .f32 x))]).1 (impTs 0 [.one (.s (.flt .f32 x))]).2 (expo (impTs 0 [.one (.s (.flt .f32 x))]).2.length) = z67 x (fun c0_ => some ((AV.v (TV.one (At.bool c0_))), [])) := by kernel_rfl
theorem z1a : SumOne Try.prog 67 z1u := sum_of (Γ := Γ1) (fuel := 8) (d := 8) tyTab_ok (FnL.ok fnTab_ok _ _) (LpL.ok lt1_ok) (SumL.ok tb1_ok _) mixed (by
  intro pts v news hp hc
  clear hc
  unfold z1u at hp
  split at hp
  · rename_i x
    exact Eq.trans (Eq.trans (zd6 x) (zc3 (zaz x) rfl x (fun c0_ => some c0_))) (fin_out (o := (zaz x)) (x := z65 x) (d := default) (V := fun r => ((AV.v (TV.one (At.bool r))), [])) (fun r => rfl) hp)
  · cases hp)
noncomputable def z0e : Nat → St → Option (Bool × LO)
  | 1, (St.mk [(0, (AV.v (TV.one (At.vw 0 0 an 1)))), (1, (AV.v (TV.one (At.int IntKind.i64 k)))), (5, (AV.v (TV.one (At.int IntKind.i64 i))))] [(Blk.mk Bool.false (Body.fl FloatKind.f32 b0))]) => some ((z5g an b0 k i), (LO.two (z57 an b0 k i) (LO.one Ex.ret (St.mk [(4, (AV.v (TV.one (At.int IntKind.i64 (Int.negSucc 0)))))] [(Blk.mk Bool.false (Body.fl FloatKind.f32 b0))])) (LO.one (Ex.exit 0) (St.mk [(0, (AV.v (TV.one (At.vw 0 0 an 1)))), (1, (AV.v (TV.one (At.int IntKind.i64 (z4q an b0 k i))))), (5, (AV.v (TV.one (At.int IntKind.i64 (z61 an b0 k i))))), (9, (AV.v (TV.one (At.bool (z60 an b0 k i)))))] [(Blk.mk Bool.false (Body.fl FloatKind.f32 b0))]))))
  | _, _ => none
def z4g (an : Nat) (b0 : List Nat) : Option ((Unit) ⊕ (Int × Int × Bool)) → Option (Ex × St)
  | none => none
  | some (Sum.inl r) => some (Ex.ret, (St.mk [(4, (AV.v (TV.one (At.int IntKind.i64 (Int.negSucc 0)))))] [(Blk.mk Bool.false (Body.fl FloatKind.f32 b0))]))
  | some (Sum.inr r) => some ((Ex.exit 0), (St.mk [(0, (AV.v (TV.one (At.vw 0 0 an 1)))), (1, (AV.v (TV.one (At.int IntKind.i64 r.1)))), (5, (AV.v (TV.one (At.int IntKind.i64 r.2.1)))), (9, (AV.v (TV.one (At.bool r.2.2))))] [(Blk.mk Bool.false (Body.fl FloatKind.f32 b0))]))
def zai (an : Nat) (b0 : List Nat) (x : Option ((Unit) ⊕ (Int × Int × Bool))) : LO := (LO.two (oL x) (LO.one Ex.ret (St.mk [(4, (AV.v (TV.one (At.int IntKind.i64 (Int.negSucc 0)))))] [(Blk.mk Bool.false (Body.fl FloatKind.f32 b0))])) (LO.one (Ex.exit 0) (St.mk [(0, (AV.v (TV.one (At.vw 0 0 an 1)))), (1, (AV.v (TV.one (At.int IntKind.i64 ((tR x).getD default).1)))), (5, (AV.v (TV.one (At.int IntKind.i64 ((tR x).getD default).2.1)))), (9, (AV.v (TV.one (At.bool ((tR x).getD default).2.2))))] [(Blk.mk Bool.false (Body.fl FloatKind.f32 b0))])))
theorem zaw (an : Nat) (b0 : List Nat) : ∀ x : Option ((Unit) ⊕ (Int × Int × Bool)), x.isSome = true → (z4g an b0) x = some (pick (zai an b0 x))
  | none, h => by cases h
  | some (Sum.inl r), _ => rfl
  | some (Sum.inr r), _ => rfl
theorem zaq (an : Nat) (k : Int) (i : Int) (b0 : List Nat) (K : Ex → St → Option (Ex × St)) : evC (R := Ex × St) Γ1 (evFn Γ1 8 8) 20 1 fi20.nt fi20.live fi20.nl 8 (findL 2 (loopsIn fi20.code)) (St.mk [(0, (AV.v (TV.one (At.vw 0 0 an 1)))), (1, (AV.v (TV.one (At.int IntKind.i64 k)))), (5, (AV.v (TV.one (At.int IntKind.i64 i))))] [(Blk.mk Bool.false (Body.fl FloatKind.f32 b0))]) K = z33 an b0 k i (fun k' i' => K .normal (St.mk [(0, (AV.v (TV.one (At.vw 0 0 an 1)))), (1, (AV.v (TV.one (At.int IntKind.i64 k')))), (5, (AV.v (TV.one (At.int IntKind.i64 i'))))] [(Blk.mk Bool.false (Body.fl FloatKind.f32 b0))])) (fun _ => K Ex.ret (St.mk [(4, (AV.v (TV.one (At.int IntKind.i64 (Int.negSucc 0)))))] [(Blk.mk Bool.false (Body.fl FloatKind.f32 b0))])) (fun c0_ c1_ c2_ => K (Ex.exit 0) (St.mk [(0, (AV.v (TV.one (At.vw 0 0 an 1)))), (1, (AV.v (TV.one (At.int IntKind.i64 c0_)))), (5, (AV.v (TV.one (At.int IntKind.i64 c1_)))), (9, (AV.v (TV.one (At.bool c2_))))] [(Blk.mk Bool.false (Body.fl FloatKind.f32 b0))])) := by kernel_rfl
theorem zav (an : Nat) (b0 : List Nat) : ∀ (n : Nat) (k : Int) (i : Int), iter 20 2 1 (evC (R := Ex × St) Γ1 (evFn Γ1 8 8) 20 1 fi20.nt fi20.live fi20.nl 8 (findL 2 (loopsIn fi20.code))) n (St.mk [(0, (AV.v (TV.one (At.vw 0 0 an 1)))), (1, (AV.v (TV.one (At.int IntKind.i64 k)))), (5, (AV.v (TV.one (At.int IntKind.i64 i))))] [(Blk.mk Bool.false (Body.fl FloatKind.f32 b0))]) (fun e st => some (e, st)) = (z4g an b0) (z2g an b0 n k i) := by
  intro n
  induction n with
  | zero => intros; rfl
  | succ n ih =>
    intro k i
    refine Eq.trans (iter_succ ..) (Eq.trans (zaq an k i b0 (nextK 20 2 1 (evC (R := Ex × St) Γ1 (evFn Γ1 8 8) 20 1 fi20.nt fi20.live fi20.nl 8 (findL 2 (loopsIn fi20.code))) n (fun e st => some (e, st)))) (Eq.trans ?_ (za3 (z4g an b0) rfl an b0 k i (fun k' i' => z2g an b0 n k' i') (fun _ => some (Sum.inl ())) (fun c0_ c1_ c2_ => some (Sum.inr (c0_, c1_, c2_))))))
    exact congrArg (fun kn_ => z33 an b0 k i kn_ (fun _ => (z4g an b0) (some (Sum.inl ()))) (fun c0_ c1_ c2_ => (z4g an b0) (some (Sum.inr (c0_, c1_, c2_))))) (funext fun k' => funext fun i' => ih k' i')
theorem z0b : LoopOne Try.prog fnTab 20 2 z0e := lp_of (Γ := Γ1) tyTab_ok (FnL.ok fnTab_ok _ _) (LpL.ok lt1_ok) (SumL.ok tb1_ok _) mixed (fi := fi20) (by kernel_rfl) (by kernel_rfl) (by
  intro lo st out hp
  unfold z0e at hp
  split at hp
  · rename_i an k i b0
    injection hp with hp
    injection hp with h1 h2
    subst h2
    exact ⟨8, 8, big, Eq.trans (zav an b0 big k i) (zaw an b0 (z2g an b0 big k i) h1)⟩
  · cases hp)
noncomputable def z0m : Nat → St → Option (Bool × LO)
  | 1, (St.mk [(0, (AV.v (TV.one (At.vw 0 0 an 1)))), (3, (AV.v (TV.one (At.sl 1 0 q0s 1)))), (4, (AV.v (TV.one (At.int IntKind.i64 i))))] [(Blk.mk Bool.false (Body.fl FloatKind.f32 b0)), (Blk.mk Bool.true (Body.fl FloatKind.f32 b1))]) => some ((z4s an q0s b0 i b1), (LO.one (Ex.exit 0) (St.mk [(0, (AV.v (TV.one (At.vw 0 0 an 1)))), (3, (AV.v (TV.one (At.sl 1 0 q0s 1)))), (4, (AV.v (TV.one (At.int IntKind.i64 (z6q an q0s b0 i b1))))), (11, (AV.v (TV.one (At.bool (z6s an q0s b0 i b1)))))] [(Blk.mk Bool.false (Body.fl FloatKind.f32 b0)), (Blk.mk Bool.true (Body.fl FloatKind.f32 (z4b an q0s b0 i b1)))])))
  | _, _ => none
def z5z (an : Nat) (q0s : Nat) (b0 : List Nat) : Option ((Int × Bool × (List Nat))) → Option (Ex × St)
  | none => none
  | some r => some ((Ex.exit 0), (St.mk [(0, (AV.v (TV.one (At.vw 0 0 an 1)))), (3, (AV.v (TV.one (At.sl 1 0 q0s 1)))), (4, (AV.v (TV.one (At.int IntKind.i64 r.1)))), (11, (AV.v (TV.one (At.bool r.2.1))))] [(Blk.mk Bool.false (Body.fl FloatKind.f32 b0)), (Blk.mk Bool.true (Body.fl FloatKind.f32 r.2.2))]))
def zb4 (an : Nat) (q0s : Nat) (b0 : List Nat) (x : Option ((Int × Bool × (List Nat)))) : LO := (LO.one (Ex.exit 0) (St.mk [(0, (AV.v (TV.one (At.vw 0 0 an 1)))), (3, (AV.v (TV.one (At.sl 1 0 q0s 1)))), (4, (AV.v (TV.one (At.int IntKind.i64 (x.getD default).1)))), (11, (AV.v (TV.one (At.bool (x.getD default).2.1))))] [(Blk.mk Bool.false (Body.fl FloatKind.f32 b0)), (Blk.mk Bool.true (Body.fl FloatKind.f32 (x.getD default).2.2))]))
theorem zbc (an : Nat) (q0s : Nat) (b0 : List Nat) : ∀ x : Option ((Int × Bool × (List Nat))), x.isSome = true → (z5z an q0s b0) x = some (pick (zb4 an q0s b0 x))
  | none, h => by cases h
  | some r, _ => rfl
theorem zbb (an : Nat) (q0s : Nat) (i : Int) (b0 : List Nat) (b1 : List Nat) (K : Ex → St → Option (Ex × St)) : evC (R := Ex × St) Γ1 (evFn Γ1 8 8) 74 1 fi74.nt fi74.live fi74.nl 8 (findL 3 (loopsIn fi74.code)) (St.mk [(0, (AV.v (TV.one (At.vw 0 0 an 1)))), (3, (AV.v (TV.one (At.sl 1 0 q0s 1)))), (4, (AV.v (TV.one (At.int IntKind.i64 i))))] [(Blk.mk Bool.false (Body.fl FloatKind.f32 b0)), (Blk.mk Bool.true (Body.fl FloatKind.f32 b1))]) K = z3g an q0s b0 i b1 (fun i' b1' => K .normal (St.mk [(0, (AV.v (TV.one (At.vw 0 0 an 1)))), (3, (AV.v (TV.one (At.sl 1 0 q0s 1)))), (4, (AV.v (TV.one (At.int IntKind.i64 i'))))] [(Blk.mk Bool.false (Body.fl FloatKind.f32 b0)), (Blk.mk Bool.true (Body.fl FloatKind.f32 b1'))])) (fun c0_ c1_ c2_ => K (Ex.exit 0) (St.mk [(0, (AV.v (TV.one (At.vw 0 0 an 1)))), (3, (AV.v (TV.one (At.sl 1 0 q0s 1)))), (4, (AV.v (TV.one (At.int IntKind.i64 c0_)))), (11, (AV.v (TV.one (At.bool c1_))))] [(Blk.mk Bool.false (Body.fl FloatKind.f32 b0)), (Blk.mk Bool.true (Body.fl FloatKind.f32 c2_))])) := by kernel_rfl
theorem zbg (an : Nat) (q0s : Nat) (b0 : List Nat) : ∀ (n : Nat) (i : Int) (b1 : List Nat), iter 74 3 1 (evC (R := Ex × St) Γ1 (evFn Γ1 8 8) 74 1 fi74.nt fi74.live fi74.nl 8 (findL 3 (loopsIn fi74.code))) n (St.mk [(0, (AV.v (TV.one (At.vw 0 0 an 1)))), (3, (AV.v (TV.one (At.sl 1 0 q0s 1)))), (4, (AV.v (TV.one (At.int IntKind.i64 i))))] [(Blk.mk Bool.false (Body.fl FloatKind.f32 b0)), (Blk.mk Bool.true (Body.fl FloatKind.f32 b1))]) (fun e st => some (e, st)) = (z5z an q0s b0) (z2t an q0s b0 n i b1) := by
  intro n
  induction n with
  | zero => intros; rfl
  | succ n ih =>
    intro i b1
    refine Eq.trans (iter_succ ..) (Eq.trans (zbb an q0s i b0 b1 (nextK 74 3 1 (evC (R := Ex × St) Γ1 (evFn Γ1 8 8) 74 1 fi74.nt fi74.live fi74.nl 8 (findL 3 (loopsIn fi74.code))) n (fun e st => some (e, st)))) (Eq.trans ?_ (zaa (z5z an q0s b0) rfl an q0s b0 i b1 (fun i' b1' => z2t an q0s b0 n i' b1') (fun c0_ c1_ c2_ => some (c0_, c1_, c2_)))))
    exact congrArg (fun kn_ => z3g an q0s b0 i b1 kn_ (fun c0_ c1_ c2_ => (z5z an q0s b0) (some (c0_, c1_, c2_)))) (funext fun i' => funext fun b1' => ih i' b1')
theorem z0g : LoopOne Try.prog fnTab 74 3 z0m := lp_of (Γ := Γ1) tyTab_ok (FnL.ok fnTab_ok _ _) (LpL.ok lt1_ok) (SumL.ok tb1_ok _) mixed (fi := fi74) (by kernel_rfl) (by kernel_rfl) (by
  intro lo st out hp
  unfold z0m at hp
  split at hp
  · rename_i an q0s i b0 b1
    injection hp with hp
    injection hp with h1 h2
    subst h2
    exact ⟨8, 8, big, Eq.trans (zbg an q0s b0 big i b1) (zbc an q0s b0 (z2t an q0s b0 big i b1) h1)⟩
  · cases hp)
noncomputable def tb2 : List (Nat × (List PT → Option (Bool × AV × List Blk))) := [(129, z0r), (133, z0c), (137, z0s), (139, z15), (25, z18), (59, z26), (64, z19), (66, z20), (70, z11), (78, z1j), (21, z21), (58, z1m), (67, z1u)]
noncomputable def lt2 : List ((Nat × Nat) × (Nat → St → Option (Bool × LO))) := [((20, 2), z0e), ((74, 3), z0m)]
noncomputable def Γ2 : Ctx := ⟨tyTab, fnTab, tblSum tb2, tblLp lt2⟩
theorem tb2_ok : SumL Try.prog tb2 := SumL.cons z0j (SumL.cons z09 (SumL.cons z0i (SumL.cons z0q (SumL.cons z0t (SumL.cons z1o (SumL.cons z0v (SumL.cons z1h (SumL.cons z0o (SumL.cons z10 (SumL.cons z1l (SumL.cons z13 (SumL.cons z1a (SumL.nil)))))))))))))
theorem lt2_ok : LpL Try.prog fnTab lt2 := LpL.cons z0b (LpL.cons z0g (LpL.nil))
noncomputable def z0u : List PT → Option (Bool × AV × List Blk)
  | [.one (.row 1 a_n (.fl .f32 a)), .one (.s (.int .i64 k))] => some ((z5a a_n a k), ((AV.v (TV.one (At.int IntKind.i64 (z3h a_n a k)))), []))
  | _ => none
def z9y (a_n : Nat) (a : List Nat) (k : Int) : Option (Int) → Option (AV × List Blk)
  | some r => some ((AV.v (TV.one (At.int IntKind.i64 r))), [])
  | none => none
theorem zbm (a_n : Nat) (a : List Nat) (k : Int) : evFn Γ2 8 8 20 (impTs 0 [.one (.row 1 a_n (.fl .f32 a)), .one (.s (.int .i64 k))]).1 (impTs 0 [.one (.row 1 a_n (.fl .f32 a)), .one (.s (.int .i64 k))]).2 (expo (impTs 0 [.one (.row 1 a_n (.fl .f32 a)), .one (.s (.int .i64 k))]).2.length) = z4f a_n a k (fun c0_ => some ((AV.v (TV.one (At.int IntKind.i64 c0_))), [])) := by kernel_rfl
theorem z0l : SumOne Try.prog 20 z0u := sum_of (Γ := Γ2) (fuel := 8) (d := 8) tyTab_ok (FnL.ok fnTab_ok _ _) (LpL.ok lt2_ok) (SumL.ok tb2_ok _) mixed (by
  intro pts v news hp hc
  clear hc
  unfold z0u at hp
  split at hp
  · rename_i a_n a k
    exact Eq.trans (Eq.trans (zbm a_n a k) (zag (z9y a_n a k) rfl a_n a k (fun c0_ => some c0_))) (fin_out (o := (z9y a_n a k)) (x := z4e a_n a k) (d := default) (V := fun r => ((AV.v (TV.one (At.int IntKind.i64 r))), [])) (fun r => rfl) hp)
  · cases hp)
noncomputable def z16 : List PT → Option (Bool × AV × List Blk)
  | [.one (.row 1 a_n (.fl .f32 a))] => some ((z5v a_n a), ((AV.v (TV.one (At.sl 0 0 (z5j a_n a) 1))), [(Blk.mk Bool.true (Body.fl FloatKind.f32 (z5l a_n a)))]))
  | _ => none
def za4 (a_n : Nat) (a : List Nat) : Option (Nat × (List Nat)) → Option (AV × List Blk)
  | some r => some ((AV.v (TV.one (At.sl 0 0 r.1 1))), [(Blk.mk Bool.true (Body.fl FloatKind.f32 r.2))])
  | none => none
theorem zcf (a_n : Nat) (a : List Nat) : evFn Γ2 8 8 74 (impTs 0 [.one (.row 1 a_n (.fl .f32 a))]).1 (impTs 0 [.one (.row 1 a_n (.fl .f32 a))]).2 (expo (impTs 0 [.one (.row 1 a_n (.fl .f32 a))]).2.length) = z54 a_n a (fun c0_ c1_ => some ((AV.v (TV.one (At.sl 0 0 c0_ 1))), [(Blk.mk Bool.true (Body.fl FloatKind.f32 c1_))])) := by kernel_rfl
theorem z0x : SumOne Try.prog 74 z16 := sum_of (Γ := Γ2) (fuel := 8) (d := 8) tyTab_ok (FnL.ok fnTab_ok _ _) (LpL.ok lt2_ok) (SumL.ok tb2_ok _) mixed (by
  intro pts v news hp hc
  clear hc
  unfold z16 at hp
  split at hp
  · rename_i a_n a
    exact Eq.trans (Eq.trans (zcf a_n a) (zb6 (za4 a_n a) rfl a_n a (fun c0_ c1_ => some (c0_, c1_)))) (fin_out (o := (za4 a_n a)) (x := z4d a_n a) (d := default) (V := fun r => ((AV.v (TV.one (At.sl 0 0 r.1 1))), [(Blk.mk Bool.true (Body.fl FloatKind.f32 r.2))])) (fun r => rfl) hp)
  · cases hp)
noncomputable def z17 : List PT → Option (Bool × AV × List Blk)
  | [.one (.s (.flt .f32 x))] => some ((z7t x), ((AV.v (TV.one (At.bool (z76 x)))), []))
  | _ => none
def za6 (x : Nat) : Option (Bool) → Option (AV × List Blk)
  | some r => some ((AV.v (TV.one (At.bool r))), [])
  | none => none
theorem zch (x : Nat) : evFn Γ2 8 8 126 (impTs 0 [.one (.s (.flt .f32 x))]).1 (impTs 0 [.one (.s (.flt .f32 x))]).2 (expo (impTs 0 [.one (.s (.flt .f32 x))]).2.length) = z50 x (fun c0_ => some ((AV.v (TV.one (At.bool c0_))), [])) := by kernel_rfl
theorem z0w : SumOne Try.prog 126 z17 := sum_of (Γ := Γ2) (fuel := 8) (d := 8) tyTab_ok (FnL.ok fnTab_ok _ _) (LpL.ok lt2_ok) (SumL.ok tb2_ok _) mixed (by
  intro pts v news hp hc
  clear hc
  unfold z17 at hp
  split at hp
  · rename_i x
    exact Eq.trans (Eq.trans (zch x) (zb0 (za6 x) rfl x (fun c0_ => some c0_))) (fin_out (o := (za6 x)) (x := z53 x) (d := default) (V := fun r => ((AV.v (TV.one (At.bool r))), [])) (fun r => rfl) hp)
  · cases hp)
noncomputable def z0p : Nat → St → Option (Bool × LO)
  | 2, (St.mk [(0, (AV.v (TV.one (At.vw 0 0 an 1)))), (1, (AV.v (TV.one (At.vw 1 0 bn 1)))), (5, (AV.v (TV.one (At.int IntKind.i64 i))))] [(Blk.mk Bool.false (Body.fl FloatKind.f32 b0)), (Blk.mk Bool.false (Body.fl FloatKind.f32 b1))]) => some ((z62 an bn b0 b1 i), (LO.two (z5s an bn b0 b1 i) (LO.one Ex.ret (St.mk [(4, (AV.v (TV.one (At.bool Bool.false))))] [(Blk.mk Bool.false (Body.fl FloatKind.f32 b0)), (Blk.mk Bool.false (Body.fl FloatKind.f32 b1))])) (LO.one (Ex.exit 0) (St.mk [(0, (AV.v (TV.one (At.vw 0 0 an 1)))), (1, (AV.v (TV.one (At.vw 1 0 bn 1)))), (5, (AV.v (TV.one (At.int IntKind.i64 (z6p an bn b0 b1 i))))), (14, (AV.v (TV.one (At.bool (z6x an bn b0 b1 i)))))] [(Blk.mk Bool.false (Body.fl FloatKind.f32 b0)), (Blk.mk Bool.false (Body.fl FloatKind.f32 b1))]))))
  | _, _ => none
def z4t (an : Nat) (bn : Nat) (b0 : List Nat) (b1 : List Nat) : Option ((Unit) ⊕ (Int × Bool)) → Option (Ex × St)
  | none => none
  | some (Sum.inl r) => some (Ex.ret, (St.mk [(4, (AV.v (TV.one (At.bool Bool.false))))] [(Blk.mk Bool.false (Body.fl FloatKind.f32 b0)), (Blk.mk Bool.false (Body.fl FloatKind.f32 b1))]))
  | some (Sum.inr r) => some ((Ex.exit 0), (St.mk [(0, (AV.v (TV.one (At.vw 0 0 an 1)))), (1, (AV.v (TV.one (At.vw 1 0 bn 1)))), (5, (AV.v (TV.one (At.int IntKind.i64 r.1)))), (14, (AV.v (TV.one (At.bool r.2))))] [(Blk.mk Bool.false (Body.fl FloatKind.f32 b0)), (Blk.mk Bool.false (Body.fl FloatKind.f32 b1))]))
def zb2 (an : Nat) (bn : Nat) (b0 : List Nat) (b1 : List Nat) (x : Option ((Unit) ⊕ (Int × Bool))) : LO := (LO.two (oL x) (LO.one Ex.ret (St.mk [(4, (AV.v (TV.one (At.bool Bool.false))))] [(Blk.mk Bool.false (Body.fl FloatKind.f32 b0)), (Blk.mk Bool.false (Body.fl FloatKind.f32 b1))])) (LO.one (Ex.exit 0) (St.mk [(0, (AV.v (TV.one (At.vw 0 0 an 1)))), (1, (AV.v (TV.one (At.vw 1 0 bn 1)))), (5, (AV.v (TV.one (At.int IntKind.i64 ((tR x).getD default).1)))), (14, (AV.v (TV.one (At.bool ((tR x).getD default).2))))] [(Blk.mk Bool.false (Body.fl FloatKind.f32 b0)), (Blk.mk Bool.false (Body.fl FloatKind.f32 b1))])))
theorem zb7 (an : Nat) (bn : Nat) (b0 : List Nat) (b1 : List Nat) : ∀ x : Option ((Unit) ⊕ (Int × Bool)), x.isSome = true → (z4t an bn b0 b1) x = some (pick (zb2 an bn b0 b1 x))
  | none, h => by cases h
  | some (Sum.inl r), _ => rfl
  | some (Sum.inr r), _ => rfl
theorem zbe (an : Nat) (bn : Nat) (i : Int) (b0 : List Nat) (b1 : List Nat) (K : Ex → St → Option (Ex × St)) : evC (R := Ex × St) Γ2 (evFn Γ2 8 8) 18 2 fi18.nt fi18.live fi18.nl 8 (findL 4 (loopsIn fi18.code)) (St.mk [(0, (AV.v (TV.one (At.vw 0 0 an 1)))), (1, (AV.v (TV.one (At.vw 1 0 bn 1)))), (5, (AV.v (TV.one (At.int IntKind.i64 i))))] [(Blk.mk Bool.false (Body.fl FloatKind.f32 b0)), (Blk.mk Bool.false (Body.fl FloatKind.f32 b1))]) K = z3f an bn b0 b1 i (fun i' => K .normal (St.mk [(0, (AV.v (TV.one (At.vw 0 0 an 1)))), (1, (AV.v (TV.one (At.vw 1 0 bn 1)))), (5, (AV.v (TV.one (At.int IntKind.i64 i'))))] [(Blk.mk Bool.false (Body.fl FloatKind.f32 b0)), (Blk.mk Bool.false (Body.fl FloatKind.f32 b1))])) (fun _ => K Ex.ret (St.mk [(4, (AV.v (TV.one (At.bool Bool.false))))] [(Blk.mk Bool.false (Body.fl FloatKind.f32 b0)), (Blk.mk Bool.false (Body.fl FloatKind.f32 b1))])) (fun c0_ c1_ => K (Ex.exit 0) (St.mk [(0, (AV.v (TV.one (At.vw 0 0 an 1)))), (1, (AV.v (TV.one (At.vw 1 0 bn 1)))), (5, (AV.v (TV.one (At.int IntKind.i64 c0_)))), (14, (AV.v (TV.one (At.bool c1_))))] [(Blk.mk Bool.false (Body.fl FloatKind.f32 b0)), (Blk.mk Bool.false (Body.fl FloatKind.f32 b1))])) := by kernel_rfl
theorem zbh (an : Nat) (bn : Nat) (b0 : List Nat) (b1 : List Nat) : ∀ (n : Nat) (i : Int), iter 18 4 2 (evC (R := Ex × St) Γ2 (evFn Γ2 8 8) 18 2 fi18.nt fi18.live fi18.nl 8 (findL 4 (loopsIn fi18.code))) n (St.mk [(0, (AV.v (TV.one (At.vw 0 0 an 1)))), (1, (AV.v (TV.one (At.vw 1 0 bn 1)))), (5, (AV.v (TV.one (At.int IntKind.i64 i))))] [(Blk.mk Bool.false (Body.fl FloatKind.f32 b0)), (Blk.mk Bool.false (Body.fl FloatKind.f32 b1))]) (fun e st => some (e, st)) = (z4t an bn b0 b1) (z2u an bn b0 b1 n i) := by
  intro n
  induction n with
  | zero => intros; rfl
  | succ n ih =>
    intro i
    refine Eq.trans (iter_succ ..) (Eq.trans (zbe an bn i b0 b1 (nextK 18 4 2 (evC (R := Ex × St) Γ2 (evFn Γ2 8 8) 18 2 fi18.nt fi18.live fi18.nl 8 (findL 4 (loopsIn fi18.code))) n (fun e st => some (e, st)))) (Eq.trans ?_ (zaf (z4t an bn b0 b1) rfl an bn b0 b1 i (fun i' => z2u an bn b0 b1 n i') (fun _ => some (Sum.inl ())) (fun c0_ c1_ => some (Sum.inr (c0_, c1_))))))
    exact congrArg (fun kn_ => z3f an bn b0 b1 i kn_ (fun _ => (z4t an bn b0 b1) (some (Sum.inl ()))) (fun c0_ c1_ => (z4t an bn b0 b1) (some (Sum.inr (c0_, c1_))))) (funext fun i' => ih i')
theorem z0h : LoopOne Try.prog fnTab 18 4 z0p := lp_of (Γ := Γ2) tyTab_ok (FnL.ok fnTab_ok _ _) (LpL.ok lt2_ok) (SumL.ok tb2_ok _) mixed (fi := fi18) (by kernel_rfl) (by kernel_rfl) (by
  intro lo st out hp
  unfold z0p at hp
  split at hp
  · rename_i an bn i b0 b1
    injection hp with hp
    injection hp with h1 h2
    subst h2
    exact ⟨8, 8, big, Eq.trans (zbh an bn b0 b1 big i) (zb7 an bn b0 b1 (z2u an bn b0 b1 big i) h1)⟩
  · cases hp)
noncomputable def tb3 : List (Nat × (List PT → Option (Bool × AV × List Blk))) := [(129, z0r), (133, z0c), (137, z0s), (139, z15), (25, z18), (59, z26), (64, z19), (66, z20), (70, z11), (78, z1j), (21, z21), (58, z1m), (67, z1u), (20, z0u), (74, z16), (126, z17)]
noncomputable def lt3 : List ((Nat × Nat) × (Nat → St → Option (Bool × LO))) := [((20, 2), z0e), ((74, 3), z0m), ((18, 4), z0p)]
noncomputable def Γ3 : Ctx := ⟨tyTab, fnTab, tblSum tb3, tblLp lt3⟩
theorem tb3_ok : SumL Try.prog tb3 := SumL.cons z0j (SumL.cons z09 (SumL.cons z0i (SumL.cons z0q (SumL.cons z0t (SumL.cons z1o (SumL.cons z0v (SumL.cons z1h (SumL.cons z0o (SumL.cons z10 (SumL.cons z1l (SumL.cons z13 (SumL.cons z1a (SumL.cons z0l (SumL.cons z0x (SumL.cons z0w (SumL.nil))))))))))))))))
theorem lt3_ok : LpL Try.prog fnTab lt3 := LpL.cons z0b (LpL.cons z0g (LpL.cons z0h (LpL.nil)))
noncomputable def z1c : List PT → Option (Bool × AV × List Blk)
  | [.one (.row 1 a_n (.fl .f32 a)), .one (.row 1 b_n (.fl .f32 b))] => some ((z5x a_n a b_n b), ((AV.v (TV.one (At.bool (z5k a_n a b_n b)))), []))
  | _ => none
def za7 (a_n : Nat) (a : List Nat) (b_n : Nat) (b : List Nat) : Option (Bool) → Option (AV × List Blk)
  | some r => some ((AV.v (TV.one (At.bool r))), [])
  | none => none
theorem zca (a_n : Nat) (a : List Nat) (b_n : Nat) (b : List Nat) : evFn Γ3 8 8 18 (impTs 0 [.one (.row 1 a_n (.fl .f32 a)), .one (.row 1 b_n (.fl .f32 b))]).1 (impTs 0 [.one (.row 1 a_n (.fl .f32 a)), .one (.row 1 b_n (.fl .f32 b))]).2 (expo (impTs 0 [.one (.row 1 a_n (.fl .f32 a)), .one (.row 1 b_n (.fl .f32 b))]).2.length) = z56 a_n a b_n b (fun c0_ => some ((AV.v (TV.one (At.bool c0_))), [])) := by kernel_rfl
theorem z0z : SumOne Try.prog 18 z1c := sum_of (Γ := Γ3) (fuel := 8) (d := 8) tyTab_ok (FnL.ok fnTab_ok _ _) (LpL.ok lt3_ok) (SumL.ok tb3_ok _) mixed (by
  intro pts v news hp hc
  clear hc
  unfold z1c at hp
  split at hp
  · rename_i a_n a b_n b
    exact Eq.trans (Eq.trans (zca a_n a b_n b) (zax (za7 a_n a b_n b) rfl a_n a b_n b (fun c0_ => some c0_))) (fin_out (o := (za7 a_n a b_n b)) (x := z55 a_n a b_n b) (d := default) (V := fun r => ((AV.v (TV.one (At.bool r))), [])) (fun r => rfl) hp)
  · cases hp)
noncomputable def z27 : List PT → Option (Bool × AV × List Blk)
  | [.agg [.row 1 q06 (.fl .f32 q0c), .row 1 q07 (.fl .f32 q0f)]] => some ((z9b q06 q0c q07 q0f), ((AV.v (TV.agg [(At.sl 0 0 (z82 q06 q0c q07 q0f) 1), (At.sl 1 0 (z80 q06 q0c q07 q0f) 1)])), [(Blk.mk Bool.true (Body.fl FloatKind.f32 (z88 q06 q0c q07 q0f))), (Blk.mk Bool.true (Body.fl FloatKind.f32 (z7v q06 q0c q07 q0f)))]))
  | _ => none
def zbj (q06 : Nat) (q0c : List Nat) (q07 : Nat) (q0f : List Nat) : Option (Nat × Nat × (List Nat) × (List Nat)) → Option (AV × List Blk)
  | some r => some ((AV.v (TV.agg [(At.sl 0 0 r.1 1), (At.sl 1 0 r.2.1 1)])), [(Blk.mk Bool.true (Body.fl FloatKind.f32 r.2.2.1)), (Blk.mk Bool.true (Body.fl FloatKind.f32 r.2.2.2))])
  | none => none
theorem zd8 (q06 : Nat) (q0c : List Nat) (q07 : Nat) (q0f : List Nat) : evFn Γ3 8 8 23 (impTs 0 [.agg [.row 1 q06 (.fl .f32 q0c), .row 1 q07 (.fl .f32 q0f)]]).1 (impTs 0 [.agg [.row 1 q06 (.fl .f32 q0c), .row 1 q07 (.fl .f32 q0f)]]).2 (expo (impTs 0 [.agg [.row 1 q06 (.fl .f32 q0c), .row 1 q07 (.fl .f32 q0f)]]).2.length) = z74 q06 q0c q07 q0f (fun c0_ c1_ c2_ c3_ => some ((AV.v (TV.agg [(At.sl 0 0 c0_ 1), (At.sl 1 0 c1_ 1)])), [(Blk.mk Bool.true (Body.fl FloatKind.f32 c2_)), (Blk.mk Bool.true (Body.fl FloatKind.f32 c3_))])) := by kernel_rfl
theorem z1r : SumOne Try.prog 23 z27 := sum_of (Γ := Γ3) (fuel := 8) (d := 8) tyTab_ok (FnL.ok fnTab_ok _ _) (LpL.ok lt3_ok) (SumL.ok tb3_ok _) mixed (by
  intro pts v news hp hc
  clear hc
  unfold z27 at hp
  split at hp
  · rename_i q06 q0c q07 q0f
    exact Eq.trans (Eq.trans (zd8 q06 q0c q07 q0f) (zce (zbj q06 q0c q07 q0f) rfl q06 q0c q07 q0f (fun c0_ c1_ c2_ c3_ => some (c0_, c1_, c2_, c3_)))) (fin_out (o := (zbj q06 q0c q07 q0f)) (x := z4h q06 q0c q07 q0f) (d := default) (V := fun r => ((AV.v (TV.agg [(At.sl 0 0 r.1 1), (At.sl 1 0 r.2.1 1)])), [(Blk.mk Bool.true (Body.fl FloatKind.f32 r.2.2.1)), (Blk.mk Bool.true (Body.fl FloatKind.f32 r.2.2.2))])) (fun r => rfl) hp)
  · cases hp)
noncomputable def z1s : List PT → Option (Bool × AV × List Blk)
  | [.agg [.row 1 q06 (.fl .f32 q0c), .row 1 q07 (.fl .f32 q0f)], .one (.s (.int .i64 k))] => some ((z9j q06 q0c q07 q0f k), ((AV.v (TV.one (At.int IntKind.i64 (z8r q06 q0c q07 q0f k)))), []))
  | _ => none
def zaj (q06 : Nat) (q0c : List Nat) (q07 : Nat) (q0f : List Nat) (k : Int) : Option (Int) → Option (AV × List Blk)
  | some r => some ((AV.v (TV.one (At.int IntKind.i64 r))), [])
  | none => none
theorem zcz (q06 : Nat) (q0c : List Nat) (q07 : Nat) (q0f : List Nat) (k : Int) : evFn Γ3 8 8 34 (impTs 0 [.agg [.row 1 q06 (.fl .f32 q0c), .row 1 q07 (.fl .f32 q0f)], .one (.s (.int .i64 k))]).1 (impTs 0 [.agg [.row 1 q06 (.fl .f32 q0c), .row 1 q07 (.fl .f32 q0f)], .one (.s (.int .i64 k))]).2 (expo (impTs 0 [.agg [.row 1 q06 (.fl .f32 q0c), .row 1 q07 (.fl .f32 q0f)], .one (.s (.int .i64 k))]).2.length) = z5o q06 q0c q07 q0f k (fun c0_ => some ((AV.v (TV.one (At.int IntKind.i64 c0_))), [])) := by kernel_rfl
theorem z1d : SumOne Try.prog 34 z1s := sum_of (Γ := Γ3) (fuel := 8) (d := 8) tyTab_ok (FnL.ok fnTab_ok _ _) (LpL.ok lt3_ok) (SumL.ok tb3_ok _) mixed (by
  intro pts v news hp hc
  clear hc
  unfold z1s at hp
  split at hp
  · rename_i q06 q0c q07 q0f k
    exact Eq.trans (Eq.trans (zcz q06 q0c q07 q0f k) (zbn (zaj q06 q0c q07 q0f k) rfl q06 q0c q07 q0f k (fun c0_ => some c0_))) (fin_out (o := (zaj q06 q0c q07 q0f k)) (x := z5m q06 q0c q07 q0f k) (d := default) (V := fun r => ((AV.v (TV.one (At.int IntKind.i64 r))), [])) (fun r => rfl) hp)
  · cases hp)
noncomputable def z1b : Nat → St → Option (Bool × LO)
  | 3, (St.mk [(0, (AV.v (TV.one (At.ptr 2 0 2)))), (3, (AV.v (TV.one (At.int IntKind.i64 n_)))), (4, (AV.v (TV.one (At.int IntKind.i64 k))))] [(Blk.mk Bool.false (Body.fl FloatKind.f32 b0)), (Blk.mk Bool.false (Body.fl FloatKind.f32 b1)), (Blk.mk Bool.false (Body.cells [(At.vw 0 0 q09 1), (At.vw 1 0 q08 1)]))]) => some ((z47 n_ b0 b1 q09 q08 k), (LO.two (z44 n_ b0 b1 q09 q08 k) (LO.one Ex.ret (St.mk [(2, (AV.v (TV.one (At.bool Bool.false))))] [(Blk.mk Bool.false (Body.fl FloatKind.f32 b0)), (Blk.mk Bool.false (Body.fl FloatKind.f32 b1)), (Blk.mk Bool.false (Body.cells [(At.vw 0 0 q09 1), (At.vw 1 0 q08 1)]))])) (LO.one (Ex.exit 0) (St.mk [(0, (AV.v (TV.one (At.ptr 2 0 2)))), (3, (AV.v (TV.one (At.int IntKind.i64 n_)))), (4, (AV.v (TV.one (At.int IntKind.i64 (z8x n_ b0 b1 q09 q08 k))))), (27, (AV.v (TV.one (At.bool (z8t n_ b0 b1 q09 q08 k)))))] [(Blk.mk Bool.false (Body.fl FloatKind.f32 b0)), (Blk.mk Bool.false (Body.fl FloatKind.f32 b1)), (Blk.mk Bool.false (Body.cells [(At.vw 0 0 q09 1), (At.vw 1 0 q08 1)]))]))))
  | _, _ => none
def z5y (n_ : Int) (b0 : List Nat) (b1 : List Nat) (q09 : Nat) (q08 : Nat) : Option ((Unit) ⊕ (Int × Bool)) → Option (Ex × St)
  | none => none
  | some (Sum.inl r) => some (Ex.ret, (St.mk [(2, (AV.v (TV.one (At.bool Bool.false))))] [(Blk.mk Bool.false (Body.fl FloatKind.f32 b0)), (Blk.mk Bool.false (Body.fl FloatKind.f32 b1)), (Blk.mk Bool.false (Body.cells [(At.vw 0 0 q09 1), (At.vw 1 0 q08 1)]))]))
  | some (Sum.inr r) => some ((Ex.exit 0), (St.mk [(0, (AV.v (TV.one (At.ptr 2 0 2)))), (3, (AV.v (TV.one (At.int IntKind.i64 n_)))), (4, (AV.v (TV.one (At.int IntKind.i64 r.1)))), (27, (AV.v (TV.one (At.bool r.2))))] [(Blk.mk Bool.false (Body.fl FloatKind.f32 b0)), (Blk.mk Bool.false (Body.fl FloatKind.f32 b1)), (Blk.mk Bool.false (Body.cells [(At.vw 0 0 q09 1), (At.vw 1 0 q08 1)]))]))
def zbx (n_ : Int) (b0 : List Nat) (b1 : List Nat) (q09 : Nat) (q08 : Nat) (x : Option ((Unit) ⊕ (Int × Bool))) : LO := (LO.two (oL x) (LO.one Ex.ret (St.mk [(2, (AV.v (TV.one (At.bool Bool.false))))] [(Blk.mk Bool.false (Body.fl FloatKind.f32 b0)), (Blk.mk Bool.false (Body.fl FloatKind.f32 b1)), (Blk.mk Bool.false (Body.cells [(At.vw 0 0 q09 1), (At.vw 1 0 q08 1)]))])) (LO.one (Ex.exit 0) (St.mk [(0, (AV.v (TV.one (At.ptr 2 0 2)))), (3, (AV.v (TV.one (At.int IntKind.i64 n_)))), (4, (AV.v (TV.one (At.int IntKind.i64 ((tR x).getD default).1)))), (27, (AV.v (TV.one (At.bool ((tR x).getD default).2))))] [(Blk.mk Bool.false (Body.fl FloatKind.f32 b0)), (Blk.mk Bool.false (Body.fl FloatKind.f32 b1)), (Blk.mk Bool.false (Body.cells [(At.vw 0 0 q09 1), (At.vw 1 0 q08 1)]))])))
theorem zc8 (n_ : Int) (b0 : List Nat) (b1 : List Nat) (q09 : Nat) (q08 : Nat) : ∀ x : Option ((Unit) ⊕ (Int × Bool)), x.isSome = true → (z5y n_ b0 b1 q09 q08) x = some (pick (zbx n_ b0 b1 q09 q08 x))
  | none, h => by cases h
  | some (Sum.inl r), _ => rfl
  | some (Sum.inr r), _ => rfl
theorem zci (n_ : Int) (k : Int) (b0 : List Nat) (b1 : List Nat) (q09 : Nat) (q08 : Nat) (K : Ex → St → Option (Ex × St)) : evC (R := Ex × St) Γ3 (evFn Γ3 8 8) 71 3 fi71.nt fi71.live fi71.nl 8 (findL 5 (loopsIn fi71.code)) (St.mk [(0, (AV.v (TV.one (At.ptr 2 0 2)))), (3, (AV.v (TV.one (At.int IntKind.i64 n_)))), (4, (AV.v (TV.one (At.int IntKind.i64 k))))] [(Blk.mk Bool.false (Body.fl FloatKind.f32 b0)), (Blk.mk Bool.false (Body.fl FloatKind.f32 b1)), (Blk.mk Bool.false (Body.cells [(At.vw 0 0 q09 1), (At.vw 1 0 q08 1)]))]) K = z3y n_ b0 b1 q09 q08 k (fun k' => K .normal (St.mk [(0, (AV.v (TV.one (At.ptr 2 0 2)))), (3, (AV.v (TV.one (At.int IntKind.i64 n_)))), (4, (AV.v (TV.one (At.int IntKind.i64 k'))))] [(Blk.mk Bool.false (Body.fl FloatKind.f32 b0)), (Blk.mk Bool.false (Body.fl FloatKind.f32 b1)), (Blk.mk Bool.false (Body.cells [(At.vw 0 0 q09 1), (At.vw 1 0 q08 1)]))])) (fun _ => K Ex.ret (St.mk [(2, (AV.v (TV.one (At.bool Bool.false))))] [(Blk.mk Bool.false (Body.fl FloatKind.f32 b0)), (Blk.mk Bool.false (Body.fl FloatKind.f32 b1)), (Blk.mk Bool.false (Body.cells [(At.vw 0 0 q09 1), (At.vw 1 0 q08 1)]))])) (fun c0_ c1_ => K (Ex.exit 0) (St.mk [(0, (AV.v (TV.one (At.ptr 2 0 2)))), (3, (AV.v (TV.one (At.int IntKind.i64 n_)))), (4, (AV.v (TV.one (At.int IntKind.i64 c0_)))), (27, (AV.v (TV.one (At.bool c1_))))] [(Blk.mk Bool.false (Body.fl FloatKind.f32 b0)), (Blk.mk Bool.false (Body.fl FloatKind.f32 b1)), (Blk.mk Bool.false (Body.cells [(At.vw 0 0 q09 1), (At.vw 1 0 q08 1)]))])) := by kernel_rfl
theorem zcj (n_ : Int) (b0 : List Nat) (b1 : List Nat) (q09 : Nat) (q08 : Nat) : ∀ (n : Nat) (k : Int), iter 71 5 3 (evC (R := Ex × St) Γ3 (evFn Γ3 8 8) 71 3 fi71.nt fi71.live fi71.nl 8 (findL 5 (loopsIn fi71.code))) n (St.mk [(0, (AV.v (TV.one (At.ptr 2 0 2)))), (3, (AV.v (TV.one (At.int IntKind.i64 n_)))), (4, (AV.v (TV.one (At.int IntKind.i64 k))))] [(Blk.mk Bool.false (Body.fl FloatKind.f32 b0)), (Blk.mk Bool.false (Body.fl FloatKind.f32 b1)), (Blk.mk Bool.false (Body.cells [(At.vw 0 0 q09 1), (At.vw 1 0 q08 1)]))]) (fun e st => some (e, st)) = (z5y n_ b0 b1 q09 q08) (z2w n_ b0 b1 q09 q08 n k) := by
  intro n
  induction n with
  | zero => intros; rfl
  | succ n ih =>
    intro k
    refine Eq.trans (iter_succ ..) (Eq.trans (zci n_ k b0 b1 q09 q08 (nextK 71 5 3 (evC (R := Ex × St) Γ3 (evFn Γ3 8 8) 71 3 fi71.nt fi71.live fi71.nl 8 (findL 5 (loopsIn fi71.code))) n (fun e st => some (e, st)))) (Eq.trans ?_ (zb5 (z5y n_ b0 b1 q09 q08) rfl n_ b0 b1 q09 q08 k (fun k' => z2w n_ b0 b1 q09 q08 n k') (fun _ => some (Sum.inl ())) (fun c0_ c1_ => some (Sum.inr (c0_, c1_))))))
    exact congrArg (fun kn_ => z3y n_ b0 b1 q09 q08 k kn_ (fun _ => (z5y n_ b0 b1 q09 q08) (some (Sum.inl ()))) (fun c0_ c1_ => (z5y n_ b0 b1 q09 q08) (some (Sum.inr (c0_, c1_))))) (funext fun k' => ih k')
theorem z0y : LoopOne Try.prog fnTab 71 5 z1b := lp_of (Γ := Γ3) tyTab_ok (FnL.ok fnTab_ok _ _) (LpL.ok lt3_ok) (SumL.ok tb3_ok _) mixed (fi := fi71) (by kernel_rfl) (by kernel_rfl) (by
  intro lo st out hp
  unfold z1b at hp
  split at hp
  · rename_i n_ k b0 b1 q09 q08
    injection hp with hp
    injection hp with h1 h2
    subst h2
    exact ⟨8, 8, big, Eq.trans (zcj n_ b0 b1 q09 q08 big k) (zc8 n_ b0 b1 q09 q08 (z2w n_ b0 b1 q09 q08 big k) h1)⟩
  · cases hp)
noncomputable def tb4 : List (Nat × (List PT → Option (Bool × AV × List Blk))) := [(129, z0r), (133, z0c), (137, z0s), (139, z15), (25, z18), (59, z26), (64, z19), (66, z20), (70, z11), (78, z1j), (21, z21), (58, z1m), (67, z1u), (20, z0u), (74, z16), (126, z17), (18, z1c), (23, z27), (34, z1s)]
noncomputable def lt4 : List ((Nat × Nat) × (Nat → St → Option (Bool × LO))) := [((20, 2), z0e), ((74, 3), z0m), ((18, 4), z0p), ((71, 5), z1b)]
noncomputable def Γ4 : Ctx := ⟨tyTab, fnTab, tblSum tb4, tblLp lt4⟩
theorem tb4_ok : SumL Try.prog tb4 := SumL.cons z0j (SumL.cons z09 (SumL.cons z0i (SumL.cons z0q (SumL.cons z0t (SumL.cons z1o (SumL.cons z0v (SumL.cons z1h (SumL.cons z0o (SumL.cons z10 (SumL.cons z1l (SumL.cons z13 (SumL.cons z1a (SumL.cons z0l (SumL.cons z0x (SumL.cons z0w (SumL.cons z0z (SumL.cons z1r (SumL.cons z1d (SumL.nil)))))))))))))))))))
theorem lt4_ok : LpL Try.prog fnTab lt4 := LpL.cons z0b (LpL.cons z0g (LpL.cons z0h (LpL.cons z0y (LpL.nil))))
noncomputable def z29 : List PT → Option (Bool × AV × List Blk)
  | [.agg [.row 1 q06 (.fl .f32 q0c), .row 1 q07 (.fl .f32 q0f)], .agg [.row 1 q0k (.fl .f32 q0q), .row 1 q0l (.fl .f32 q0p)]] => some ((z73 q06 q0c q07 q0f q0k q0q q0l q0p), ((AV.v (TV.one (At.bool (z66 q06 q0c q07 q0f q0k q0q q0l q0p)))), []))
  | _ => none
def zbi (q06 : Nat) (q0c : List Nat) (q07 : Nat) (q0f : List Nat) (q0k : Nat) (q0q : List Nat) (q0l : Nat) (q0p : List Nat) : Option (Bool) → Option (AV × List Blk)
  | some r => some ((AV.v (TV.one (At.bool r))), [])
  | none => none
theorem zd9 (q06 : Nat) (q0c : List Nat) (q07 : Nat) (q0f : List Nat) (q0k : Nat) (q0q : List Nat) (q0l : Nat) (q0p : List Nat) : evFn Γ4 8 8 26 (impTs 0 [.agg [.row 1 q06 (.fl .f32 q0c), .row 1 q07 (.fl .f32 q0f)], .agg [.row 1 q0k (.fl .f32 q0q), .row 1 q0l (.fl .f32 q0p)]]).1 (impTs 0 [.agg [.row 1 q06 (.fl .f32 q0c), .row 1 q07 (.fl .f32 q0f)], .agg [.row 1 q0k (.fl .f32 q0q), .row 1 q0l (.fl .f32 q0p)]]).2 (expo (impTs 0 [.agg [.row 1 q06 (.fl .f32 q0c), .row 1 q07 (.fl .f32 q0f)], .agg [.row 1 q0k (.fl .f32 q0q), .row 1 q0l (.fl .f32 q0p)]]).2.length) = z75 q06 q0c q07 q0f q0k q0q q0l q0p (fun c0_ => some ((AV.v (TV.one (At.bool c0_))), [])) := by kernel_rfl
theorem z1w : SumOne Try.prog 26 z29 := sum_of (Γ := Γ4) (fuel := 8) (d := 8) tyTab_ok (FnL.ok fnTab_ok _ _) (LpL.ok lt4_ok) (SumL.ok tb4_ok _) mixed (by
  intro pts v news hp hc
  clear hc
  unfold z29 at hp
  split at hp
  · rename_i q06 q0c q07 q0f q0k q0q q0l q0p
    exact Eq.trans (Eq.trans (zd9 q06 q0c q07 q0f q0k q0q q0l q0p) (zcd (zbi q06 q0c q07 q0f q0k q0q q0l q0p) rfl q06 q0c q07 q0f q0k q0q q0l q0p (fun c0_ => some c0_))) (fin_out (o := (zbi q06 q0c q07 q0f q0k q0q q0l q0p)) (x := z6y q06 q0c q07 q0f q0k q0q q0l q0p) (d := default) (V := fun r => ((AV.v (TV.one (At.bool r))), [])) (fun r => rfl) hp)
  · cases hp)
noncomputable def z23 : List PT → Option (Bool × AV × List Blk)
  | [.ptr [.row 1 q04 (.fl .f32 q0a), .row 1 q05 (.fl .f32 q0b)]] => some ((z9o q04 q0a q05 q0b), ((AV.v (TV.one (At.bool (z9f q04 q0a q05 q0b)))), []))
  | _ => none
def zb3 (q04 : Nat) (q0a : List Nat) (q05 : Nat) (q0b : List Nat) : Option (Bool) → Option (AV × List Blk)
  | some r => some ((AV.v (TV.one (At.bool r))), [])
  | none => none
theorem zd2 (q04 : Nat) (q0a : List Nat) (q05 : Nat) (q0b : List Nat) : evFn Γ4 8 8 71 (impTs 0 [.ptr [.row 1 q04 (.fl .f32 q0a), .row 1 q05 (.fl .f32 q0b)]]).1 (impTs 0 [.ptr [.row 1 q04 (.fl .f32 q0a), .row 1 q05 (.fl .f32 q0b)]]).2 (expo (impTs 0 [.ptr [.row 1 q04 (.fl .f32 q0a), .row 1 q05 (.fl .f32 q0b)]]).2.length) = z63 q04 q0a q05 q0b (fun c0_ => some ((AV.v (TV.one (At.bool c0_))), [])) := by kernel_rfl
theorem z1n : SumOne Try.prog 71 z23 := sum_of (Γ := Γ4) (fuel := 8) (d := 8) tyTab_ok (FnL.ok fnTab_ok _ _) (LpL.ok lt4_ok) (SumL.ok tb4_ok _) mixed (by
  intro pts v news hp hc
  clear hc
  unfold z23 at hp
  split at hp
  · rename_i q04 q0a q05 q0b
    exact Eq.trans (Eq.trans (zd2 q04 q0a q05 q0b) (zby (zb3 q04 q0a q05 q0b) rfl q04 q0a q05 q0b (fun c0_ => some c0_))) (fin_out (o := (zb3 q04 q0a q05 q0b)) (x := z64 q04 q0a q05 q0b) (d := default) (V := fun r => ((AV.v (TV.one (At.bool r))), [])) (fun r => rfl) hp)
  · cases hp)
noncomputable def z01 : Nat → St → Option (Bool × LO)
  | 1, (St.mk [(0, (AV.v (TV.one (At.vw 0 0 sn 1)))), (1, (AV.v (TV.one (At.fn 126 [])))), (7, (AV.v (TV.one (At.int IntKind.i64 t7)))), (8, (AV.v (TV.one (At.int IntKind.i64 t8))))] [(Blk.mk Bool.false (Body.fl FloatKind.f32 b0))]) => some ((z2q sn t7 b0 t8), (LO.two (z2n sn t7 b0 t8) (LO.one Ex.ret (St.mk [(4, (AV.v (TV.one (At.int IntKind.i64 (z34 sn t7 b0 t8)))))] [(Blk.mk Bool.false (Body.fl FloatKind.f32 b0))])) (LO.one (Ex.exit 0) (St.mk [(0, (AV.v (TV.one (At.vw 0 0 sn 1)))), (1, (AV.v (TV.one (At.fn 126 [])))), (7, (AV.v (TV.one (At.int IntKind.i64 t7)))), (8, (AV.v (TV.one (At.int IntKind.i64 (z3p sn t7 b0 t8))))), (9, (AV.v (TV.one (At.bool (z3r sn t7 b0 t8)))))] [(Blk.mk Bool.false (Body.fl FloatKind.f32 b0))]))))
  | _, _ => none
def z2v (sn : Nat) (t7 : Int) (b0 : List Nat) : Option ((Int) ⊕ (Int × Bool)) → Option (Ex × St)
  | none => none
  | some (Sum.inl r) => some (Ex.ret, (St.mk [(4, (AV.v (TV.one (At.int IntKind.i64 r))))] [(Blk.mk Bool.false (Body.fl FloatKind.f32 b0))]))
  | some (Sum.inr r) => some ((Ex.exit 0), (St.mk [(0, (AV.v (TV.one (At.vw 0 0 sn 1)))), (1, (AV.v (TV.one (At.fn 126 [])))), (7, (AV.v (TV.one (At.int IntKind.i64 t7)))), (8, (AV.v (TV.one (At.int IntKind.i64 r.1)))), (9, (AV.v (TV.one (At.bool r.2))))] [(Blk.mk Bool.false (Body.fl FloatKind.f32 b0))]))
def z85 (sn : Nat) (t7 : Int) (b0 : List Nat) (x : Option ((Int) ⊕ (Int × Bool))) : LO := (LO.two (oL x) (LO.one Ex.ret (St.mk [(4, (AV.v (TV.one (At.int IntKind.i64 ((tL x).getD default)))))] [(Blk.mk Bool.false (Body.fl FloatKind.f32 b0))])) (LO.one (Ex.exit 0) (St.mk [(0, (AV.v (TV.one (At.vw 0 0 sn 1)))), (1, (AV.v (TV.one (At.fn 126 [])))), (7, (AV.v (TV.one (At.int IntKind.i64 t7)))), (8, (AV.v (TV.one (At.int IntKind.i64 ((tR x).getD default).1)))), (9, (AV.v (TV.one (At.bool ((tR x).getD default).2))))] [(Blk.mk Bool.false (Body.fl FloatKind.f32 b0))])))
theorem z8l (sn : Nat) (t7 : Int) (b0 : List Nat) : ∀ x : Option ((Int) ⊕ (Int × Bool)), x.isSome = true → (z2v sn t7 b0) x = some (pick (z85 sn t7 b0 x))
  | none, h => by cases h
  | some (Sum.inl r), _ => rfl
  | some (Sum.inr r), _ => rfl
theorem z8g (sn : Nat) (t7 : Int) (t8 : Int) (b0 : List Nat) (K : Ex → St → Option (Ex × St)) : evC (R := Ex × St) Γ4 (evFn Γ4 8 8) 125 1 fi125.nt fi125.live fi125.nl 8 (findL 2 (loopsIn fi125.code)) (St.mk [(0, (AV.v (TV.one (At.vw 0 0 sn 1)))), (1, (AV.v (TV.one (At.fn 126 [])))), (7, (AV.v (TV.one (At.int IntKind.i64 t7)))), (8, (AV.v (TV.one (At.int IntKind.i64 t8))))] [(Blk.mk Bool.false (Body.fl FloatKind.f32 b0))]) K = z2c sn t7 b0 t8 (fun t8' => K .normal (St.mk [(0, (AV.v (TV.one (At.vw 0 0 sn 1)))), (1, (AV.v (TV.one (At.fn 126 [])))), (7, (AV.v (TV.one (At.int IntKind.i64 t7)))), (8, (AV.v (TV.one (At.int IntKind.i64 t8'))))] [(Blk.mk Bool.false (Body.fl FloatKind.f32 b0))])) (fun c0_ => K Ex.ret (St.mk [(4, (AV.v (TV.one (At.int IntKind.i64 c0_))))] [(Blk.mk Bool.false (Body.fl FloatKind.f32 b0))])) (fun c0_ c1_ => K (Ex.exit 0) (St.mk [(0, (AV.v (TV.one (At.vw 0 0 sn 1)))), (1, (AV.v (TV.one (At.fn 126 [])))), (7, (AV.v (TV.one (At.int IntKind.i64 t7)))), (8, (AV.v (TV.one (At.int IntKind.i64 c0_)))), (9, (AV.v (TV.one (At.bool c1_))))] [(Blk.mk Bool.false (Body.fl FloatKind.f32 b0))])) := by kernel_rfl
theorem z8c (sn : Nat) (t7 : Int) (b0 : List Nat) : ∀ (n : Nat) (t8 : Int), iter 125 2 1 (evC (R := Ex × St) Γ4 (evFn Γ4 8 8) 125 1 fi125.nt fi125.live fi125.nl 8 (findL 2 (loopsIn fi125.code))) n (St.mk [(0, (AV.v (TV.one (At.vw 0 0 sn 1)))), (1, (AV.v (TV.one (At.fn 126 [])))), (7, (AV.v (TV.one (At.int IntKind.i64 t7)))), (8, (AV.v (TV.one (At.int IntKind.i64 t8))))] [(Blk.mk Bool.false (Body.fl FloatKind.f32 b0))]) (fun e st => some (e, st)) = (z2v sn t7 b0) (z12 sn t7 b0 n t8) := by
  intro n
  induction n with
  | zero => intros; rfl
  | succ n ih =>
    intro t8
    refine Eq.trans (iter_succ ..) (Eq.trans (z8g sn t7 t8 b0 (nextK 125 2 1 (evC (R := Ex × St) Γ4 (evFn Γ4 8 8) 125 1 fi125.nt fi125.live fi125.nl 8 (findL 2 (loopsIn fi125.code))) n (fun e st => some (e, st)))) (Eq.trans ?_ (z79 (z2v sn t7 b0) rfl sn t7 b0 t8 (fun t8' => z12 sn t7 b0 n t8') (fun c0_ => some (Sum.inl c0_)) (fun c0_ c1_ => some (Sum.inr (c0_, c1_))))))
    exact congrArg (fun kn_ => z2c sn t7 b0 t8 kn_ (fun c0_ => (z2v sn t7 b0) (some (Sum.inl c0_))) (fun c0_ c1_ => (z2v sn t7 b0) (some (Sum.inr (c0_, c1_))))) (funext fun t8' => ih t8')
theorem z00 : LoopOne Try.prog fnTab 125 2 z01 := lp_of (Γ := Γ4) tyTab_ok (FnL.ok fnTab_ok _ _) (LpL.ok lt4_ok) (SumL.ok tb4_ok _) mixed (fi := fi125) (by kernel_rfl) (by kernel_rfl) (by
  intro lo st out hp
  unfold z01 at hp
  split at hp
  · rename_i sn t7 t8 b0
    injection hp with hp
    injection hp with h1 h2
    subst h2
    exact ⟨8, 8, big, Eq.trans (z8c sn t7 b0 big t8) (z8l sn t7 b0 (z12 sn t7 b0 big t8) h1)⟩
  · cases hp)
noncomputable def tb5 : List (Nat × (List PT → Option (Bool × AV × List Blk))) := [(129, z0r), (133, z0c), (137, z0s), (139, z15), (25, z18), (59, z26), (64, z19), (66, z20), (70, z11), (78, z1j), (21, z21), (58, z1m), (67, z1u), (20, z0u), (74, z16), (126, z17), (18, z1c), (23, z27), (34, z1s), (26, z29), (71, z23)]
noncomputable def lt5 : List ((Nat × Nat) × (Nat → St → Option (Bool × LO))) := [((20, 2), z0e), ((74, 3), z0m), ((18, 4), z0p), ((71, 5), z1b), ((125, 2), z01)]
noncomputable def Γ5 : Ctx := ⟨tyTab, fnTab, tblSum tb5, tblLp lt5⟩
theorem tb5_ok : SumL Try.prog tb5 := SumL.cons z0j (SumL.cons z09 (SumL.cons z0i (SumL.cons z0q (SumL.cons z0t (SumL.cons z1o (SumL.cons z0v (SumL.cons z1h (SumL.cons z0o (SumL.cons z10 (SumL.cons z1l (SumL.cons z13 (SumL.cons z1a (SumL.cons z0l (SumL.cons z0x (SumL.cons z0w (SumL.cons z0z (SumL.cons z1r (SumL.cons z1d (SumL.cons z1w (SumL.cons z1n (SumL.nil)))))))))))))))))))))
theorem lt5_ok : LpL Try.prog fnTab lt5 := LpL.cons z0b (LpL.cons z0g (LpL.cons z0h (LpL.cons z0y (LpL.cons z00 (LpL.nil)))))
noncomputable def z05 : List PT → Option (Bool × AV × List Blk)
  | [.one (.row 1 s_n (.fl .f32 s)), .fn 126 []] => some ((z3l s_n s), ((AV.v (TV.one (At.int IntKind.i64 (z3i s_n s)))), []))
  | _ => none
def z5b (s_n : Nat) (s : List Nat) : Option (Int) → Option (AV × List Blk)
  | some r => some ((AV.v (TV.one (At.int IntKind.i64 r))), [])
  | none => none
theorem z9e (s_n : Nat) (s : List Nat) : evFn Γ5 8 8 125 (impTs 0 [.one (.row 1 s_n (.fl .f32 s)), .fn 126 []]).1 (impTs 0 [.one (.row 1 s_n (.fl .f32 s)), .fn 126 []]).2 (expo (impTs 0 [.one (.row 1 s_n (.fl .f32 s)), .fn 126 []]).2.length) = z2s s_n s (fun c0_ => some ((AV.v (TV.one (At.int IntKind.i64 c0_))), [])) := by kernel_rfl
theorem z04 : SumOne Try.prog 125 z05 := sum_of (Γ := Γ5) (fuel := 8) (d := 8) tyTab_ok (FnL.ok fnTab_ok _ _) (LpL.ok lt5_ok) (SumL.ok tb5_ok _) mixed (by
  intro pts v news hp hc
  clear hc
  unfold z05 at hp
  split at hp
  · rename_i s_n s
    exact Eq.trans (Eq.trans (z9e s_n s) (z7y (z5b s_n s) rfl s_n s (fun c0_ => some c0_))) (fin_out (o := (z5b s_n s)) (x := z2r s_n s) (d := default) (V := fun r => ((AV.v (TV.one (At.int IntKind.i64 r))), [])) (fun r => rfl) hp)
  · cases hp)
noncomputable def tb6 : List (Nat × (List PT → Option (Bool × AV × List Blk))) := [(129, z0r), (133, z0c), (137, z0s), (139, z15), (25, z18), (59, z26), (64, z19), (66, z20), (70, z11), (78, z1j), (21, z21), (58, z1m), (67, z1u), (20, z0u), (74, z16), (126, z17), (18, z1c), (23, z27), (34, z1s), (26, z29), (71, z23), (125, z05)]
noncomputable def lt6 : List ((Nat × Nat) × (Nat → St → Option (Bool × LO))) := [((20, 2), z0e), ((74, 3), z0m), ((18, 4), z0p), ((71, 5), z1b), ((125, 2), z01)]
noncomputable def Γ6 : Ctx := ⟨tyTab, fnTab, tblSum tb6, tblLp lt6⟩
theorem tb6_ok : SumL Try.prog tb6 := SumL.cons z0j (SumL.cons z09 (SumL.cons z0i (SumL.cons z0q (SumL.cons z0t (SumL.cons z1o (SumL.cons z0v (SumL.cons z1h (SumL.cons z0o (SumL.cons z10 (SumL.cons z1l (SumL.cons z13 (SumL.cons z1a (SumL.cons z0l (SumL.cons z0x (SumL.cons z0w (SumL.cons z0z (SumL.cons z1r (SumL.cons z1d (SumL.cons z1w (SumL.cons z1n (SumL.cons z04 (SumL.nil))))))))))))))))))))))
theorem lt6_ok : LpL Try.prog fnTab lt6 := LpL.cons z0b (LpL.cons z0g (LpL.cons z0h (LpL.cons z0y (LpL.cons z00 (LpL.nil)))))
noncomputable def z03 : List PT → Option (Bool × AV × List Blk)
  | [.one (.row 1 s_n (.fl .f32 s)), .fn 126 []] => some ((z3d s_n s), ((AV.v (TV.one (At.bool (z36 s_n s)))), []))
  | _ => none
def z4r (s_n : Nat) (s : List Nat) : Option (Bool) → Option (AV × List Blk)
  | some r => some ((AV.v (TV.one (At.bool r))), [])
  | none => none
theorem z8n (s_n : Nat) (s : List Nat) : evFn Γ6 8 8 110 (impTs 0 [.one (.row 1 s_n (.fl .f32 s)), .fn 126 []]).1 (impTs 0 [.one (.row 1 s_n (.fl .f32 s)), .fn 126 []]).2 (expo (impTs 0 [.one (.row 1 s_n (.fl .f32 s)), .fn 126 []]).2.length) = z2o s_n s (fun c0_ => some ((AV.v (TV.one (At.bool c0_))), [])) := by kernel_rfl
theorem z02 : SumOne Try.prog 110 z03 := sum_of (Γ := Γ6) (fuel := 8) (d := 8) tyTab_ok (FnL.ok fnTab_ok _ _) (LpL.ok lt6_ok) (SumL.ok tb6_ok _) mixed (by
  intro pts v news hp hc
  clear hc
  unfold z03 at hp
  split at hp
  · rename_i s_n s
    exact Eq.trans (Eq.trans (z8n s_n s) (z7a (z4r s_n s) rfl s_n s (fun c0_ => some c0_))) (fin_out (o := (z4r s_n s)) (x := z2p s_n s) (d := default) (V := fun r => ((AV.v (TV.one (At.bool r))), [])) (fun r => rfl) hp)
  · cases hp)
noncomputable def z1i : Nat → St → Option (Bool × LO)
  | 2, (St.mk [(1, (AV.v (TV.one (At.int IntKind.i64 by_)))), (2, (AV.v (TV.one (At.ptr 2 0 2)))), (4, (AV.v (TV.one (At.ptr 3 0 2)))), (6, (AV.v (TV.one (At.int IntKind.i64 n_)))), (7, (AV.v (TV.one (At.ptr 6 0 2)))), (8, (AV.v (TV.one (At.int IntKind.i64 k))))] [(Blk.mk Bool.false (Body.fl FloatKind.f32 b0)), (Blk.mk Bool.false (Body.fl FloatKind.f32 b1)), (Blk.mk Bool.true (Body.cells [(At.vw 0 0 q09 1), (At.vw 1 0 q08 1)])), (Blk.mk Bool.true (Body.cells [(At.sl 4 0 q0h 1), (At.sl 5 0 q0g 1)])), (Blk.mk Bool.true (Body.fl FloatKind.f32 b4)), (Blk.mk Bool.true (Body.fl FloatKind.f32 b5)), (Blk.mk Bool.true (Body.cells [(At.sl 7 0 q0d 1), (At.sl 8 0 q0e 1)])), (Blk.mk Bool.true (Body.fl FloatKind.f32 b7)), (Blk.mk Bool.true (Body.fl FloatKind.f32 b8))]) => some ((z5h by_ n_ b0 b1 q09 q08 k q0d q0e b7 b8), (LO.one (Ex.exit 0) (St.mk [(1, (AV.v (TV.one (At.int IntKind.i64 by_)))), (2, (AV.v (TV.one (At.ptr 2 0 2)))), (4, (AV.v (TV.one (At.ptr 3 0 2)))), (6, (AV.v (TV.one (At.int IntKind.i64 n_)))), (7, (AV.v (TV.one (At.ptr 6 0 2)))), (8, (AV.v (TV.one (At.int IntKind.i64 (z89 by_ n_ b0 b1 q09 q08 k q0d q0e b7 b8))))), (26, (AV.v (TV.one (At.bool (z8a by_ n_ b0 b1 q09 q08 k q0d q0e b7 b8)))))] [(Blk.mk Bool.false (Body.fl FloatKind.f32 b0)), (Blk.mk Bool.false (Body.fl FloatKind.f32 b1)), (Blk.mk Bool.true (Body.cells [(At.vw 0 0 q09 1), (At.vw 1 0 q08 1)])), (Blk.mk Bool.true (Body.cells [(At.sl 4 0 q0h 1), (At.sl 5 0 q0g 1)])), (Blk.mk Bool.true (Body.fl FloatKind.f32 b4)), (Blk.mk Bool.true (Body.fl FloatKind.f32 b5)), (Blk.mk Bool.true (Body.cells [(At.sl 7 0 (z4o by_ n_ b0 b1 q09 q08 k q0d q0e b7 b8) 1), (At.sl 8 0 (z4p by_ n_ b0 b1 q09 q08 k q0d q0e b7 b8) 1)])), (Blk.mk Bool.true (Body.fl FloatKind.f32 (z4i by_ n_ b0 b1 q09 q08 k q0d q0e b7 b8))), (Blk.mk Bool.true (Body.fl FloatKind.f32 (z4l by_ n_ b0 b1 q09 q08 k q0d q0e b7 b8)))])))
  | _, _ => none
def z7b (by_ : Int) (n_ : Int) (b0 : List Nat) (b1 : List Nat) (q09 : Nat) (q08 : Nat) (q0h : Nat) (q0g : Nat) (b4 : List Nat) (b5 : List Nat) : Option ((Int × Bool × Nat × Nat × (List Nat) × (List Nat))) → Option (Ex × St)
  | none => none
  | some r => some ((Ex.exit 0), (St.mk [(1, (AV.v (TV.one (At.int IntKind.i64 by_)))), (2, (AV.v (TV.one (At.ptr 2 0 2)))), (4, (AV.v (TV.one (At.ptr 3 0 2)))), (6, (AV.v (TV.one (At.int IntKind.i64 n_)))), (7, (AV.v (TV.one (At.ptr 6 0 2)))), (8, (AV.v (TV.one (At.int IntKind.i64 r.1)))), (26, (AV.v (TV.one (At.bool r.2.1))))] [(Blk.mk Bool.false (Body.fl FloatKind.f32 b0)), (Blk.mk Bool.false (Body.fl FloatKind.f32 b1)), (Blk.mk Bool.true (Body.cells [(At.vw 0 0 q09 1), (At.vw 1 0 q08 1)])), (Blk.mk Bool.true (Body.cells [(At.sl 4 0 q0h 1), (At.sl 5 0 q0g 1)])), (Blk.mk Bool.true (Body.fl FloatKind.f32 b4)), (Blk.mk Bool.true (Body.fl FloatKind.f32 b5)), (Blk.mk Bool.true (Body.cells [(At.sl 7 0 r.2.2.1 1), (At.sl 8 0 r.2.2.2.1 1)])), (Blk.mk Bool.true (Body.fl FloatKind.f32 r.2.2.2.2.1)), (Blk.mk Bool.true (Body.fl FloatKind.f32 r.2.2.2.2.2))]))
def zbw (by_ : Int) (n_ : Int) (b0 : List Nat) (b1 : List Nat) (q09 : Nat) (q08 : Nat) (q0h : Nat) (q0g : Nat) (b4 : List Nat) (b5 : List Nat) (x : Option ((Int × Bool × Nat × Nat × (List Nat) × (List Nat)))) : LO := (LO.one (Ex.exit 0) (St.mk [(1, (AV.v (TV.one (At.int IntKind.i64 by_)))), (2, (AV.v (TV.one (At.ptr 2 0 2)))), (4, (AV.v (TV.one (At.ptr 3 0 2)))), (6, (AV.v (TV.one (At.int IntKind.i64 n_)))), (7, (AV.v (TV.one (At.ptr 6 0 2)))), (8, (AV.v (TV.one (At.int IntKind.i64 (x.getD default).1)))), (26, (AV.v (TV.one (At.bool (x.getD default).2.1))))] [(Blk.mk Bool.false (Body.fl FloatKind.f32 b0)), (Blk.mk Bool.false (Body.fl FloatKind.f32 b1)), (Blk.mk Bool.true (Body.cells [(At.vw 0 0 q09 1), (At.vw 1 0 q08 1)])), (Blk.mk Bool.true (Body.cells [(At.sl 4 0 q0h 1), (At.sl 5 0 q0g 1)])), (Blk.mk Bool.true (Body.fl FloatKind.f32 b4)), (Blk.mk Bool.true (Body.fl FloatKind.f32 b5)), (Blk.mk Bool.true (Body.cells [(At.sl 7 0 (x.getD default).2.2.1 1), (At.sl 8 0 (x.getD default).2.2.2.1 1)])), (Blk.mk Bool.true (Body.fl FloatKind.f32 (x.getD default).2.2.2.2.1)), (Blk.mk Bool.true (Body.fl FloatKind.f32 (x.getD default).2.2.2.2.2))]))
theorem zc5 (by_ : Int) (n_ : Int) (b0 : List Nat) (b1 : List Nat) (q09 : Nat) (q08 : Nat) (q0h : Nat) (q0g : Nat) (b4 : List Nat) (b5 : List Nat) : ∀ x : Option ((Int × Bool × Nat × Nat × (List Nat) × (List Nat))), x.isSome = true → (z7b by_ n_ b0 b1 q09 q08 q0h q0g b4 b5) x = some (pick (zbw by_ n_ b0 b1 q09 q08 q0h q0g b4 b5 x))
  | none, h => by cases h
  | some r, _ => rfl
theorem zc2 (by_ : Int) (n_ : Int) (k : Int) (b0 : List Nat) (b1 : List Nat) (q09 : Nat) (q08 : Nat) (q0h : Nat) (q0g : Nat) (b4 : List Nat) (b5 : List Nat) (q0d : Nat) (q0e : Nat) (b7 : List Nat) (b8 : List Nat) (K : Ex → St → Option (Ex × St)) : evC (R := Ex × St) Γ6 (evFn Γ6 8 8) 31 2 fi31.nt fi31.live fi31.nl 8 (findL 6 (loopsIn fi31.code)) (St.mk [(1, (AV.v (TV.one (At.int IntKind.i64 by_)))), (2, (AV.v (TV.one (At.ptr 2 0 2)))), (4, (AV.v (TV.one (At.ptr 3 0 2)))), (6, (AV.v (TV.one (At.int IntKind.i64 n_)))), (7, (AV.v (TV.one (At.ptr 6 0 2)))), (8, (AV.v (TV.one (At.int IntKind.i64 k))))] [(Blk.mk Bool.false (Body.fl FloatKind.f32 b0)), (Blk.mk Bool.false (Body.fl FloatKind.f32 b1)), (Blk.mk Bool.true (Body.cells [(At.vw 0 0 q09 1), (At.vw 1 0 q08 1)])), (Blk.mk Bool.true (Body.cells [(At.sl 4 0 q0h 1), (At.sl 5 0 q0g 1)])), (Blk.mk Bool.true (Body.fl FloatKind.f32 b4)), (Blk.mk Bool.true (Body.fl FloatKind.f32 b5)), (Blk.mk Bool.true (Body.cells [(At.sl 7 0 q0d 1), (At.sl 8 0 q0e 1)])), (Blk.mk Bool.true (Body.fl FloatKind.f32 b7)), (Blk.mk Bool.true (Body.fl FloatKind.f32 b8))]) K = z3o by_ n_ b0 b1 q09 q08 k q0d q0e b7 b8 (fun k' q0d' q0e' b7' b8' => K .normal (St.mk [(1, (AV.v (TV.one (At.int IntKind.i64 by_)))), (2, (AV.v (TV.one (At.ptr 2 0 2)))), (4, (AV.v (TV.one (At.ptr 3 0 2)))), (6, (AV.v (TV.one (At.int IntKind.i64 n_)))), (7, (AV.v (TV.one (At.ptr 6 0 2)))), (8, (AV.v (TV.one (At.int IntKind.i64 k'))))] [(Blk.mk Bool.false (Body.fl FloatKind.f32 b0)), (Blk.mk Bool.false (Body.fl FloatKind.f32 b1)), (Blk.mk Bool.true (Body.cells [(At.vw 0 0 q09 1), (At.vw 1 0 q08 1)])), (Blk.mk Bool.true (Body.cells [(At.sl 4 0 q0h 1), (At.sl 5 0 q0g 1)])), (Blk.mk Bool.true (Body.fl FloatKind.f32 b4)), (Blk.mk Bool.true (Body.fl FloatKind.f32 b5)), (Blk.mk Bool.true (Body.cells [(At.sl 7 0 q0d' 1), (At.sl 8 0 q0e' 1)])), (Blk.mk Bool.true (Body.fl FloatKind.f32 b7')), (Blk.mk Bool.true (Body.fl FloatKind.f32 b8'))])) (fun c0_ c1_ c2_ c3_ c4_ c5_ => K (Ex.exit 0) (St.mk [(1, (AV.v (TV.one (At.int IntKind.i64 by_)))), (2, (AV.v (TV.one (At.ptr 2 0 2)))), (4, (AV.v (TV.one (At.ptr 3 0 2)))), (6, (AV.v (TV.one (At.int IntKind.i64 n_)))), (7, (AV.v (TV.one (At.ptr 6 0 2)))), (8, (AV.v (TV.one (At.int IntKind.i64 c0_)))), (26, (AV.v (TV.one (At.bool c1_))))] [(Blk.mk Bool.false (Body.fl FloatKind.f32 b0)), (Blk.mk Bool.false (Body.fl FloatKind.f32 b1)), (Blk.mk Bool.true (Body.cells [(At.vw 0 0 q09 1), (At.vw 1 0 q08 1)])), (Blk.mk Bool.true (Body.cells [(At.sl 4 0 q0h 1), (At.sl 5 0 q0g 1)])), (Blk.mk Bool.true (Body.fl FloatKind.f32 b4)), (Blk.mk Bool.true (Body.fl FloatKind.f32 b5)), (Blk.mk Bool.true (Body.cells [(At.sl 7 0 c2_ 1), (At.sl 8 0 c3_ 1)])), (Blk.mk Bool.true (Body.fl FloatKind.f32 c4_)), (Blk.mk Bool.true (Body.fl FloatKind.f32 c5_))])) := by kernel_rfl
theorem zc6 (by_ : Int) (n_ : Int) (b0 : List Nat) (b1 : List Nat) (q09 : Nat) (q08 : Nat) (q0h : Nat) (q0g : Nat) (b4 : List Nat) (b5 : List Nat) : ∀ (n : Nat) (k : Int) (q0d : Nat) (q0e : Nat) (b7 : List Nat) (b8 : List Nat), iter 31 6 2 (evC (R := Ex × St) Γ6 (evFn Γ6 8 8) 31 2 fi31.nt fi31.live fi31.nl 8 (findL 6 (loopsIn fi31.code))) n (St.mk [(1, (AV.v (TV.one (At.int IntKind.i64 by_)))), (2, (AV.v (TV.one (At.ptr 2 0 2)))), (4, (AV.v (TV.one (At.ptr 3 0 2)))), (6, (AV.v (TV.one (At.int IntKind.i64 n_)))), (7, (AV.v (TV.one (At.ptr 6 0 2)))), (8, (AV.v (TV.one (At.int IntKind.i64 k))))] [(Blk.mk Bool.false (Body.fl FloatKind.f32 b0)), (Blk.mk Bool.false (Body.fl FloatKind.f32 b1)), (Blk.mk Bool.true (Body.cells [(At.vw 0 0 q09 1), (At.vw 1 0 q08 1)])), (Blk.mk Bool.true (Body.cells [(At.sl 4 0 q0h 1), (At.sl 5 0 q0g 1)])), (Blk.mk Bool.true (Body.fl FloatKind.f32 b4)), (Blk.mk Bool.true (Body.fl FloatKind.f32 b5)), (Blk.mk Bool.true (Body.cells [(At.sl 7 0 q0d 1), (At.sl 8 0 q0e 1)])), (Blk.mk Bool.true (Body.fl FloatKind.f32 b7)), (Blk.mk Bool.true (Body.fl FloatKind.f32 b8))]) (fun e st => some (e, st)) = (z7b by_ n_ b0 b1 q09 q08 q0h q0g b4 b5) (z2h by_ n_ b0 b1 q09 q08 n k q0d q0e b7 b8) := by
  intro n
  induction n with
  | zero => intros; rfl
  | succ n ih =>
    intro k q0d q0e b7 b8
    refine Eq.trans (iter_succ ..) (Eq.trans (zc2 by_ n_ k b0 b1 q09 q08 q0h q0g b4 b5 q0d q0e b7 b8 (nextK 31 6 2 (evC (R := Ex × St) Γ6 (evFn Γ6 8 8) 31 2 fi31.nt fi31.live fi31.nl 8 (findL 6 (loopsIn fi31.code))) n (fun e st => some (e, st)))) (Eq.trans ?_ (zap (z7b by_ n_ b0 b1 q09 q08 q0h q0g b4 b5) rfl by_ n_ b0 b1 q09 q08 k q0d q0e b7 b8 (fun k' q0d' q0e' b7' b8' => z2h by_ n_ b0 b1 q09 q08 n k' q0d' q0e' b7' b8') (fun c0_ c1_ c2_ c3_ c4_ c5_ => some (c0_, c1_, c2_, c3_, c4_, c5_)))))
    exact congrArg (fun kn_ => z3o by_ n_ b0 b1 q09 q08 k q0d q0e b7 b8 kn_ (fun c0_ c1_ c2_ c3_ c4_ c5_ => (z7b by_ n_ b0 b1 q09 q08 q0h q0g b4 b5) (some (c0_, c1_, c2_, c3_, c4_, c5_)))) (funext fun k' => funext fun q0d' => funext fun q0e' => funext fun b7' => funext fun b8' => ih k' q0d' q0e' b7' b8')
theorem z14 : LoopOne Try.prog fnTab 31 6 z1i := lp_of (Γ := Γ6) tyTab_ok (FnL.ok fnTab_ok _ _) (LpL.ok lt6_ok) (SumL.ok tb6_ok _) mixed (fi := fi31) (by kernel_rfl) (by kernel_rfl) (by
  intro lo st out hp
  unfold z1i at hp
  split at hp
  · rename_i by_ n_ k b0 b1 q09 q08 q0h q0g b4 b5 q0d q0e b7 b8
    injection hp with hp
    injection hp with h1 h2
    subst h2
    exact ⟨8, 8, big, Eq.trans (zc6 by_ n_ b0 b1 q09 q08 q0h q0g b4 b5 big k q0d q0e b7 b8) (zc5 by_ n_ b0 b1 q09 q08 q0h q0g b4 b5 (z2h by_ n_ b0 b1 q09 q08 big k q0d q0e b7 b8) h1)⟩
  · cases hp)
noncomputable def tb7 : List (Nat × (List PT → Option (Bool × AV × List Blk))) := [(129, z0r), (133, z0c), (137, z0s), (139, z15), (25, z18), (59, z26), (64, z19), (66, z20), (70, z11), (78, z1j), (21, z21), (58, z1m), (67, z1u), (20, z0u), (74, z16), (126, z17), (18, z1c), (23, z27), (34, z1s), (26, z29), (71, z23), (125, z05), (110, z03)]
noncomputable def lt7 : List ((Nat × Nat) × (Nat → St → Option (Bool × LO))) := [((20, 2), z0e), ((74, 3), z0m), ((18, 4), z0p), ((71, 5), z1b), ((125, 2), z01), ((31, 6), z1i)]
noncomputable def Γ7 : Ctx := ⟨tyTab, fnTab, tblSum tb7, tblLp lt7⟩
theorem tb7_ok : SumL Try.prog tb7 := SumL.cons z0j (SumL.cons z09 (SumL.cons z0i (SumL.cons z0q (SumL.cons z0t (SumL.cons z1o (SumL.cons z0v (SumL.cons z1h (SumL.cons z0o (SumL.cons z10 (SumL.cons z1l (SumL.cons z13 (SumL.cons z1a (SumL.cons z0l (SumL.cons z0x (SumL.cons z0w (SumL.cons z0z (SumL.cons z1r (SumL.cons z1d (SumL.cons z1w (SumL.cons z1n (SumL.cons z04 (SumL.cons z02 (SumL.nil)))))))))))))))))))))))
theorem lt7_ok : LpL Try.prog fnTab lt7 := LpL.cons z0b (LpL.cons z0g (LpL.cons z0h (LpL.cons z0y (LpL.cons z00 (LpL.cons z14 (LpL.nil))))))
noncomputable def z24 : List PT → Option (Bool × AV × List Blk)
  | [.agg [.row 1 q04 (.fl .f32 q0a), .row 1 q05 (.fl .f32 q0b)], .one (.s (.int .i64 by_))] => some ((z9k q04 q0a q05 q0b by_), ((AV.tup [(TV.agg [(At.sl 0 0 (z96 q04 q0a q05 q0b by_) 1), (At.sl 1 0 (z8y q04 q0a q05 q0b by_) 1)]), (TV.one (At.bool (z97 q04 q0a q05 q0b by_)))]), [(Blk.mk Bool.true (Body.fl FloatKind.f32 (z8u q04 q0a q05 q0b by_))), (Blk.mk Bool.true (Body.fl FloatKind.f32 (z95 q04 q0a q05 q0b by_)))]))
  | _ => none
def zan (q04 : Nat) (q0a : List Nat) (q05 : Nat) (q0b : List Nat) (by_ : Int) : Option (Nat × Nat × Bool × (List Nat) × (List Nat)) → Option (AV × List Blk)
  | some r => some ((AV.tup [(TV.agg [(At.sl 0 0 r.1 1), (At.sl 1 0 r.2.1 1)]), (TV.one (At.bool r.2.2.1))]), [(Blk.mk Bool.true (Body.fl FloatKind.f32 r.2.2.2.1)), (Blk.mk Bool.true (Body.fl FloatKind.f32 r.2.2.2.2))])
  | none => none
theorem zd1 (q04 : Nat) (q0a : List Nat) (q05 : Nat) (q0b : List Nat) (by_ : Int) : evFn Γ7 8 8 31 (impTs 0 [.agg [.row 1 q04 (.fl .f32 q0a), .row 1 q05 (.fl .f32 q0b)], .one (.s (.int .i64 by_))]).1 (impTs 0 [.agg [.row 1 q04 (.fl .f32 q0a), .row 1 q05 (.fl .f32 q0b)], .one (.s (.int .i64 by_))]).2 (expo (impTs 0 [.agg [.row 1 q04 (.fl .f32 q0a), .row 1 q05 (.fl .f32 q0b)], .one (.s (.int .i64 by_))]).2.length) = z5r q04 q0a q05 q0b by_ (fun c0_ c1_ c2_ c3_ c4_ => some ((AV.tup [(TV.agg [(At.sl 0 0 c0_ 1), (At.sl 1 0 c1_ 1)]), (TV.one (At.bool c2_))]), [(Blk.mk Bool.true (Body.fl FloatKind.f32 c3_)), (Blk.mk Bool.true (Body.fl FloatKind.f32 c4_))])) := by kernel_rfl
theorem z1t : SumOne Try.prog 31 z24 := sum_of (Γ := Γ7) (fuel := 8) (d := 8) tyTab_ok (FnL.ok fnTab_ok _ _) (LpL.ok lt7_ok) (SumL.ok tb7_ok _) mixed (by
  intro pts v news hp hc
  clear hc
  unfold z24 at hp
  split at hp
  · rename_i q04 q0a q05 q0b by_
    exact Eq.trans (Eq.trans (zd1 q04 q0a q05 q0b by_) (zbs (zan q04 q0a q05 q0b by_) rfl q04 q0a q05 q0b by_ (fun c0_ c1_ c2_ c3_ c4_ => some (c0_, c1_, c2_, c3_, c4_)))) (fin_out (o := (zan q04 q0a q05 q0b by_)) (x := z43 q04 q0a q05 q0b by_) (d := default) (V := fun r => ((AV.tup [(TV.agg [(At.sl 0 0 r.1 1), (At.sl 1 0 r.2.1 1)]), (TV.one (At.bool r.2.2.1))]), [(Blk.mk Bool.true (Body.fl FloatKind.f32 r.2.2.2.1)), (Blk.mk Bool.true (Body.fl FloatKind.f32 r.2.2.2.2))])) (fun r => rfl) hp)
  · cases hp)
noncomputable def z25 : List PT → Option (Bool × AV × List Blk)
  | [.one (.row 1 q0t (.fl .f32 q0u))] => some ((z77 q0t q0u), ((AV.v (TV.one (At.bool (z69 q0t q0u)))), []))
  | _ => none
def zam (q0t : Nat) (q0u : List Nat) : Option (Bool) → Option (AV × List Blk)
  | some r => some ((AV.v (TV.one (At.bool r))), [])
  | none => none
theorem zcu (q0t : Nat) (q0u : List Nat) : evFn Γ7 8 8 112 (impTs 0 [.one (.row 1 q0t (.fl .f32 q0u))]).1 (impTs 0 [.one (.row 1 q0t (.fl .f32 q0u))]).2 (expo (impTs 0 [.one (.row 1 q0t (.fl .f32 q0u))]).2.length) = z5t q0t q0u (fun c0_ => some ((AV.v (TV.one (At.bool c0_))), [])) := by kernel_rfl
theorem z1v : SumOne Try.prog 112 z25 := sum_of (Γ := Γ7) (fuel := 8) (d := 8) tyTab_ok (FnL.ok fnTab_ok _ _) (LpL.ok lt7_ok) (SumL.ok tb7_ok _) mixed (by
  intro pts v news hp hc
  clear hc
  unfold z25 at hp
  split at hp
  · rename_i q0t q0u
    exact Eq.trans (Eq.trans (zcu q0t q0u) (zbu (zam q0t q0u) rfl q0t q0u (fun c0_ => some c0_))) (fin_out (o := (zam q0t q0u)) (x := z5u q0t q0u) (d := default) (V := fun r => ((AV.v (TV.one (At.bool r))), [])) (fun r => rfl) hp)
  · cases hp)
noncomputable def tb8 : List (Nat × (List PT → Option (Bool × AV × List Blk))) := [(129, z0r), (133, z0c), (137, z0s), (139, z15), (25, z18), (59, z26), (64, z19), (66, z20), (70, z11), (78, z1j), (21, z21), (58, z1m), (67, z1u), (20, z0u), (74, z16), (126, z17), (18, z1c), (23, z27), (34, z1s), (26, z29), (71, z23), (125, z05), (110, z03), (31, z24), (112, z25)]
noncomputable def lt8 : List ((Nat × Nat) × (Nat → St → Option (Bool × LO))) := [((20, 2), z0e), ((74, 3), z0m), ((18, 4), z0p), ((71, 5), z1b), ((125, 2), z01), ((31, 6), z1i)]
noncomputable def Γ8 : Ctx := ⟨tyTab, fnTab, tblSum tb8, tblLp lt8⟩
theorem tb8_ok : SumL Try.prog tb8 := SumL.cons z0j (SumL.cons z09 (SumL.cons z0i (SumL.cons z0q (SumL.cons z0t (SumL.cons z1o (SumL.cons z0v (SumL.cons z1h (SumL.cons z0o (SumL.cons z10 (SumL.cons z1l (SumL.cons z13 (SumL.cons z1a (SumL.cons z0l (SumL.cons z0x (SumL.cons z0w (SumL.cons z0z (SumL.cons z1r (SumL.cons z1d (SumL.cons z1w (SumL.cons z1n (SumL.cons z04 (SumL.cons z02 (SumL.cons z1t (SumL.cons z1v (SumL.nil)))))))))))))))))))))))))
theorem lt8_ok : LpL Try.prog fnTab lt8 := LpL.cons z0b (LpL.cons z0g (LpL.cons z0h (LpL.cons z0y (LpL.cons z00 (LpL.cons z14 (LpL.nil))))))
noncomputable def z22 : List PT → Option (Bool × AV × List Blk)
  | [.agg [.row 1 q04 (.fl .f32 q0a), .row 1 q05 (.fl .f32 q0b)]] => some ((z8s q04 q0a q05 q0b), ((AV.v (TV.one (At.bool (z7r q04 q0a q05 q0b)))), []))
  | _ => none
def za8 (q04 : Nat) (q0a : List Nat) (q05 : Nat) (q0b : List Nat) : Option (Bool) → Option (AV × List Blk)
  | some r => some ((AV.v (TV.one (At.bool r))), [])
  | none => none
theorem zcs (q04 : Nat) (q0a : List Nat) (q05 : Nat) (q0b : List Nat) : evFn Γ8 8 8 75 (impTs 0 [.agg [.row 1 q04 (.fl .f32 q0a), .row 1 q05 (.fl .f32 q0b)]]).1 (impTs 0 [.agg [.row 1 q04 (.fl .f32 q0a), .row 1 q05 (.fl .f32 q0b)]]).2 (expo (impTs 0 [.agg [.row 1 q04 (.fl .f32 q0a), .row 1 q05 (.fl .f32 q0b)]]).2.length) = z5c q04 q0a q05 q0b (fun c0_ => some ((AV.v (TV.one (At.bool c0_))), [])) := by kernel_rfl
theorem z1q : SumOne Try.prog 75 z22 := sum_of (Γ := Γ8) (fuel := 8) (d := 8) tyTab_ok (FnL.ok fnTab_ok _ _) (LpL.ok lt8_ok) (SumL.ok tb8_ok _) mixed (by
  intro pts v news hp hc
  clear hc
  unfold z22 at hp
  split at hp
  · rename_i q04 q0a q05 q0b
    exact Eq.trans (Eq.trans (zcs q04 q0a q05 q0b) (zba (za8 q04 q0a q05 q0b) rfl q04 q0a q05 q0b (fun c0_ => some c0_))) (fin_out (o := (za8 q04 q0a q05 q0b)) (x := z5e q04 q0a q05 q0b) (d := default) (V := fun r => ((AV.v (TV.one (At.bool r))), [])) (fun r => rfl) hp)
  · cases hp)
noncomputable def tb9 : List (Nat × (List PT → Option (Bool × AV × List Blk))) := [(129, z0r), (133, z0c), (137, z0s), (139, z15), (25, z18), (59, z26), (64, z19), (66, z20), (70, z11), (78, z1j), (21, z21), (58, z1m), (67, z1u), (20, z0u), (74, z16), (126, z17), (18, z1c), (23, z27), (34, z1s), (26, z29), (71, z23), (125, z05), (110, z03), (31, z24), (112, z25), (75, z22)]
noncomputable def lt9 : List ((Nat × Nat) × (Nat → St → Option (Bool × LO))) := [((20, 2), z0e), ((74, 3), z0m), ((18, 4), z0p), ((71, 5), z1b), ((125, 2), z01), ((31, 6), z1i)]
noncomputable def Γ9 : Ctx := ⟨tyTab, fnTab, tblSum tb9, tblLp lt9⟩
theorem tb9_ok : SumL Try.prog tb9 := SumL.cons z0j (SumL.cons z09 (SumL.cons z0i (SumL.cons z0q (SumL.cons z0t (SumL.cons z1o (SumL.cons z0v (SumL.cons z1h (SumL.cons z0o (SumL.cons z10 (SumL.cons z1l (SumL.cons z13 (SumL.cons z1a (SumL.cons z0l (SumL.cons z0x (SumL.cons z0w (SumL.cons z0z (SumL.cons z1r (SumL.cons z1d (SumL.cons z1w (SumL.cons z1n (SumL.cons z04 (SumL.cons z02 (SumL.cons z1t (SumL.cons z1v (SumL.cons z1q (SumL.nil))))))))))))))))))))))))))
theorem lt9_ok : LpL Try.prog fnTab lt9 := LpL.cons z0b (LpL.cons z0g (LpL.cons z0h (LpL.cons z0y (LpL.cons z00 (LpL.cons z14 (LpL.nil))))))
noncomputable def tb10 : List (Nat × (List PT → Option (Bool × AV × List Blk))) := [(129, z0r), (133, z0c), (137, z0s), (139, z15), (25, z18), (59, z26), (64, z19), (66, z20), (70, z11), (78, z1j), (21, z21), (58, z1m), (67, z1u), (20, z0u), (74, z16), (126, z17), (18, z1c), (23, z27), (34, z1s), (26, z29), (71, z23), (125, z05), (110, z03), (31, z24), (112, z25), (75, z22)]
noncomputable def lt10 : List ((Nat × Nat) × (Nat → St → Option (Bool × LO))) := [((20, 2), z0e), ((74, 3), z0m), ((18, 4), z0p), ((71, 5), z1b), ((125, 2), z01), ((31, 6), z1i)]
noncomputable def Γ10 : Ctx := ⟨tyTab, fnTab, tblSum tb10, tblLp lt10⟩
theorem tb10_ok : SumL Try.prog tb10 := SumL.cons z0j (SumL.cons z09 (SumL.cons z0i (SumL.cons z0q (SumL.cons z0t (SumL.cons z1o (SumL.cons z0v (SumL.cons z1h (SumL.cons z0o (SumL.cons z10 (SumL.cons z1l (SumL.cons z13 (SumL.cons z1a (SumL.cons z0l (SumL.cons z0x (SumL.cons z0w (SumL.cons z0z (SumL.cons z1r (SumL.cons z1d (SumL.cons z1w (SumL.cons z1n (SumL.cons z04 (SumL.cons z02 (SumL.cons z1t (SumL.cons z1v (SumL.cons z1q (SumL.nil))))))))))))))))))))))))))
theorem lt10_ok : LpL Try.prog fnTab lt10 := LpL.cons z0b (LpL.cons z0g (LpL.cons z0h (LpL.cons z0y (LpL.cons z00 (LpL.cons z14 (LpL.nil))))))
noncomputable def z1x : Nat → St → Option (Bool × LO)
  | 2, (St.mk [(1, (AV.v (TV.one (At.int IntKind.i64 by_)))), (2, (AV.v (TV.one (At.ptr 2 0 2)))), (4, (AV.v (TV.one (At.ptr 3 0 2)))), (6, (AV.v (TV.one (At.int IntKind.i64 n_)))), (7, (AV.v (TV.one (At.ptr 6 0 2)))), (23, (AV.v (TV.one (At.int IntKind.i64 t23)))), (24, (AV.v (TV.one (At.int IntKind.i64 t24))))] [(Blk.mk Bool.false (Body.fl FloatKind.f32 b0)), (Blk.mk Bool.false (Body.fl FloatKind.f32 b1)), (Blk.mk Bool.true (Body.cells [(At.vw 0 0 q09 1), (At.vw 1 0 q08 1)])), (Blk.mk Bool.true (Body.cells [(At.sl 4 0 q0h 1), (At.sl 5 0 q0g 1)])), (Blk.mk Bool.true (Body.fl FloatKind.f32 b4)), (Blk.mk Bool.true (Body.fl FloatKind.f32 b5)), (Blk.mk Bool.true (Body.cells [(At.sl 7 0 q0d 1), (At.sl 8 0 q0e 1)])), (Blk.mk Bool.true (Body.fl FloatKind.f32 b7)), (Blk.mk Bool.true (Body.fl FloatKind.f32 b8))]) => some ((z5i by_ n_ t23 b0 b1 q09 q08 t24 q0d q0e b7 b8), (LO.one (Ex.exit 0) (St.mk [(1, (AV.v (TV.one (At.int IntKind.i64 by_)))), (2, (AV.v (TV.one (At.ptr 2 0 2)))), (4, (AV.v (TV.one (At.ptr 3 0 2)))), (6, (AV.v (TV.one (At.int IntKind.i64 n_)))), (7, (AV.v (TV.one (At.ptr 6 0 2)))), (23, (AV.v (TV.one (At.int IntKind.i64 t23)))), (24, (AV.v (TV.one (At.int IntKind.i64 (z87 by_ n_ t23 b0 b1 q09 q08 t24 q0d q0e b7 b8))))), (25, (AV.v (TV.one (At.bool (z86 by_ n_ t23 b0 b1 q09 q08 t24 q0d q0e b7 b8)))))] [(Blk.mk Bool.false (Body.fl FloatKind.f32 b0)), (Blk.mk Bool.false (Body.fl FloatKind.f32 b1)), (Blk.mk Bool.true (Body.cells [(At.vw 0 0 q09 1), (At.vw 1 0 q08 1)])), (Blk.mk Bool.true (Body.cells [(At.sl 4 0 q0h 1), (At.sl 5 0 q0g 1)])), (Blk.mk Bool.true (Body.fl FloatKind.f32 b4)), (Blk.mk Bool.true (Body.fl FloatKind.f32 b5)), (Blk.mk Bool.true (Body.cells [(At.sl 7 0 (z4m by_ n_ t23 b0 b1 q09 q08 t24 q0d q0e b7 b8) 1), (At.sl 8 0 (z4k by_ n_ t23 b0 b1 q09 q08 t24 q0d q0e b7 b8) 1)])), (Blk.mk Bool.true (Body.fl FloatKind.f32 (z4j by_ n_ t23 b0 b1 q09 q08 t24 q0d q0e b7 b8))), (Blk.mk Bool.true (Body.fl FloatKind.f32 (z4n by_ n_ t23 b0 b1 q09 q08 t24 q0d q0e b7 b8)))])))
  | _, _ => none
def z7h (by_ : Int) (n_ : Int) (t23 : Int) (b0 : List Nat) (b1 : List Nat) (q09 : Nat) (q08 : Nat) (q0h : Nat) (q0g : Nat) (b4 : List Nat) (b5 : List Nat) : Option ((Int × Bool × Nat × Nat × (List Nat) × (List Nat))) → Option (Ex × St)
  | none => none
  | some r => some ((Ex.exit 0), (St.mk [(1, (AV.v (TV.one (At.int IntKind.i64 by_)))), (2, (AV.v (TV.one (At.ptr 2 0 2)))), (4, (AV.v (TV.one (At.ptr 3 0 2)))), (6, (AV.v (TV.one (At.int IntKind.i64 n_)))), (7, (AV.v (TV.one (At.ptr 6 0 2)))), (23, (AV.v (TV.one (At.int IntKind.i64 t23)))), (24, (AV.v (TV.one (At.int IntKind.i64 r.1)))), (25, (AV.v (TV.one (At.bool r.2.1))))] [(Blk.mk Bool.false (Body.fl FloatKind.f32 b0)), (Blk.mk Bool.false (Body.fl FloatKind.f32 b1)), (Blk.mk Bool.true (Body.cells [(At.vw 0 0 q09 1), (At.vw 1 0 q08 1)])), (Blk.mk Bool.true (Body.cells [(At.sl 4 0 q0h 1), (At.sl 5 0 q0g 1)])), (Blk.mk Bool.true (Body.fl FloatKind.f32 b4)), (Blk.mk Bool.true (Body.fl FloatKind.f32 b5)), (Blk.mk Bool.true (Body.cells [(At.sl 7 0 r.2.2.1 1), (At.sl 8 0 r.2.2.2.1 1)])), (Blk.mk Bool.true (Body.fl FloatKind.f32 r.2.2.2.2.1)), (Blk.mk Bool.true (Body.fl FloatKind.f32 r.2.2.2.2.2))]))
def zbp (by_ : Int) (n_ : Int) (t23 : Int) (b0 : List Nat) (b1 : List Nat) (q09 : Nat) (q08 : Nat) (q0h : Nat) (q0g : Nat) (b4 : List Nat) (b5 : List Nat) (x : Option ((Int × Bool × Nat × Nat × (List Nat) × (List Nat)))) : LO := (LO.one (Ex.exit 0) (St.mk [(1, (AV.v (TV.one (At.int IntKind.i64 by_)))), (2, (AV.v (TV.one (At.ptr 2 0 2)))), (4, (AV.v (TV.one (At.ptr 3 0 2)))), (6, (AV.v (TV.one (At.int IntKind.i64 n_)))), (7, (AV.v (TV.one (At.ptr 6 0 2)))), (23, (AV.v (TV.one (At.int IntKind.i64 t23)))), (24, (AV.v (TV.one (At.int IntKind.i64 (x.getD default).1)))), (25, (AV.v (TV.one (At.bool (x.getD default).2.1))))] [(Blk.mk Bool.false (Body.fl FloatKind.f32 b0)), (Blk.mk Bool.false (Body.fl FloatKind.f32 b1)), (Blk.mk Bool.true (Body.cells [(At.vw 0 0 q09 1), (At.vw 1 0 q08 1)])), (Blk.mk Bool.true (Body.cells [(At.sl 4 0 q0h 1), (At.sl 5 0 q0g 1)])), (Blk.mk Bool.true (Body.fl FloatKind.f32 b4)), (Blk.mk Bool.true (Body.fl FloatKind.f32 b5)), (Blk.mk Bool.true (Body.cells [(At.sl 7 0 (x.getD default).2.2.1 1), (At.sl 8 0 (x.getD default).2.2.2.1 1)])), (Blk.mk Bool.true (Body.fl FloatKind.f32 (x.getD default).2.2.2.2.1)), (Blk.mk Bool.true (Body.fl FloatKind.f32 (x.getD default).2.2.2.2.2))]))
theorem zbz (by_ : Int) (n_ : Int) (t23 : Int) (b0 : List Nat) (b1 : List Nat) (q09 : Nat) (q08 : Nat) (q0h : Nat) (q0g : Nat) (b4 : List Nat) (b5 : List Nat) : ∀ x : Option ((Int × Bool × Nat × Nat × (List Nat) × (List Nat))), x.isSome = true → (z7h by_ n_ t23 b0 b1 q09 q08 q0h q0g b4 b5) x = some (pick (zbp by_ n_ t23 b0 b1 q09 q08 q0h q0g b4 b5 x))
  | none, h => by cases h
  | some r, _ => rfl
theorem zc4 (by_ : Int) (n_ : Int) (t23 : Int) (t24 : Int) (b0 : List Nat) (b1 : List Nat) (q09 : Nat) (q08 : Nat) (q0h : Nat) (q0g : Nat) (b4 : List Nat) (b5 : List Nat) (q0d : Nat) (q0e : Nat) (b7 : List Nat) (b8 : List Nat) (K : Ex → St → Option (Ex × St)) : evC (R := Ex × St) Γ10 (evFn Γ10 8 8) 32 2 fi32.nt fi32.live fi32.nl 8 (findL 5 (loopsIn fi32.code)) (St.mk [(1, (AV.v (TV.one (At.int IntKind.i64 by_)))), (2, (AV.v (TV.one (At.ptr 2 0 2)))), (4, (AV.v (TV.one (At.ptr 3 0 2)))), (6, (AV.v (TV.one (At.int IntKind.i64 n_)))), (7, (AV.v (TV.one (At.ptr 6 0 2)))), (23, (AV.v (TV.one (At.int IntKind.i64 t23)))), (24, (AV.v (TV.one (At.int IntKind.i64 t24))))] [(Blk.mk Bool.false (Body.fl FloatKind.f32 b0)), (Blk.mk Bool.false (Body.fl FloatKind.f32 b1)), (Blk.mk Bool.true (Body.cells [(At.vw 0 0 q09 1), (At.vw 1 0 q08 1)])), (Blk.mk Bool.true (Body.cells [(At.sl 4 0 q0h 1), (At.sl 5 0 q0g 1)])), (Blk.mk Bool.true (Body.fl FloatKind.f32 b4)), (Blk.mk Bool.true (Body.fl FloatKind.f32 b5)), (Blk.mk Bool.true (Body.cells [(At.sl 7 0 q0d 1), (At.sl 8 0 q0e 1)])), (Blk.mk Bool.true (Body.fl FloatKind.f32 b7)), (Blk.mk Bool.true (Body.fl FloatKind.f32 b8))]) K = z3m by_ n_ t23 b0 b1 q09 q08 t24 q0d q0e b7 b8 (fun t24' q0d' q0e' b7' b8' => K .normal (St.mk [(1, (AV.v (TV.one (At.int IntKind.i64 by_)))), (2, (AV.v (TV.one (At.ptr 2 0 2)))), (4, (AV.v (TV.one (At.ptr 3 0 2)))), (6, (AV.v (TV.one (At.int IntKind.i64 n_)))), (7, (AV.v (TV.one (At.ptr 6 0 2)))), (23, (AV.v (TV.one (At.int IntKind.i64 t23)))), (24, (AV.v (TV.one (At.int IntKind.i64 t24'))))] [(Blk.mk Bool.false (Body.fl FloatKind.f32 b0)), (Blk.mk Bool.false (Body.fl FloatKind.f32 b1)), (Blk.mk Bool.true (Body.cells [(At.vw 0 0 q09 1), (At.vw 1 0 q08 1)])), (Blk.mk Bool.true (Body.cells [(At.sl 4 0 q0h 1), (At.sl 5 0 q0g 1)])), (Blk.mk Bool.true (Body.fl FloatKind.f32 b4)), (Blk.mk Bool.true (Body.fl FloatKind.f32 b5)), (Blk.mk Bool.true (Body.cells [(At.sl 7 0 q0d' 1), (At.sl 8 0 q0e' 1)])), (Blk.mk Bool.true (Body.fl FloatKind.f32 b7')), (Blk.mk Bool.true (Body.fl FloatKind.f32 b8'))])) (fun c0_ c1_ c2_ c3_ c4_ c5_ => K (Ex.exit 0) (St.mk [(1, (AV.v (TV.one (At.int IntKind.i64 by_)))), (2, (AV.v (TV.one (At.ptr 2 0 2)))), (4, (AV.v (TV.one (At.ptr 3 0 2)))), (6, (AV.v (TV.one (At.int IntKind.i64 n_)))), (7, (AV.v (TV.one (At.ptr 6 0 2)))), (23, (AV.v (TV.one (At.int IntKind.i64 t23)))), (24, (AV.v (TV.one (At.int IntKind.i64 c0_)))), (25, (AV.v (TV.one (At.bool c1_))))] [(Blk.mk Bool.false (Body.fl FloatKind.f32 b0)), (Blk.mk Bool.false (Body.fl FloatKind.f32 b1)), (Blk.mk Bool.true (Body.cells [(At.vw 0 0 q09 1), (At.vw 1 0 q08 1)])), (Blk.mk Bool.true (Body.cells [(At.sl 4 0 q0h 1), (At.sl 5 0 q0g 1)])), (Blk.mk Bool.true (Body.fl FloatKind.f32 b4)), (Blk.mk Bool.true (Body.fl FloatKind.f32 b5)), (Blk.mk Bool.true (Body.cells [(At.sl 7 0 c2_ 1), (At.sl 8 0 c3_ 1)])), (Blk.mk Bool.true (Body.fl FloatKind.f32 c4_)), (Blk.mk Bool.true (Body.fl FloatKind.f32 c5_))])) := by kernel_rfl
theorem zc7 (by_ : Int) (n_ : Int) (t23 : Int) (b0 : List Nat) (b1 : List Nat) (q09 : Nat) (q08 : Nat) (q0h : Nat) (q0g : Nat) (b4 : List Nat) (b5 : List Nat) : ∀ (n : Nat) (t24 : Int) (q0d : Nat) (q0e : Nat) (b7 : List Nat) (b8 : List Nat), iter 32 5 2 (evC (R := Ex × St) Γ10 (evFn Γ10 8 8) 32 2 fi32.nt fi32.live fi32.nl 8 (findL 5 (loopsIn fi32.code))) n (St.mk [(1, (AV.v (TV.one (At.int IntKind.i64 by_)))), (2, (AV.v (TV.one (At.ptr 2 0 2)))), (4, (AV.v (TV.one (At.ptr 3 0 2)))), (6, (AV.v (TV.one (At.int IntKind.i64 n_)))), (7, (AV.v (TV.one (At.ptr 6 0 2)))), (23, (AV.v (TV.one (At.int IntKind.i64 t23)))), (24, (AV.v (TV.one (At.int IntKind.i64 t24))))] [(Blk.mk Bool.false (Body.fl FloatKind.f32 b0)), (Blk.mk Bool.false (Body.fl FloatKind.f32 b1)), (Blk.mk Bool.true (Body.cells [(At.vw 0 0 q09 1), (At.vw 1 0 q08 1)])), (Blk.mk Bool.true (Body.cells [(At.sl 4 0 q0h 1), (At.sl 5 0 q0g 1)])), (Blk.mk Bool.true (Body.fl FloatKind.f32 b4)), (Blk.mk Bool.true (Body.fl FloatKind.f32 b5)), (Blk.mk Bool.true (Body.cells [(At.sl 7 0 q0d 1), (At.sl 8 0 q0e 1)])), (Blk.mk Bool.true (Body.fl FloatKind.f32 b7)), (Blk.mk Bool.true (Body.fl FloatKind.f32 b8))]) (fun e st => some (e, st)) = (z7h by_ n_ t23 b0 b1 q09 q08 q0h q0g b4 b5) (z2i by_ n_ t23 b0 b1 q09 q08 n t24 q0d q0e b7 b8) := by
  intro n
  induction n with
  | zero => intros; rfl
  | succ n ih =>
    intro t24 q0d q0e b7 b8
    refine Eq.trans (iter_succ ..) (Eq.trans (zc4 by_ n_ t23 t24 b0 b1 q09 q08 q0h q0g b4 b5 q0d q0e b7 b8 (nextK 32 5 2 (evC (R := Ex × St) Γ10 (evFn Γ10 8 8) 32 2 fi32.nt fi32.live fi32.nl 8 (findL 5 (loopsIn fi32.code))) n (fun e st => some (e, st)))) (Eq.trans ?_ (zas (z7h by_ n_ t23 b0 b1 q09 q08 q0h q0g b4 b5) rfl by_ n_ t23 b0 b1 q09 q08 t24 q0d q0e b7 b8 (fun t24' q0d' q0e' b7' b8' => z2i by_ n_ t23 b0 b1 q09 q08 n t24' q0d' q0e' b7' b8') (fun c0_ c1_ c2_ c3_ c4_ c5_ => some (c0_, c1_, c2_, c3_, c4_, c5_)))))
    exact congrArg (fun kn_ => z3m by_ n_ t23 b0 b1 q09 q08 t24 q0d q0e b7 b8 kn_ (fun c0_ c1_ c2_ c3_ c4_ c5_ => (z7h by_ n_ t23 b0 b1 q09 q08 q0h q0g b4 b5) (some (c0_, c1_, c2_, c3_, c4_, c5_)))) (funext fun t24' => funext fun q0d' => funext fun q0e' => funext fun b7' => funext fun b8' => ih t24' q0d' q0e' b7' b8')
theorem z1p : LoopOne Try.prog fnTab 32 5 z1x := lp_of (Γ := Γ10) tyTab_ok (FnL.ok fnTab_ok _ _) (LpL.ok lt10_ok) (SumL.ok tb10_ok _) mixed (fi := fi32) (by kernel_rfl) (by kernel_rfl) (by
  intro lo st out hp
  unfold z1x at hp
  split at hp
  · rename_i by_ n_ t23 t24 b0 b1 q09 q08 q0h q0g b4 b5 q0d q0e b7 b8
    injection hp with hp
    injection hp with h1 h2
    subst h2
    exact ⟨8, 8, big, Eq.trans (zc7 by_ n_ t23 b0 b1 q09 q08 q0h q0g b4 b5 big t24 q0d q0e b7 b8) (zbz by_ n_ t23 b0 b1 q09 q08 q0h q0g b4 b5 (z2i by_ n_ t23 b0 b1 q09 q08 big t24 q0d q0e b7 b8) h1)⟩
  · cases hp)
noncomputable def tb11 : List (Nat × (List PT → Option (Bool × AV × List Blk))) := [(129, z0r), (133, z0c), (137, z0s), (139, z15), (25, z18), (59, z26), (64, z19), (66, z20), (70, z11), (78, z1j), (21, z21), (58, z1m), (67, z1u), (20, z0u), (74, z16), (126, z17), (18, z1c), (23, z27), (34, z1s), (26, z29), (71, z23), (125, z05), (110, z03), (31, z24), (112, z25), (75, z22)]
noncomputable def lt11 : List ((Nat × Nat) × (Nat → St → Option (Bool × LO))) := [((20, 2), z0e), ((74, 3), z0m), ((18, 4), z0p), ((71, 5), z1b), ((125, 2), z01), ((31, 6), z1i), ((32, 5), z1x)]
noncomputable def Γ11 : Ctx := ⟨tyTab, fnTab, tblSum tb11, tblLp lt11⟩
theorem tb11_ok : SumL Try.prog tb11 := SumL.cons z0j (SumL.cons z09 (SumL.cons z0i (SumL.cons z0q (SumL.cons z0t (SumL.cons z1o (SumL.cons z0v (SumL.cons z1h (SumL.cons z0o (SumL.cons z10 (SumL.cons z1l (SumL.cons z13 (SumL.cons z1a (SumL.cons z0l (SumL.cons z0x (SumL.cons z0w (SumL.cons z0z (SumL.cons z1r (SumL.cons z1d (SumL.cons z1w (SumL.cons z1n (SumL.cons z04 (SumL.cons z02 (SumL.cons z1t (SumL.cons z1v (SumL.cons z1q (SumL.nil))))))))))))))))))))))))))
theorem lt11_ok : LpL Try.prog fnTab lt11 := LpL.cons z0b (LpL.cons z0g (LpL.cons z0h (LpL.cons z0y (LpL.cons z00 (LpL.cons z14 (LpL.cons z1p (LpL.nil)))))))
noncomputable def z2f : List PT → Option (Bool × AV × List Blk)
  | [.agg [.row 1 q04 (.fl .f32 q0a), .row 1 q05 (.fl .f32 q0b)], .one (.s (.int .i64 by_))] => some ((z9g q04 q0a q05 q0b by_), ((AV.tup [(TV.agg [(At.sl 0 0 (z93 q04 q0a q05 q0b by_) 1), (At.sl 1 0 (z92 q04 q0a q05 q0b by_) 1)]), (TV.one (At.bool (z8q q04 q0a q05 q0b by_)))]), [(Blk.mk Bool.true (Body.fl FloatKind.f32 (z94 q04 q0a q05 q0b by_))), (Blk.mk Bool.true (Body.fl FloatKind.f32 (z90 q04 q0a q05 q0b by_)))]))
  | _ => none
def zal (q04 : Nat) (q0a : List Nat) (q05 : Nat) (q0b : List Nat) (by_ : Int) : Option (Nat × Nat × Bool × (List Nat) × (List Nat)) → Option (AV × List Blk)
  | some r => some ((AV.tup [(TV.agg [(At.sl 0 0 r.1 1), (At.sl 1 0 r.2.1 1)]), (TV.one (At.bool r.2.2.1))]), [(Blk.mk Bool.true (Body.fl FloatKind.f32 r.2.2.2.1)), (Blk.mk Bool.true (Body.fl FloatKind.f32 r.2.2.2.2))])
  | none => none
theorem zcw (q04 : Nat) (q0a : List Nat) (q05 : Nat) (q0b : List Nat) (by_ : Int) : evFn Γ11 8 8 32 (impTs 0 [.agg [.row 1 q04 (.fl .f32 q0a), .row 1 q05 (.fl .f32 q0b)], .one (.s (.int .i64 by_))]).1 (impTs 0 [.agg [.row 1 q04 (.fl .f32 q0a), .row 1 q05 (.fl .f32 q0b)], .one (.s (.int .i64 by_))]).2 (expo (impTs 0 [.agg [.row 1 q04 (.fl .f32 q0a), .row 1 q05 (.fl .f32 q0b)], .one (.s (.int .i64 by_))]).2.length) = z5q q04 q0a q05 q0b by_ (fun c0_ c1_ c2_ c3_ c4_ => some ((AV.tup [(TV.agg [(At.sl 0 0 c0_ 1), (At.sl 1 0 c1_ 1)]), (TV.one (At.bool c2_))]), [(Blk.mk Bool.true (Body.fl FloatKind.f32 c3_)), (Blk.mk Bool.true (Body.fl FloatKind.f32 c4_))])) := by kernel_rfl
theorem z28 : SumOne Try.prog 32 z2f := sum_of (Γ := Γ11) (fuel := 8) (d := 8) tyTab_ok (FnL.ok fnTab_ok _ _) (LpL.ok lt11_ok) (SumL.ok tb11_ok _) mixed (by
  intro pts v news hp hc
  clear hc
  unfold z2f at hp
  split at hp
  · rename_i q04 q0a q05 q0b by_
    exact Eq.trans (Eq.trans (zcw q04 q0a q05 q0b by_) (zbr (zal q04 q0a q05 q0b by_) rfl q04 q0a q05 q0b by_ (fun c0_ c1_ c2_ c3_ c4_ => some (c0_, c1_, c2_, c3_, c4_)))) (fin_out (o := (zal q04 q0a q05 q0b by_)) (x := z42 q04 q0a q05 q0b by_) (d := default) (V := fun r => ((AV.tup [(TV.agg [(At.sl 0 0 r.1 1), (At.sl 1 0 r.2.1 1)]), (TV.one (At.bool r.2.2.1))]), [(Blk.mk Bool.true (Body.fl FloatKind.f32 r.2.2.2.1)), (Blk.mk Bool.true (Body.fl FloatKind.f32 r.2.2.2.2))])) (fun r => rfl) hp)
  · cases hp)
noncomputable def tb12 : List (Nat × (List PT → Option (Bool × AV × List Blk))) := [(129, z0r), (133, z0c), (137, z0s), (139, z15), (25, z18), (59, z26), (64, z19), (66, z20), (70, z11), (78, z1j), (21, z21), (58, z1m), (67, z1u), (20, z0u), (74, z16), (126, z17), (18, z1c), (23, z27), (34, z1s), (26, z29), (71, z23), (125, z05), (110, z03), (31, z24), (112, z25), (75, z22), (32, z2f)]
noncomputable def lt12 : List ((Nat × Nat) × (Nat → St → Option (Bool × LO))) := [((20, 2), z0e), ((74, 3), z0m), ((18, 4), z0p), ((71, 5), z1b), ((125, 2), z01), ((31, 6), z1i), ((32, 5), z1x)]
noncomputable def Γ12 : Ctx := ⟨tyTab, fnTab, tblSum tb12, tblLp lt12⟩
theorem tb12_ok : SumL Try.prog tb12 := SumL.cons z0j (SumL.cons z09 (SumL.cons z0i (SumL.cons z0q (SumL.cons z0t (SumL.cons z1o (SumL.cons z0v (SumL.cons z1h (SumL.cons z0o (SumL.cons z10 (SumL.cons z1l (SumL.cons z13 (SumL.cons z1a (SumL.cons z0l (SumL.cons z0x (SumL.cons z0w (SumL.cons z0z (SumL.cons z1r (SumL.cons z1d (SumL.cons z1w (SumL.cons z1n (SumL.cons z04 (SumL.cons z02 (SumL.cons z1t (SumL.cons z1v (SumL.cons z1q (SumL.cons z28 (SumL.nil)))))))))))))))))))))))))))
theorem lt12_ok : LpL Try.prog fnTab lt12 := LpL.cons z0b (LpL.cons z0g (LpL.cons z0h (LpL.cons z0y (LpL.cons z00 (LpL.cons z14 (LpL.cons z1p (LpL.nil)))))))
noncomputable def tb13 : List (Nat × (List PT → Option (Bool × AV × List Blk))) := [(129, z0r), (133, z0c), (137, z0s), (139, z15), (25, z18), (59, z26), (64, z19), (66, z20), (70, z11), (78, z1j), (21, z21), (58, z1m), (67, z1u), (20, z0u), (74, z16), (126, z17), (18, z1c), (23, z27), (34, z1s), (26, z29), (71, z23), (125, z05), (110, z03), (31, z24), (112, z25), (75, z22), (32, z2f)]
noncomputable def lt13 : List ((Nat × Nat) × (Nat → St → Option (Bool × LO))) := [((20, 2), z0e), ((74, 3), z0m), ((18, 4), z0p), ((71, 5), z1b), ((125, 2), z01), ((31, 6), z1i), ((32, 5), z1x)]
noncomputable def Γ13 : Ctx := ⟨tyTab, fnTab, tblSum tb13, tblLp lt13⟩
theorem tb13_ok : SumL Try.prog tb13 := SumL.cons z0j (SumL.cons z09 (SumL.cons z0i (SumL.cons z0q (SumL.cons z0t (SumL.cons z1o (SumL.cons z0v (SumL.cons z1h (SumL.cons z0o (SumL.cons z10 (SumL.cons z1l (SumL.cons z13 (SumL.cons z1a (SumL.cons z0l (SumL.cons z0x (SumL.cons z0w (SumL.cons z0z (SumL.cons z1r (SumL.cons z1d (SumL.cons z1w (SumL.cons z1n (SumL.cons z04 (SumL.cons z02 (SumL.cons z1t (SumL.cons z1v (SumL.cons z1q (SumL.cons z28 (SumL.nil)))))))))))))))))))))))))))
theorem lt13_ok : LpL Try.prog fnTab lt13 := LpL.cons z0b (LpL.cons z0g (LpL.cons z0h (LpL.cons z0y (LpL.cons z00 (LpL.cons z14 (LpL.cons z1p (LpL.nil)))))))
noncomputable def z06 : Nat → St → Option (Bool × LO)
  | 13, (St.mk [(0, (AV.v (TV.one (At.sl 7 0 an 1)))), (1, (AV.v (TV.one (At.int IntKind.i64 k)))), (5, (AV.v (TV.one (At.int IntKind.i64 i))))] [(Blk.mk Bool.false (Body.fl FloatKind.f32 b0)), (Blk.mk Bool.false (Body.fl FloatKind.f32 b1)), (Blk.mk Bool.true (Body.cells [(At.vw 0 0 q09 1), (At.vw 1 0 q08 1)])), (Blk.mk Bool.true (Body.cells [(At.sl 4 0 q0h 1), (At.sl 5 0 q0g 1)])), (Blk.mk Bool.true (Body.fl FloatKind.f32 b4)), (Blk.mk Bool.true (Body.fl FloatKind.f32 b5)), (Blk.mk Bool.true (Body.cells [(At.sl 7 0 q0d 1), (At.sl 8 0 q0e 1)])), (Blk.mk Bool.true (Body.fl FloatKind.f32 b7)), (Blk.mk Bool.true (Body.fl FloatKind.f32 b8)), (Blk.mk Bool.true (Body.cells [(At.sl 10 0 q0j 1), (At.sl 11 0 q0i 1)])), (Blk.mk Bool.true (Body.fl FloatKind.f32 b10)), (Blk.mk Bool.true (Body.fl FloatKind.f32 b11)), (Blk.mk Bool.true (Body.cells [(At.sl 7 0 q0m 1), (At.sl 8 0 q0n 1)]))]) => some ((z3k an k i b7), (LO.one (Ex.exit 0) (St.mk [(0, (AV.v (TV.one (At.sl 7 0 an 1)))), (1, (AV.v (TV.one (At.int IntKind.i64 (z37 an k i b7))))), (5, (AV.v (TV.one (At.int IntKind.i64 (z40 an k i b7))))), (9, (AV.v (TV.one (At.bool (z3z an k i b7)))))] [(Blk.mk Bool.false (Body.fl FloatKind.f32 b0)), (Blk.mk Bool.false (Body.fl FloatKind.f32 b1)), (Blk.mk Bool.true (Body.cells [(At.vw 0 0 q09 1), (At.vw 1 0 q08 1)])), (Blk.mk Bool.true (Body.cells [(At.sl 4 0 q0h 1), (At.sl 5 0 q0g 1)])), (Blk.mk Bool.true (Body.fl FloatKind.f32 b4)), (Blk.mk Bool.true (Body.fl FloatKind.f32 b5)), (Blk.mk Bool.true (Body.cells [(At.sl 7 0 q0d 1), (At.sl 8 0 q0e 1)])), (Blk.mk Bool.true (Body.fl FloatKind.f32 (z41 an k i b7))), (Blk.mk Bool.true (Body.fl FloatKind.f32 b8)), (Blk.mk Bool.true (Body.cells [(At.sl 10 0 q0j 1), (At.sl 11 0 q0i 1)])), (Blk.mk Bool.true (Body.fl FloatKind.f32 b10)), (Blk.mk Bool.true (Body.fl FloatKind.f32 b11)), (Blk.mk Bool.true (Body.cells [(At.sl 7 0 q0m 1), (At.sl 8 0 q0n 1)]))])))
  | _, _ => none
def z3j (an : Nat) (b0 : List Nat) (b1 : List Nat) (q09 : Nat) (q08 : Nat) (q0h : Nat) (q0g : Nat) (b4 : List Nat) (b5 : List Nat) (q0d : Nat) (q0e : Nat) (b8 : List Nat) (q0j : Nat) (q0i : Nat) (b10 : List Nat) (b11 : List Nat) (q0m : Nat) (q0n : Nat) : Option ((Int × Int × Bool × (List Nat))) → Option (Ex × St)
  | none => none
  | some r => some ((Ex.exit 0), (St.mk [(0, (AV.v (TV.one (At.sl 7 0 an 1)))), (1, (AV.v (TV.one (At.int IntKind.i64 r.1)))), (5, (AV.v (TV.one (At.int IntKind.i64 r.2.1)))), (9, (AV.v (TV.one (At.bool r.2.2.1))))] [(Blk.mk Bool.false (Body.fl FloatKind.f32 b0)), (Blk.mk Bool.false (Body.fl FloatKind.f32 b1)), (Blk.mk Bool.true (Body.cells [(At.vw 0 0 q09 1), (At.vw 1 0 q08 1)])), (Blk.mk Bool.true (Body.cells [(At.sl 4 0 q0h 1), (At.sl 5 0 q0g 1)])), (Blk.mk Bool.true (Body.fl FloatKind.f32 b4)), (Blk.mk Bool.true (Body.fl FloatKind.f32 b5)), (Blk.mk Bool.true (Body.cells [(At.sl 7 0 q0d 1), (At.sl 8 0 q0e 1)])), (Blk.mk Bool.true (Body.fl FloatKind.f32 r.2.2.2)), (Blk.mk Bool.true (Body.fl FloatKind.f32 b8)), (Blk.mk Bool.true (Body.cells [(At.sl 10 0 q0j 1), (At.sl 11 0 q0i 1)])), (Blk.mk Bool.true (Body.fl FloatKind.f32 b10)), (Blk.mk Bool.true (Body.fl FloatKind.f32 b11)), (Blk.mk Bool.true (Body.cells [(At.sl 7 0 q0m 1), (At.sl 8 0 q0n 1)]))]))
def z8w (an : Nat) (b0 : List Nat) (b1 : List Nat) (q09 : Nat) (q08 : Nat) (q0h : Nat) (q0g : Nat) (b4 : List Nat) (b5 : List Nat) (q0d : Nat) (q0e : Nat) (b8 : List Nat) (q0j : Nat) (q0i : Nat) (b10 : List Nat) (b11 : List Nat) (q0m : Nat) (q0n : Nat) (x : Option ((Int × Int × Bool × (List Nat)))) : LO := (LO.one (Ex.exit 0) (St.mk [(0, (AV.v (TV.one (At.sl 7 0 an 1)))), (1, (AV.v (TV.one (At.int IntKind.i64 (x.getD default).1)))), (5, (AV.v (TV.one (At.int IntKind.i64 (x.getD default).2.1)))), (9, (AV.v (TV.one (At.bool (x.getD default).2.2.1))))] [(Blk.mk Bool.false (Body.fl FloatKind.f32 b0)), (Blk.mk Bool.false (Body.fl FloatKind.f32 b1)), (Blk.mk Bool.true (Body.cells [(At.vw 0 0 q09 1), (At.vw 1 0 q08 1)])), (Blk.mk Bool.true (Body.cells [(At.sl 4 0 q0h 1), (At.sl 5 0 q0g 1)])), (Blk.mk Bool.true (Body.fl FloatKind.f32 b4)), (Blk.mk Bool.true (Body.fl FloatKind.f32 b5)), (Blk.mk Bool.true (Body.cells [(At.sl 7 0 q0d 1), (At.sl 8 0 q0e 1)])), (Blk.mk Bool.true (Body.fl FloatKind.f32 (x.getD default).2.2.2)), (Blk.mk Bool.true (Body.fl FloatKind.f32 b8)), (Blk.mk Bool.true (Body.cells [(At.sl 10 0 q0j 1), (At.sl 11 0 q0i 1)])), (Blk.mk Bool.true (Body.fl FloatKind.f32 b10)), (Blk.mk Bool.true (Body.fl FloatKind.f32 b11)), (Blk.mk Bool.true (Body.cells [(At.sl 7 0 q0m 1), (At.sl 8 0 q0n 1)]))]))
theorem z9c (an : Nat) (b0 : List Nat) (b1 : List Nat) (q09 : Nat) (q08 : Nat) (q0h : Nat) (q0g : Nat) (b4 : List Nat) (b5 : List Nat) (q0d : Nat) (q0e : Nat) (b8 : List Nat) (q0j : Nat) (q0i : Nat) (b10 : List Nat) (b11 : List Nat) (q0m : Nat) (q0n : Nat) : ∀ x : Option ((Int × Int × Bool × (List Nat))), x.isSome = true → (z3j an b0 b1 q09 q08 q0h q0g b4 b5 q0d q0e b8 q0j q0i b10 b11 q0m q0n) x = some (pick (z8w an b0 b1 q09 q08 q0h q0g b4 b5 q0d q0e b8 q0j q0i b10 b11 q0m q0n x))
  | none, h => by cases h
  | some r, _ => rfl
theorem z9a (an : Nat) (k : Int) (i : Int) (b0 : List Nat) (b1 : List Nat) (q09 : Nat) (q08 : Nat) (q0h : Nat) (q0g : Nat) (b4 : List Nat) (b5 : List Nat) (q0d : Nat) (q0e : Nat) (b7 : List Nat) (b8 : List Nat) (q0j : Nat) (q0i : Nat) (b10 : List Nat) (b11 : List Nat) (q0m : Nat) (q0n : Nat) (K : Ex → St → Option (Ex × St)) : evC (R := Ex × St) Γ13 (evFn Γ13 8 8) 19 13 fi19.nt fi19.live fi19.nl 8 (findL 2 (loopsIn fi19.code)) (St.mk [(0, (AV.v (TV.one (At.sl 7 0 an 1)))), (1, (AV.v (TV.one (At.int IntKind.i64 k)))), (5, (AV.v (TV.one (At.int IntKind.i64 i))))] [(Blk.mk Bool.false (Body.fl FloatKind.f32 b0)), (Blk.mk Bool.false (Body.fl FloatKind.f32 b1)), (Blk.mk Bool.true (Body.cells [(At.vw 0 0 q09 1), (At.vw 1 0 q08 1)])), (Blk.mk Bool.true (Body.cells [(At.sl 4 0 q0h 1), (At.sl 5 0 q0g 1)])), (Blk.mk Bool.true (Body.fl FloatKind.f32 b4)), (Blk.mk Bool.true (Body.fl FloatKind.f32 b5)), (Blk.mk Bool.true (Body.cells [(At.sl 7 0 q0d 1), (At.sl 8 0 q0e 1)])), (Blk.mk Bool.true (Body.fl FloatKind.f32 b7)), (Blk.mk Bool.true (Body.fl FloatKind.f32 b8)), (Blk.mk Bool.true (Body.cells [(At.sl 10 0 q0j 1), (At.sl 11 0 q0i 1)])), (Blk.mk Bool.true (Body.fl FloatKind.f32 b10)), (Blk.mk Bool.true (Body.fl FloatKind.f32 b11)), (Blk.mk Bool.true (Body.cells [(At.sl 7 0 q0m 1), (At.sl 8 0 q0n 1)]))]) K = z2m an k i b7 (fun k' i' b7' => K .normal (St.mk [(0, (AV.v (TV.one (At.sl 7 0 an 1)))), (1, (AV.v (TV.one (At.int IntKind.i64 k')))), (5, (AV.v (TV.one (At.int IntKind.i64 i'))))] [(Blk.mk Bool.false (Body.fl FloatKind.f32 b0)), (Blk.mk Bool.false (Body.fl FloatKind.f32 b1)), (Blk.mk Bool.true (Body.cells [(At.vw 0 0 q09 1), (At.vw 1 0 q08 1)])), (Blk.mk Bool.true (Body.cells [(At.sl 4 0 q0h 1), (At.sl 5 0 q0g 1)])), (Blk.mk Bool.true (Body.fl FloatKind.f32 b4)), (Blk.mk Bool.true (Body.fl FloatKind.f32 b5)), (Blk.mk Bool.true (Body.cells [(At.sl 7 0 q0d 1), (At.sl 8 0 q0e 1)])), (Blk.mk Bool.true (Body.fl FloatKind.f32 b7')), (Blk.mk Bool.true (Body.fl FloatKind.f32 b8)), (Blk.mk Bool.true (Body.cells [(At.sl 10 0 q0j 1), (At.sl 11 0 q0i 1)])), (Blk.mk Bool.true (Body.fl FloatKind.f32 b10)), (Blk.mk Bool.true (Body.fl FloatKind.f32 b11)), (Blk.mk Bool.true (Body.cells [(At.sl 7 0 q0m 1), (At.sl 8 0 q0n 1)]))])) (fun c0_ c1_ c2_ c3_ => K (Ex.exit 0) (St.mk [(0, (AV.v (TV.one (At.sl 7 0 an 1)))), (1, (AV.v (TV.one (At.int IntKind.i64 c0_)))), (5, (AV.v (TV.one (At.int IntKind.i64 c1_)))), (9, (AV.v (TV.one (At.bool c2_))))] [(Blk.mk Bool.false (Body.fl FloatKind.f32 b0)), (Blk.mk Bool.false (Body.fl FloatKind.f32 b1)), (Blk.mk Bool.true (Body.cells [(At.vw 0 0 q09 1), (At.vw 1 0 q08 1)])), (Blk.mk Bool.true (Body.cells [(At.sl 4 0 q0h 1), (At.sl 5 0 q0g 1)])), (Blk.mk Bool.true (Body.fl FloatKind.f32 b4)), (Blk.mk Bool.true (Body.fl FloatKind.f32 b5)), (Blk.mk Bool.true (Body.cells [(At.sl 7 0 q0d 1), (At.sl 8 0 q0e 1)])), (Blk.mk Bool.true (Body.fl FloatKind.f32 c3_)), (Blk.mk Bool.true (Body.fl FloatKind.f32 b8)), (Blk.mk Bool.true (Body.cells [(At.sl 10 0 q0j 1), (At.sl 11 0 q0i 1)])), (Blk.mk Bool.true (Body.fl FloatKind.f32 b10)), (Blk.mk Bool.true (Body.fl FloatKind.f32 b11)), (Blk.mk Bool.true (Body.cells [(At.sl 7 0 q0m 1), (At.sl 8 0 q0n 1)]))])) := by kernel_rfl
theorem z98 (an : Nat) (b0 : List Nat) (b1 : List Nat) (q09 : Nat) (q08 : Nat) (q0h : Nat) (q0g : Nat) (b4 : List Nat) (b5 : List Nat) (q0d : Nat) (q0e : Nat) (b8 : List Nat) (q0j : Nat) (q0i : Nat) (b10 : List Nat) (b11 : List Nat) (q0m : Nat) (q0n : Nat) : ∀ (n : Nat) (k : Int) (i : Int) (b7 : List Nat), iter 19 2 13 (evC (R := Ex × St) Γ13 (evFn Γ13 8 8) 19 13 fi19.nt fi19.live fi19.nl 8 (findL 2 (loopsIn fi19.code))) n (St.mk [(0, (AV.v (TV.one (At.sl 7 0 an 1)))), (1, (AV.v (TV.one (At.int IntKind.i64 k)))), (5, (AV.v (TV.one (At.int IntKind.i64 i))))] [(Blk.mk Bool.false (Body.fl FloatKind.f32 b0)), (Blk.mk Bool.false (Body.fl FloatKind.f32 b1)), (Blk.mk Bool.true (Body.cells [(At.vw 0 0 q09 1), (At.vw 1 0 q08 1)])), (Blk.mk Bool.true (Body.cells [(At.sl 4 0 q0h 1), (At.sl 5 0 q0g 1)])), (Blk.mk Bool.true (Body.fl FloatKind.f32 b4)), (Blk.mk Bool.true (Body.fl FloatKind.f32 b5)), (Blk.mk Bool.true (Body.cells [(At.sl 7 0 q0d 1), (At.sl 8 0 q0e 1)])), (Blk.mk Bool.true (Body.fl FloatKind.f32 b7)), (Blk.mk Bool.true (Body.fl FloatKind.f32 b8)), (Blk.mk Bool.true (Body.cells [(At.sl 10 0 q0j 1), (At.sl 11 0 q0i 1)])), (Blk.mk Bool.true (Body.fl FloatKind.f32 b10)), (Blk.mk Bool.true (Body.fl FloatKind.f32 b11)), (Blk.mk Bool.true (Body.cells [(At.sl 7 0 q0m 1), (At.sl 8 0 q0n 1)]))]) (fun e st => some (e, st)) = (z3j an b0 b1 q09 q08 q0h q0g b4 b5 q0d q0e b8 q0j q0i b10 b11 q0m q0n) (z1k an n k i b7) := by
  intro n
  induction n with
  | zero => intros; rfl
  | succ n ih =>
    intro k i b7
    refine Eq.trans (iter_succ ..) (Eq.trans (z9a an k i b0 b1 q09 q08 q0h q0g b4 b5 q0d q0e b7 b8 q0j q0i b10 b11 q0m q0n (nextK 19 2 13 (evC (R := Ex × St) Γ13 (evFn Γ13 8 8) 19 13 fi19.nt fi19.live fi19.nl 8 (findL 2 (loopsIn fi19.code))) n (fun e st => some (e, st)))) (Eq.trans ?_ (z7m (z3j an b0 b1 q09 q08 q0h q0g b4 b5 q0d q0e b8 q0j q0i b10 b11 q0m q0n) rfl an k i b7 (fun k' i' b7' => z1k an n k' i' b7') (fun c0_ c1_ c2_ c3_ => some (c0_, c1_, c2_, c3_)))))
    exact congrArg (fun kn_ => z2m an k i b7 kn_ (fun c0_ c1_ c2_ c3_ => (z3j an b0 b1 q09 q08 q0h q0g b4 b5 q0d q0e b8 q0j q0i b10 b11 q0m q0n) (some (c0_, c1_, c2_, c3_)))) (funext fun k' => funext fun i' => funext fun b7' => ih k' i' b7')
theorem z07 : LoopOne Try.prog fnTab 19 2 z06 := lp_of (Γ := Γ13) tyTab_ok (FnL.ok fnTab_ok _ _) (LpL.ok lt13_ok) (SumL.ok tb13_ok _) mixed (fi := fi19) (by kernel_rfl) (by kernel_rfl) (by
  intro lo st out hp
  unfold z06 at hp
  split at hp
  · rename_i an k i b0 b1 q09 q08 q0h q0g b4 b5 q0d q0e b7 b8 q0j q0i b10 b11 q0m q0n
    injection hp with hp
    injection hp with h1 h2
    subst h2
    exact ⟨8, 8, big, Eq.trans (z98 an b0 b1 q09 q08 q0h q0g b4 b5 q0d q0e b8 q0j q0i b10 b11 q0m q0n big k i b7) (z9c an b0 b1 q09 q08 q0h q0g b4 b5 q0d q0e b8 q0j q0i b10 b11 q0m q0n (z1k an big k i b7) h1)⟩
  · cases hp)
noncomputable def tb14 : List (Nat × (List PT → Option (Bool × AV × List Blk))) := [(129, z0r), (133, z0c), (137, z0s), (139, z15), (25, z18), (59, z26), (64, z19), (66, z20), (70, z11), (78, z1j), (21, z21), (58, z1m), (67, z1u), (20, z0u), (74, z16), (126, z17), (18, z1c), (23, z27), (34, z1s), (26, z29), (71, z23), (125, z05), (110, z03), (31, z24), (112, z25), (75, z22), (32, z2f)]
noncomputable def lt14 : List ((Nat × Nat) × (Nat → St → Option (Bool × LO))) := [((20, 2), z0e), ((74, 3), z0m), ((18, 4), z0p), ((71, 5), z1b), ((125, 2), z01), ((31, 6), z1i), ((32, 5), z1x), ((19, 2), z06)]
noncomputable def Γ14 : Ctx := ⟨tyTab, fnTab, tblSum tb14, tblLp lt14⟩
theorem tb14_ok : SumL Try.prog tb14 := SumL.cons z0j (SumL.cons z09 (SumL.cons z0i (SumL.cons z0q (SumL.cons z0t (SumL.cons z1o (SumL.cons z0v (SumL.cons z1h (SumL.cons z0o (SumL.cons z10 (SumL.cons z1l (SumL.cons z13 (SumL.cons z1a (SumL.cons z0l (SumL.cons z0x (SumL.cons z0w (SumL.cons z0z (SumL.cons z1r (SumL.cons z1d (SumL.cons z1w (SumL.cons z1n (SumL.cons z04 (SumL.cons z02 (SumL.cons z1t (SumL.cons z1v (SumL.cons z1q (SumL.cons z28 (SumL.nil)))))))))))))))))))))))))))
theorem lt14_ok : LpL Try.prog fnTab lt14 := LpL.cons z0b (LpL.cons z0g (LpL.cons z0h (LpL.cons z0y (LpL.cons z00 (LpL.cons z14 (LpL.cons z1p (LpL.cons z07 (LpL.nil))))))))
noncomputable def tb15 : List (Nat × (List PT → Option (Bool × AV × List Blk))) := [(129, z0r), (133, z0c), (137, z0s), (139, z15), (25, z18), (59, z26), (64, z19), (66, z20), (70, z11), (78, z1j), (21, z21), (58, z1m), (67, z1u), (20, z0u), (74, z16), (126, z17), (18, z1c), (23, z27), (34, z1s), (26, z29), (71, z23), (125, z05), (110, z03), (31, z24), (112, z25), (75, z22), (32, z2f)]
noncomputable def lt15 : List ((Nat × Nat) × (Nat → St → Option (Bool × LO))) := [((20, 2), z0e), ((74, 3), z0m), ((18, 4), z0p), ((71, 5), z1b), ((125, 2), z01), ((31, 6), z1i), ((32, 5), z1x), ((19, 2), z06)]
noncomputable def Γ15 : Ctx := ⟨tyTab, fnTab, tblSum tb15, tblLp lt15⟩
theorem tb15_ok : SumL Try.prog tb15 := SumL.cons z0j (SumL.cons z09 (SumL.cons z0i (SumL.cons z0q (SumL.cons z0t (SumL.cons z1o (SumL.cons z0v (SumL.cons z1h (SumL.cons z0o (SumL.cons z10 (SumL.cons z1l (SumL.cons z13 (SumL.cons z1a (SumL.cons z0l (SumL.cons z0x (SumL.cons z0w (SumL.cons z0z (SumL.cons z1r (SumL.cons z1d (SumL.cons z1w (SumL.cons z1n (SumL.cons z04 (SumL.cons z02 (SumL.cons z1t (SumL.cons z1v (SumL.cons z1q (SumL.cons z28 (SumL.nil)))))))))))))))))))))))))))
theorem lt15_ok : LpL Try.prog fnTab lt15 := LpL.cons z0b (LpL.cons z0g (LpL.cons z0h (LpL.cons z0y (LpL.cons z00 (LpL.cons z14 (LpL.cons z1p (LpL.cons z07 (LpL.nil))))))))
noncomputable def z08 : Nat → St → Option (Bool × LO)
  | 13, (St.mk [(0, (AV.v (TV.one (At.sl 8 0 an 1)))), (1, (AV.v (TV.one (At.int IntKind.i64 k)))), (5, (AV.v (TV.one (At.int IntKind.i64 i))))] [(Blk.mk Bool.false (Body.fl FloatKind.f32 b0)), (Blk.mk Bool.false (Body.fl FloatKind.f32 b1)), (Blk.mk Bool.true (Body.cells [(At.vw 0 0 q09 1), (At.vw 1 0 q08 1)])), (Blk.mk Bool.true (Body.cells [(At.sl 4 0 q0h 1), (At.sl 5 0 q0g 1)])), (Blk.mk Bool.true (Body.fl FloatKind.f32 b4)), (Blk.mk Bool.true (Body.fl FloatKind.f32 b5)), (Blk.mk Bool.true (Body.cells [(At.sl 7 0 q0d 1), (At.sl 8 0 q0e 1)])), (Blk.mk Bool.true (Body.fl FloatKind.f32 b7)), (Blk.mk Bool.true (Body.fl FloatKind.f32 b8)), (Blk.mk Bool.true (Body.cells [(At.sl 10 0 q0j 1), (At.sl 11 0 q0i 1)])), (Blk.mk Bool.true (Body.fl FloatKind.f32 b10)), (Blk.mk Bool.true (Body.fl FloatKind.f32 b11)), (Blk.mk Bool.true (Body.cells [(At.sl 7 0 q0m 1), (At.sl 8 0 q0n 1)]))]) => some ((z3c an k i b8), (LO.one (Ex.exit 0) (St.mk [(0, (AV.v (TV.one (At.sl 8 0 an 1)))), (1, (AV.v (TV.one (At.int IntKind.i64 (z32 an k i b8))))), (5, (AV.v (TV.one (At.int IntKind.i64 (z3x an k i b8))))), (9, (AV.v (TV.one (At.bool (z3v an k i b8)))))] [(Blk.mk Bool.false (Body.fl FloatKind.f32 b0)), (Blk.mk Bool.false (Body.fl FloatKind.f32 b1)), (Blk.mk Bool.true (Body.cells [(At.vw 0 0 q09 1), (At.vw 1 0 q08 1)])), (Blk.mk Bool.true (Body.cells [(At.sl 4 0 q0h 1), (At.sl 5 0 q0g 1)])), (Blk.mk Bool.true (Body.fl FloatKind.f32 b4)), (Blk.mk Bool.true (Body.fl FloatKind.f32 b5)), (Blk.mk Bool.true (Body.cells [(At.sl 7 0 q0d 1), (At.sl 8 0 q0e 1)])), (Blk.mk Bool.true (Body.fl FloatKind.f32 b7)), (Blk.mk Bool.true (Body.fl FloatKind.f32 (z3t an k i b8))), (Blk.mk Bool.true (Body.cells [(At.sl 10 0 q0j 1), (At.sl 11 0 q0i 1)])), (Blk.mk Bool.true (Body.fl FloatKind.f32 b10)), (Blk.mk Bool.true (Body.fl FloatKind.f32 b11)), (Blk.mk Bool.true (Body.cells [(At.sl 7 0 q0m 1), (At.sl 8 0 q0n 1)]))])))
  | _, _ => none
def z39 (an : Nat) (b0 : List Nat) (b1 : List Nat) (q09 : Nat) (q08 : Nat) (q0h : Nat) (q0g : Nat) (b4 : List Nat) (b5 : List Nat) (q0d : Nat) (q0e : Nat) (b7 : List Nat) (q0j : Nat) (q0i : Nat) (b10 : List Nat) (b11 : List Nat) (q0m : Nat) (q0n : Nat) : Option ((Int × Int × Bool × (List Nat))) → Option (Ex × St)
  | none => none
  | some r => some ((Ex.exit 0), (St.mk [(0, (AV.v (TV.one (At.sl 8 0 an 1)))), (1, (AV.v (TV.one (At.int IntKind.i64 r.1)))), (5, (AV.v (TV.one (At.int IntKind.i64 r.2.1)))), (9, (AV.v (TV.one (At.bool r.2.2.1))))] [(Blk.mk Bool.false (Body.fl FloatKind.f32 b0)), (Blk.mk Bool.false (Body.fl FloatKind.f32 b1)), (Blk.mk Bool.true (Body.cells [(At.vw 0 0 q09 1), (At.vw 1 0 q08 1)])), (Blk.mk Bool.true (Body.cells [(At.sl 4 0 q0h 1), (At.sl 5 0 q0g 1)])), (Blk.mk Bool.true (Body.fl FloatKind.f32 b4)), (Blk.mk Bool.true (Body.fl FloatKind.f32 b5)), (Blk.mk Bool.true (Body.cells [(At.sl 7 0 q0d 1), (At.sl 8 0 q0e 1)])), (Blk.mk Bool.true (Body.fl FloatKind.f32 b7)), (Blk.mk Bool.true (Body.fl FloatKind.f32 r.2.2.2)), (Blk.mk Bool.true (Body.cells [(At.sl 10 0 q0j 1), (At.sl 11 0 q0i 1)])), (Blk.mk Bool.true (Body.fl FloatKind.f32 b10)), (Blk.mk Bool.true (Body.fl FloatKind.f32 b11)), (Blk.mk Bool.true (Body.cells [(At.sl 7 0 q0m 1), (At.sl 8 0 q0n 1)]))]))
def z7z (an : Nat) (b0 : List Nat) (b1 : List Nat) (q09 : Nat) (q08 : Nat) (q0h : Nat) (q0g : Nat) (b4 : List Nat) (b5 : List Nat) (q0d : Nat) (q0e : Nat) (b7 : List Nat) (q0j : Nat) (q0i : Nat) (b10 : List Nat) (b11 : List Nat) (q0m : Nat) (q0n : Nat) (x : Option ((Int × Int × Bool × (List Nat)))) : LO := (LO.one (Ex.exit 0) (St.mk [(0, (AV.v (TV.one (At.sl 8 0 an 1)))), (1, (AV.v (TV.one (At.int IntKind.i64 (x.getD default).1)))), (5, (AV.v (TV.one (At.int IntKind.i64 (x.getD default).2.1)))), (9, (AV.v (TV.one (At.bool (x.getD default).2.2.1))))] [(Blk.mk Bool.false (Body.fl FloatKind.f32 b0)), (Blk.mk Bool.false (Body.fl FloatKind.f32 b1)), (Blk.mk Bool.true (Body.cells [(At.vw 0 0 q09 1), (At.vw 1 0 q08 1)])), (Blk.mk Bool.true (Body.cells [(At.sl 4 0 q0h 1), (At.sl 5 0 q0g 1)])), (Blk.mk Bool.true (Body.fl FloatKind.f32 b4)), (Blk.mk Bool.true (Body.fl FloatKind.f32 b5)), (Blk.mk Bool.true (Body.cells [(At.sl 7 0 q0d 1), (At.sl 8 0 q0e 1)])), (Blk.mk Bool.true (Body.fl FloatKind.f32 b7)), (Blk.mk Bool.true (Body.fl FloatKind.f32 (x.getD default).2.2.2)), (Blk.mk Bool.true (Body.cells [(At.sl 10 0 q0j 1), (At.sl 11 0 q0i 1)])), (Blk.mk Bool.true (Body.fl FloatKind.f32 b10)), (Blk.mk Bool.true (Body.fl FloatKind.f32 b11)), (Blk.mk Bool.true (Body.cells [(At.sl 7 0 q0m 1), (At.sl 8 0 q0n 1)]))]))
theorem z8o (an : Nat) (b0 : List Nat) (b1 : List Nat) (q09 : Nat) (q08 : Nat) (q0h : Nat) (q0g : Nat) (b4 : List Nat) (b5 : List Nat) (q0d : Nat) (q0e : Nat) (b7 : List Nat) (q0j : Nat) (q0i : Nat) (b10 : List Nat) (b11 : List Nat) (q0m : Nat) (q0n : Nat) : ∀ x : Option ((Int × Int × Bool × (List Nat))), x.isSome = true → (z39 an b0 b1 q09 q08 q0h q0g b4 b5 q0d q0e b7 q0j q0i b10 b11 q0m q0n) x = some (pick (z7z an b0 b1 q09 q08 q0h q0g b4 b5 q0d q0e b7 q0j q0i b10 b11 q0m q0n x))
  | none, h => by cases h
  | some r, _ => rfl
theorem z8i (an : Nat) (k : Int) (i : Int) (b0 : List Nat) (b1 : List Nat) (q09 : Nat) (q08 : Nat) (q0h : Nat) (q0g : Nat) (b4 : List Nat) (b5 : List Nat) (q0d : Nat) (q0e : Nat) (b7 : List Nat) (b8 : List Nat) (q0j : Nat) (q0i : Nat) (b10 : List Nat) (b11 : List Nat) (q0m : Nat) (q0n : Nat) (K : Ex → St → Option (Ex × St)) : evC (R := Ex × St) Γ15 (evFn Γ15 8 8) 19 13 fi19.nt fi19.live fi19.nl 8 (findL 2 (loopsIn fi19.code)) (St.mk [(0, (AV.v (TV.one (At.sl 8 0 an 1)))), (1, (AV.v (TV.one (At.int IntKind.i64 k)))), (5, (AV.v (TV.one (At.int IntKind.i64 i))))] [(Blk.mk Bool.false (Body.fl FloatKind.f32 b0)), (Blk.mk Bool.false (Body.fl FloatKind.f32 b1)), (Blk.mk Bool.true (Body.cells [(At.vw 0 0 q09 1), (At.vw 1 0 q08 1)])), (Blk.mk Bool.true (Body.cells [(At.sl 4 0 q0h 1), (At.sl 5 0 q0g 1)])), (Blk.mk Bool.true (Body.fl FloatKind.f32 b4)), (Blk.mk Bool.true (Body.fl FloatKind.f32 b5)), (Blk.mk Bool.true (Body.cells [(At.sl 7 0 q0d 1), (At.sl 8 0 q0e 1)])), (Blk.mk Bool.true (Body.fl FloatKind.f32 b7)), (Blk.mk Bool.true (Body.fl FloatKind.f32 b8)), (Blk.mk Bool.true (Body.cells [(At.sl 10 0 q0j 1), (At.sl 11 0 q0i 1)])), (Blk.mk Bool.true (Body.fl FloatKind.f32 b10)), (Blk.mk Bool.true (Body.fl FloatKind.f32 b11)), (Blk.mk Bool.true (Body.cells [(At.sl 7 0 q0m 1), (At.sl 8 0 q0n 1)]))]) K = z2j an k i b8 (fun k' i' b8' => K .normal (St.mk [(0, (AV.v (TV.one (At.sl 8 0 an 1)))), (1, (AV.v (TV.one (At.int IntKind.i64 k')))), (5, (AV.v (TV.one (At.int IntKind.i64 i'))))] [(Blk.mk Bool.false (Body.fl FloatKind.f32 b0)), (Blk.mk Bool.false (Body.fl FloatKind.f32 b1)), (Blk.mk Bool.true (Body.cells [(At.vw 0 0 q09 1), (At.vw 1 0 q08 1)])), (Blk.mk Bool.true (Body.cells [(At.sl 4 0 q0h 1), (At.sl 5 0 q0g 1)])), (Blk.mk Bool.true (Body.fl FloatKind.f32 b4)), (Blk.mk Bool.true (Body.fl FloatKind.f32 b5)), (Blk.mk Bool.true (Body.cells [(At.sl 7 0 q0d 1), (At.sl 8 0 q0e 1)])), (Blk.mk Bool.true (Body.fl FloatKind.f32 b7)), (Blk.mk Bool.true (Body.fl FloatKind.f32 b8')), (Blk.mk Bool.true (Body.cells [(At.sl 10 0 q0j 1), (At.sl 11 0 q0i 1)])), (Blk.mk Bool.true (Body.fl FloatKind.f32 b10)), (Blk.mk Bool.true (Body.fl FloatKind.f32 b11)), (Blk.mk Bool.true (Body.cells [(At.sl 7 0 q0m 1), (At.sl 8 0 q0n 1)]))])) (fun c0_ c1_ c2_ c3_ => K (Ex.exit 0) (St.mk [(0, (AV.v (TV.one (At.sl 8 0 an 1)))), (1, (AV.v (TV.one (At.int IntKind.i64 c0_)))), (5, (AV.v (TV.one (At.int IntKind.i64 c1_)))), (9, (AV.v (TV.one (At.bool c2_))))] [(Blk.mk Bool.false (Body.fl FloatKind.f32 b0)), (Blk.mk Bool.false (Body.fl FloatKind.f32 b1)), (Blk.mk Bool.true (Body.cells [(At.vw 0 0 q09 1), (At.vw 1 0 q08 1)])), (Blk.mk Bool.true (Body.cells [(At.sl 4 0 q0h 1), (At.sl 5 0 q0g 1)])), (Blk.mk Bool.true (Body.fl FloatKind.f32 b4)), (Blk.mk Bool.true (Body.fl FloatKind.f32 b5)), (Blk.mk Bool.true (Body.cells [(At.sl 7 0 q0d 1), (At.sl 8 0 q0e 1)])), (Blk.mk Bool.true (Body.fl FloatKind.f32 b7)), (Blk.mk Bool.true (Body.fl FloatKind.f32 c3_)), (Blk.mk Bool.true (Body.cells [(At.sl 10 0 q0j 1), (At.sl 11 0 q0i 1)])), (Blk.mk Bool.true (Body.fl FloatKind.f32 b10)), (Blk.mk Bool.true (Body.fl FloatKind.f32 b11)), (Blk.mk Bool.true (Body.cells [(At.sl 7 0 q0m 1), (At.sl 8 0 q0n 1)]))])) := by kernel_rfl
theorem z8h (an : Nat) (b0 : List Nat) (b1 : List Nat) (q09 : Nat) (q08 : Nat) (q0h : Nat) (q0g : Nat) (b4 : List Nat) (b5 : List Nat) (q0d : Nat) (q0e : Nat) (b7 : List Nat) (q0j : Nat) (q0i : Nat) (b10 : List Nat) (b11 : List Nat) (q0m : Nat) (q0n : Nat) : ∀ (n : Nat) (k : Int) (i : Int) (b8 : List Nat), iter 19 2 13 (evC (R := Ex × St) Γ15 (evFn Γ15 8 8) 19 13 fi19.nt fi19.live fi19.nl 8 (findL 2 (loopsIn fi19.code))) n (St.mk [(0, (AV.v (TV.one (At.sl 8 0 an 1)))), (1, (AV.v (TV.one (At.int IntKind.i64 k)))), (5, (AV.v (TV.one (At.int IntKind.i64 i))))] [(Blk.mk Bool.false (Body.fl FloatKind.f32 b0)), (Blk.mk Bool.false (Body.fl FloatKind.f32 b1)), (Blk.mk Bool.true (Body.cells [(At.vw 0 0 q09 1), (At.vw 1 0 q08 1)])), (Blk.mk Bool.true (Body.cells [(At.sl 4 0 q0h 1), (At.sl 5 0 q0g 1)])), (Blk.mk Bool.true (Body.fl FloatKind.f32 b4)), (Blk.mk Bool.true (Body.fl FloatKind.f32 b5)), (Blk.mk Bool.true (Body.cells [(At.sl 7 0 q0d 1), (At.sl 8 0 q0e 1)])), (Blk.mk Bool.true (Body.fl FloatKind.f32 b7)), (Blk.mk Bool.true (Body.fl FloatKind.f32 b8)), (Blk.mk Bool.true (Body.cells [(At.sl 10 0 q0j 1), (At.sl 11 0 q0i 1)])), (Blk.mk Bool.true (Body.fl FloatKind.f32 b10)), (Blk.mk Bool.true (Body.fl FloatKind.f32 b11)), (Blk.mk Bool.true (Body.cells [(At.sl 7 0 q0m 1), (At.sl 8 0 q0n 1)]))]) (fun e st => some (e, st)) = (z39 an b0 b1 q09 q08 q0h q0g b4 b5 q0d q0e b7 q0j q0i b10 b11 q0m q0n) (z1f an n k i b8) := by
  intro n
  induction n with
  | zero => intros; rfl
  | succ n ih =>
    intro k i b8
    refine Eq.trans (iter_succ ..) (Eq.trans (z8i an k i b0 b1 q09 q08 q0h q0g b4 b5 q0d q0e b7 b8 q0j q0i b10 b11 q0m q0n (nextK 19 2 13 (evC (R := Ex × St) Γ15 (evFn Γ15 8 8) 19 13 fi19.nt fi19.live fi19.nl 8 (findL 2 (loopsIn fi19.code))) n (fun e st => some (e, st)))) (Eq.trans ?_ (z7e (z39 an b0 b1 q09 q08 q0h q0g b4 b5 q0d q0e b7 q0j q0i b10 b11 q0m q0n) rfl an k i b8 (fun k' i' b8' => z1f an n k' i' b8') (fun c0_ c1_ c2_ c3_ => some (c0_, c1_, c2_, c3_)))))
    exact congrArg (fun kn_ => z2j an k i b8 kn_ (fun c0_ c1_ c2_ c3_ => (z39 an b0 b1 q09 q08 q0h q0g b4 b5 q0d q0e b7 q0j q0i b10 b11 q0m q0n) (some (c0_, c1_, c2_, c3_)))) (funext fun k' => funext fun i' => funext fun b8' => ih k' i' b8')
theorem z0a : LoopOne Try.prog fnTab 19 2 z08 := lp_of (Γ := Γ15) tyTab_ok (FnL.ok fnTab_ok _ _) (LpL.ok lt15_ok) (SumL.ok tb15_ok _) mixed (fi := fi19) (by kernel_rfl) (by kernel_rfl) (by
  intro lo st out hp
  unfold z08 at hp
  split at hp
  · rename_i an k i b0 b1 q09 q08 q0h q0g b4 b5 q0d q0e b7 b8 q0j q0i b10 b11 q0m q0n
    injection hp with hp
    injection hp with h1 h2
    subst h2
    exact ⟨8, 8, big, Eq.trans (z8h an b0 b1 q09 q08 q0h q0g b4 b5 q0d q0e b7 q0j q0i b10 b11 q0m q0n big k i b8) (z8o an b0 b1 q09 q08 q0h q0g b4 b5 q0d q0e b7 q0j q0i b10 b11 q0m q0n (z1f an big k i b8) h1)⟩
  · cases hp)
noncomputable def tb16 : List (Nat × (List PT → Option (Bool × AV × List Blk))) := [(129, z0r), (133, z0c), (137, z0s), (139, z15), (25, z18), (59, z26), (64, z19), (66, z20), (70, z11), (78, z1j), (21, z21), (58, z1m), (67, z1u), (20, z0u), (74, z16), (126, z17), (18, z1c), (23, z27), (34, z1s), (26, z29), (71, z23), (125, z05), (110, z03), (31, z24), (112, z25), (75, z22), (32, z2f)]
noncomputable def lt16 : List ((Nat × Nat) × (Nat → St → Option (Bool × LO))) := [((20, 2), z0e), ((74, 3), z0m), ((18, 4), z0p), ((71, 5), z1b), ((125, 2), z01), ((31, 6), z1i), ((32, 5), z1x), ((19, 2), z06), ((19, 2), z08)]
noncomputable def Γ16 : Ctx := ⟨tyTab, fnTab, tblSum tb16, tblLp lt16⟩
theorem tb16_ok : SumL Try.prog tb16 := SumL.cons z0j (SumL.cons z09 (SumL.cons z0i (SumL.cons z0q (SumL.cons z0t (SumL.cons z1o (SumL.cons z0v (SumL.cons z1h (SumL.cons z0o (SumL.cons z10 (SumL.cons z1l (SumL.cons z13 (SumL.cons z1a (SumL.cons z0l (SumL.cons z0x (SumL.cons z0w (SumL.cons z0z (SumL.cons z1r (SumL.cons z1d (SumL.cons z1w (SumL.cons z1n (SumL.cons z04 (SumL.cons z02 (SumL.cons z1t (SumL.cons z1v (SumL.cons z1q (SumL.cons z28 (SumL.nil)))))))))))))))))))))))))))
theorem lt16_ok : LpL Try.prog fnTab lt16 := LpL.cons z0b (LpL.cons z0g (LpL.cons z0h (LpL.cons z0y (LpL.cons z00 (LpL.cons z14 (LpL.cons z1p (LpL.cons z07 (LpL.cons z0a (LpL.nil)))))))))
noncomputable def tb17 : List (Nat × (List PT → Option (Bool × AV × List Blk))) := [(129, z0r), (133, z0c), (137, z0s), (139, z15), (25, z18), (59, z26), (64, z19), (66, z20), (70, z11), (78, z1j), (21, z21), (58, z1m), (67, z1u), (20, z0u), (74, z16), (126, z17), (18, z1c), (23, z27), (34, z1s), (26, z29), (71, z23), (125, z05), (110, z03), (31, z24), (112, z25), (75, z22), (32, z2f)]
noncomputable def lt17 : List ((Nat × Nat) × (Nat → St → Option (Bool × LO))) := [((20, 2), z0e), ((74, 3), z0m), ((18, 4), z0p), ((71, 5), z1b), ((125, 2), z01), ((31, 6), z1i), ((32, 5), z1x), ((19, 2), z06), ((19, 2), z08)]
noncomputable def Γ17 : Ctx := ⟨tyTab, fnTab, tblSum tb17, tblLp lt17⟩
theorem tb17_ok : SumL Try.prog tb17 := SumL.cons z0j (SumL.cons z09 (SumL.cons z0i (SumL.cons z0q (SumL.cons z0t (SumL.cons z1o (SumL.cons z0v (SumL.cons z1h (SumL.cons z0o (SumL.cons z10 (SumL.cons z1l (SumL.cons z13 (SumL.cons z1a (SumL.cons z0l (SumL.cons z0x (SumL.cons z0w (SumL.cons z0z (SumL.cons z1r (SumL.cons z1d (SumL.cons z1w (SumL.cons z1n (SumL.cons z04 (SumL.cons z02 (SumL.cons z1t (SumL.cons z1v (SumL.cons z1q (SumL.cons z28 (SumL.nil)))))))))))))))))))))))))))
theorem lt17_ok : LpL Try.prog fnTab lt17 := LpL.cons z0b (LpL.cons z0g (LpL.cons z0h (LpL.cons z0y (LpL.cons z00 (LpL.cons z14 (LpL.cons z1p (LpL.cons z07 (LpL.cons z0a (LpL.nil)))))))))
noncomputable def z0d : Nat → St → Option (Bool × LO)
  | 10, (St.mk [(0, (AV.v (TV.one (At.sl 7 0 an 1)))), (1, (AV.v (TV.one (At.int IntKind.i64 k)))), (5, (AV.v (TV.one (At.int IntKind.i64 i))))] [(Blk.mk Bool.false (Body.fl FloatKind.f32 b0)), (Blk.mk Bool.false (Body.fl FloatKind.f32 b1)), (Blk.mk Bool.true (Body.cells [(At.vw 0 0 q09 1), (At.vw 1 0 q08 1)])), (Blk.mk Bool.true (Body.cells [(At.sl 4 0 q0h 1), (At.sl 5 0 q0g 1)])), (Blk.mk Bool.true (Body.fl FloatKind.f32 b4)), (Blk.mk Bool.true (Body.fl FloatKind.f32 b5)), (Blk.mk Bool.true (Body.cells [(At.sl 7 0 q0d 1), (At.sl 8 0 q0e 1)])), (Blk.mk Bool.true (Body.fl FloatKind.f32 b7)), (Blk.mk Bool.true (Body.fl FloatKind.f32 b8)), (Blk.mk Bool.true (Body.cells [(At.sl 7 0 q0j 1), (At.sl 8 0 q0i 1)]))]) => some ((z3b an k i b7), (LO.one (Ex.exit 0) (St.mk [(0, (AV.v (TV.one (At.sl 7 0 an 1)))), (1, (AV.v (TV.one (At.int IntKind.i64 (z31 an k i b7))))), (5, (AV.v (TV.one (At.int IntKind.i64 (z3s an k i b7))))), (9, (AV.v (TV.one (At.bool (z3w an k i b7)))))] [(Blk.mk Bool.false (Body.fl FloatKind.f32 b0)), (Blk.mk Bool.false (Body.fl FloatKind.f32 b1)), (Blk.mk Bool.true (Body.cells [(At.vw 0 0 q09 1), (At.vw 1 0 q08 1)])), (Blk.mk Bool.true (Body.cells [(At.sl 4 0 q0h 1), (At.sl 5 0 q0g 1)])), (Blk.mk Bool.true (Body.fl FloatKind.f32 b4)), (Blk.mk Bool.true (Body.fl FloatKind.f32 b5)), (Blk.mk Bool.true (Body.cells [(At.sl 7 0 q0d 1), (At.sl 8 0 q0e 1)])), (Blk.mk Bool.true (Body.fl FloatKind.f32 (z2z an k i b7))), (Blk.mk Bool.true (Body.fl FloatKind.f32 b8)), (Blk.mk Bool.true (Body.cells [(At.sl 7 0 q0j 1), (At.sl 8 0 q0i 1)]))])))
  | _, _ => none
def z3a (an : Nat) (b0 : List Nat) (b1 : List Nat) (q09 : Nat) (q08 : Nat) (q0h : Nat) (q0g : Nat) (b4 : List Nat) (b5 : List Nat) (q0d : Nat) (q0e : Nat) (b8 : List Nat) (q0j : Nat) (q0i : Nat) : Option ((Int × Int × Bool × (List Nat))) → Option (Ex × St)
  | none => none
  | some r => some ((Ex.exit 0), (St.mk [(0, (AV.v (TV.one (At.sl 7 0 an 1)))), (1, (AV.v (TV.one (At.int IntKind.i64 r.1)))), (5, (AV.v (TV.one (At.int IntKind.i64 r.2.1)))), (9, (AV.v (TV.one (At.bool r.2.2.1))))] [(Blk.mk Bool.false (Body.fl FloatKind.f32 b0)), (Blk.mk Bool.false (Body.fl FloatKind.f32 b1)), (Blk.mk Bool.true (Body.cells [(At.vw 0 0 q09 1), (At.vw 1 0 q08 1)])), (Blk.mk Bool.true (Body.cells [(At.sl 4 0 q0h 1), (At.sl 5 0 q0g 1)])), (Blk.mk Bool.true (Body.fl FloatKind.f32 b4)), (Blk.mk Bool.true (Body.fl FloatKind.f32 b5)), (Blk.mk Bool.true (Body.cells [(At.sl 7 0 q0d 1), (At.sl 8 0 q0e 1)])), (Blk.mk Bool.true (Body.fl FloatKind.f32 r.2.2.2)), (Blk.mk Bool.true (Body.fl FloatKind.f32 b8)), (Blk.mk Bool.true (Body.cells [(At.sl 7 0 q0j 1), (At.sl 8 0 q0i 1)]))]))
def z83 (an : Nat) (b0 : List Nat) (b1 : List Nat) (q09 : Nat) (q08 : Nat) (q0h : Nat) (q0g : Nat) (b4 : List Nat) (b5 : List Nat) (q0d : Nat) (q0e : Nat) (b8 : List Nat) (q0j : Nat) (q0i : Nat) (x : Option ((Int × Int × Bool × (List Nat)))) : LO := (LO.one (Ex.exit 0) (St.mk [(0, (AV.v (TV.one (At.sl 7 0 an 1)))), (1, (AV.v (TV.one (At.int IntKind.i64 (x.getD default).1)))), (5, (AV.v (TV.one (At.int IntKind.i64 (x.getD default).2.1)))), (9, (AV.v (TV.one (At.bool (x.getD default).2.2.1))))] [(Blk.mk Bool.false (Body.fl FloatKind.f32 b0)), (Blk.mk Bool.false (Body.fl FloatKind.f32 b1)), (Blk.mk Bool.true (Body.cells [(At.vw 0 0 q09 1), (At.vw 1 0 q08 1)])), (Blk.mk Bool.true (Body.cells [(At.sl 4 0 q0h 1), (At.sl 5 0 q0g 1)])), (Blk.mk Bool.true (Body.fl FloatKind.f32 b4)), (Blk.mk Bool.true (Body.fl FloatKind.f32 b5)), (Blk.mk Bool.true (Body.cells [(At.sl 7 0 q0d 1), (At.sl 8 0 q0e 1)])), (Blk.mk Bool.true (Body.fl FloatKind.f32 (x.getD default).2.2.2)), (Blk.mk Bool.true (Body.fl FloatKind.f32 b8)), (Blk.mk Bool.true (Body.cells [(At.sl 7 0 q0j 1), (At.sl 8 0 q0i 1)]))]))
theorem z8m (an : Nat) (b0 : List Nat) (b1 : List Nat) (q09 : Nat) (q08 : Nat) (q0h : Nat) (q0g : Nat) (b4 : List Nat) (b5 : List Nat) (q0d : Nat) (q0e : Nat) (b8 : List Nat) (q0j : Nat) (q0i : Nat) : ∀ x : Option ((Int × Int × Bool × (List Nat))), x.isSome = true → (z3a an b0 b1 q09 q08 q0h q0g b4 b5 q0d q0e b8 q0j q0i) x = some (pick (z83 an b0 b1 q09 q08 q0h q0g b4 b5 q0d q0e b8 q0j q0i x))
  | none, h => by cases h
  | some r, _ => rfl
theorem z8e (an : Nat) (k : Int) (i : Int) (b0 : List Nat) (b1 : List Nat) (q09 : Nat) (q08 : Nat) (q0h : Nat) (q0g : Nat) (b4 : List Nat) (b5 : List Nat) (q0d : Nat) (q0e : Nat) (b7 : List Nat) (b8 : List Nat) (q0j : Nat) (q0i : Nat) (K : Ex → St → Option (Ex × St)) : evC (R := Ex × St) Γ17 (evFn Γ17 8 8) 19 10 fi19.nt fi19.live fi19.nl 8 (findL 2 (loopsIn fi19.code)) (St.mk [(0, (AV.v (TV.one (At.sl 7 0 an 1)))), (1, (AV.v (TV.one (At.int IntKind.i64 k)))), (5, (AV.v (TV.one (At.int IntKind.i64 i))))] [(Blk.mk Bool.false (Body.fl FloatKind.f32 b0)), (Blk.mk Bool.false (Body.fl FloatKind.f32 b1)), (Blk.mk Bool.true (Body.cells [(At.vw 0 0 q09 1), (At.vw 1 0 q08 1)])), (Blk.mk Bool.true (Body.cells [(At.sl 4 0 q0h 1), (At.sl 5 0 q0g 1)])), (Blk.mk Bool.true (Body.fl FloatKind.f32 b4)), (Blk.mk Bool.true (Body.fl FloatKind.f32 b5)), (Blk.mk Bool.true (Body.cells [(At.sl 7 0 q0d 1), (At.sl 8 0 q0e 1)])), (Blk.mk Bool.true (Body.fl FloatKind.f32 b7)), (Blk.mk Bool.true (Body.fl FloatKind.f32 b8)), (Blk.mk Bool.true (Body.cells [(At.sl 7 0 q0j 1), (At.sl 8 0 q0i 1)]))]) K = z2k an k i b7 (fun k' i' b7' => K .normal (St.mk [(0, (AV.v (TV.one (At.sl 7 0 an 1)))), (1, (AV.v (TV.one (At.int IntKind.i64 k')))), (5, (AV.v (TV.one (At.int IntKind.i64 i'))))] [(Blk.mk Bool.false (Body.fl FloatKind.f32 b0)), (Blk.mk Bool.false (Body.fl FloatKind.f32 b1)), (Blk.mk Bool.true (Body.cells [(At.vw 0 0 q09 1), (At.vw 1 0 q08 1)])), (Blk.mk Bool.true (Body.cells [(At.sl 4 0 q0h 1), (At.sl 5 0 q0g 1)])), (Blk.mk Bool.true (Body.fl FloatKind.f32 b4)), (Blk.mk Bool.true (Body.fl FloatKind.f32 b5)), (Blk.mk Bool.true (Body.cells [(At.sl 7 0 q0d 1), (At.sl 8 0 q0e 1)])), (Blk.mk Bool.true (Body.fl FloatKind.f32 b7')), (Blk.mk Bool.true (Body.fl FloatKind.f32 b8)), (Blk.mk Bool.true (Body.cells [(At.sl 7 0 q0j 1), (At.sl 8 0 q0i 1)]))])) (fun c0_ c1_ c2_ c3_ => K (Ex.exit 0) (St.mk [(0, (AV.v (TV.one (At.sl 7 0 an 1)))), (1, (AV.v (TV.one (At.int IntKind.i64 c0_)))), (5, (AV.v (TV.one (At.int IntKind.i64 c1_)))), (9, (AV.v (TV.one (At.bool c2_))))] [(Blk.mk Bool.false (Body.fl FloatKind.f32 b0)), (Blk.mk Bool.false (Body.fl FloatKind.f32 b1)), (Blk.mk Bool.true (Body.cells [(At.vw 0 0 q09 1), (At.vw 1 0 q08 1)])), (Blk.mk Bool.true (Body.cells [(At.sl 4 0 q0h 1), (At.sl 5 0 q0g 1)])), (Blk.mk Bool.true (Body.fl FloatKind.f32 b4)), (Blk.mk Bool.true (Body.fl FloatKind.f32 b5)), (Blk.mk Bool.true (Body.cells [(At.sl 7 0 q0d 1), (At.sl 8 0 q0e 1)])), (Blk.mk Bool.true (Body.fl FloatKind.f32 c3_)), (Blk.mk Bool.true (Body.fl FloatKind.f32 b8)), (Blk.mk Bool.true (Body.cells [(At.sl 7 0 q0j 1), (At.sl 8 0 q0i 1)]))])) := by kernel_rfl
theorem z8b (an : Nat) (b0 : List Nat) (b1 : List Nat) (q09 : Nat) (q08 : Nat) (q0h : Nat) (q0g : Nat) (b4 : List Nat) (b5 : List Nat) (q0d : Nat) (q0e : Nat) (b8 : List Nat) (q0j : Nat) (q0i : Nat) : ∀ (n : Nat) (k : Int) (i : Int) (b7 : List Nat), iter 19 2 10 (evC (R := Ex × St) Γ17 (evFn Γ17 8 8) 19 10 fi19.nt fi19.live fi19.nl 8 (findL 2 (loopsIn fi19.code))) n (St.mk [(0, (AV.v (TV.one (At.sl 7 0 an 1)))), (1, (AV.v (TV.one (At.int IntKind.i64 k)))), (5, (AV.v (TV.one (At.int IntKind.i64 i))))] [(Blk.mk Bool.false (Body.fl FloatKind.f32 b0)), (Blk.mk Bool.false (Body.fl FloatKind.f32 b1)), (Blk.mk Bool.true (Body.cells [(At.vw 0 0 q09 1), (At.vw 1 0 q08 1)])), (Blk.mk Bool.true (Body.cells [(At.sl 4 0 q0h 1), (At.sl 5 0 q0g 1)])), (Blk.mk Bool.true (Body.fl FloatKind.f32 b4)), (Blk.mk Bool.true (Body.fl FloatKind.f32 b5)), (Blk.mk Bool.true (Body.cells [(At.sl 7 0 q0d 1), (At.sl 8 0 q0e 1)])), (Blk.mk Bool.true (Body.fl FloatKind.f32 b7)), (Blk.mk Bool.true (Body.fl FloatKind.f32 b8)), (Blk.mk Bool.true (Body.cells [(At.sl 7 0 q0j 1), (At.sl 8 0 q0i 1)]))]) (fun e st => some (e, st)) = (z3a an b0 b1 q09 q08 q0h q0g b4 b5 q0d q0e b8 q0j q0i) (z1g an n k i b7) := by
  intro n
  induction n with
  | zero => intros; rfl
  | succ n ih =>
    intro k i b7
    refine Eq.trans (iter_succ ..) (Eq.trans (z8e an k i b0 b1 q09 q08 q0h q0g b4 b5 q0d q0e b7 b8 q0j q0i (nextK 19 2 10 (evC (R := Ex × St) Γ17 (evFn Γ17 8 8) 19 10 fi19.nt fi19.live fi19.nl 8 (findL 2 (loopsIn fi19.code))) n (fun e st => some (e, st)))) (Eq.trans ?_ (z7f (z3a an b0 b1 q09 q08 q0h q0g b4 b5 q0d q0e b8 q0j q0i) rfl an k i b7 (fun k' i' b7' => z1g an n k' i' b7') (fun c0_ c1_ c2_ c3_ => some (c0_, c1_, c2_, c3_)))))
    exact congrArg (fun kn_ => z2k an k i b7 kn_ (fun c0_ c1_ c2_ c3_ => (z3a an b0 b1 q09 q08 q0h q0g b4 b5 q0d q0e b8 q0j q0i) (some (c0_, c1_, c2_, c3_)))) (funext fun k' => funext fun i' => funext fun b7' => ih k' i' b7')
theorem z0f : LoopOne Try.prog fnTab 19 2 z0d := lp_of (Γ := Γ17) tyTab_ok (FnL.ok fnTab_ok _ _) (LpL.ok lt17_ok) (SumL.ok tb17_ok _) mixed (fi := fi19) (by kernel_rfl) (by kernel_rfl) (by
  intro lo st out hp
  unfold z0d at hp
  split at hp
  · rename_i an k i b0 b1 q09 q08 q0h q0g b4 b5 q0d q0e b7 b8 q0j q0i
    injection hp with hp
    injection hp with h1 h2
    subst h2
    exact ⟨8, 8, big, Eq.trans (z8b an b0 b1 q09 q08 q0h q0g b4 b5 q0d q0e b8 q0j q0i big k i b7) (z8m an b0 b1 q09 q08 q0h q0g b4 b5 q0d q0e b8 q0j q0i (z1g an big k i b7) h1)⟩
  · cases hp)
noncomputable def tb18 : List (Nat × (List PT → Option (Bool × AV × List Blk))) := [(129, z0r), (133, z0c), (137, z0s), (139, z15), (25, z18), (59, z26), (64, z19), (66, z20), (70, z11), (78, z1j), (21, z21), (58, z1m), (67, z1u), (20, z0u), (74, z16), (126, z17), (18, z1c), (23, z27), (34, z1s), (26, z29), (71, z23), (125, z05), (110, z03), (31, z24), (112, z25), (75, z22), (32, z2f)]
noncomputable def lt18 : List ((Nat × Nat) × (Nat → St → Option (Bool × LO))) := [((20, 2), z0e), ((74, 3), z0m), ((18, 4), z0p), ((71, 5), z1b), ((125, 2), z01), ((31, 6), z1i), ((32, 5), z1x), ((19, 2), z06), ((19, 2), z08), ((19, 2), z0d)]
noncomputable def Γ18 : Ctx := ⟨tyTab, fnTab, tblSum tb18, tblLp lt18⟩
theorem tb18_ok : SumL Try.prog tb18 := SumL.cons z0j (SumL.cons z09 (SumL.cons z0i (SumL.cons z0q (SumL.cons z0t (SumL.cons z1o (SumL.cons z0v (SumL.cons z1h (SumL.cons z0o (SumL.cons z10 (SumL.cons z1l (SumL.cons z13 (SumL.cons z1a (SumL.cons z0l (SumL.cons z0x (SumL.cons z0w (SumL.cons z0z (SumL.cons z1r (SumL.cons z1d (SumL.cons z1w (SumL.cons z1n (SumL.cons z04 (SumL.cons z02 (SumL.cons z1t (SumL.cons z1v (SumL.cons z1q (SumL.cons z28 (SumL.nil)))))))))))))))))))))))))))
theorem lt18_ok : LpL Try.prog fnTab lt18 := LpL.cons z0b (LpL.cons z0g (LpL.cons z0h (LpL.cons z0y (LpL.cons z00 (LpL.cons z14 (LpL.cons z1p (LpL.cons z07 (LpL.cons z0a (LpL.cons z0f (LpL.nil))))))))))
noncomputable def tb19 : List (Nat × (List PT → Option (Bool × AV × List Blk))) := [(129, z0r), (133, z0c), (137, z0s), (139, z15), (25, z18), (59, z26), (64, z19), (66, z20), (70, z11), (78, z1j), (21, z21), (58, z1m), (67, z1u), (20, z0u), (74, z16), (126, z17), (18, z1c), (23, z27), (34, z1s), (26, z29), (71, z23), (125, z05), (110, z03), (31, z24), (112, z25), (75, z22), (32, z2f)]
noncomputable def lt19 : List ((Nat × Nat) × (Nat → St → Option (Bool × LO))) := [((20, 2), z0e), ((74, 3), z0m), ((18, 4), z0p), ((71, 5), z1b), ((125, 2), z01), ((31, 6), z1i), ((32, 5), z1x), ((19, 2), z06), ((19, 2), z08), ((19, 2), z0d)]
noncomputable def Γ19 : Ctx := ⟨tyTab, fnTab, tblSum tb19, tblLp lt19⟩
theorem tb19_ok : SumL Try.prog tb19 := SumL.cons z0j (SumL.cons z09 (SumL.cons z0i (SumL.cons z0q (SumL.cons z0t (SumL.cons z1o (SumL.cons z0v (SumL.cons z1h (SumL.cons z0o (SumL.cons z10 (SumL.cons z1l (SumL.cons z13 (SumL.cons z1a (SumL.cons z0l (SumL.cons z0x (SumL.cons z0w (SumL.cons z0z (SumL.cons z1r (SumL.cons z1d (SumL.cons z1w (SumL.cons z1n (SumL.cons z04 (SumL.cons z02 (SumL.cons z1t (SumL.cons z1v (SumL.cons z1q (SumL.cons z28 (SumL.nil)))))))))))))))))))))))))))
theorem lt19_ok : LpL Try.prog fnTab lt19 := LpL.cons z0b (LpL.cons z0g (LpL.cons z0h (LpL.cons z0y (LpL.cons z00 (LpL.cons z14 (LpL.cons z1p (LpL.cons z07 (LpL.cons z0a (LpL.cons z0f (LpL.nil))))))))))
noncomputable def z0k : Nat → St → Option (Bool × LO)
  | 10, (St.mk [(0, (AV.v (TV.one (At.sl 8 0 an 1)))), (1, (AV.v (TV.one (At.int IntKind.i64 k)))), (5, (AV.v (TV.one (At.int IntKind.i64 i))))] [(Blk.mk Bool.false (Body.fl FloatKind.f32 b0)), (Blk.mk Bool.false (Body.fl FloatKind.f32 b1)), (Blk.mk Bool.true (Body.cells [(At.vw 0 0 q09 1), (At.vw 1 0 q08 1)])), (Blk.mk Bool.true (Body.cells [(At.sl 4 0 q0h 1), (At.sl 5 0 q0g 1)])), (Blk.mk Bool.true (Body.fl FloatKind.f32 b4)), (Blk.mk Bool.true (Body.fl FloatKind.f32 b5)), (Blk.mk Bool.true (Body.cells [(At.sl 7 0 q0d 1), (At.sl 8 0 q0e 1)])), (Blk.mk Bool.true (Body.fl FloatKind.f32 b7)), (Blk.mk Bool.true (Body.fl FloatKind.f32 b8)), (Blk.mk Bool.true (Body.cells [(At.sl 7 0 q0j 1), (At.sl 8 0 q0i 1)]))]) => some ((z38 an k i b8), (LO.one (Ex.exit 0) (St.mk [(0, (AV.v (TV.one (At.sl 8 0 an 1)))), (1, (AV.v (TV.one (At.int IntKind.i64 (z35 an k i b8))))), (5, (AV.v (TV.one (At.int IntKind.i64 (z3u an k i b8))))), (9, (AV.v (TV.one (At.bool (z3q an k i b8)))))] [(Blk.mk Bool.false (Body.fl FloatKind.f32 b0)), (Blk.mk Bool.false (Body.fl FloatKind.f32 b1)), (Blk.mk Bool.true (Body.cells [(At.vw 0 0 q09 1), (At.vw 1 0 q08 1)])), (Blk.mk Bool.true (Body.cells [(At.sl 4 0 q0h 1), (At.sl 5 0 q0g 1)])), (Blk.mk Bool.true (Body.fl FloatKind.f32 b4)), (Blk.mk Bool.true (Body.fl FloatKind.f32 b5)), (Blk.mk Bool.true (Body.cells [(At.sl 7 0 q0d 1), (At.sl 8 0 q0e 1)])), (Blk.mk Bool.true (Body.fl FloatKind.f32 b7)), (Blk.mk Bool.true (Body.fl FloatKind.f32 (z30 an k i b8))), (Blk.mk Bool.true (Body.cells [(At.sl 7 0 q0j 1), (At.sl 8 0 q0i 1)]))])))
  | _, _ => none
def z3e (an : Nat) (b0 : List Nat) (b1 : List Nat) (q09 : Nat) (q08 : Nat) (q0h : Nat) (q0g : Nat) (b4 : List Nat) (b5 : List Nat) (q0d : Nat) (q0e : Nat) (b7 : List Nat) (q0j : Nat) (q0i : Nat) : Option ((Int × Int × Bool × (List Nat))) → Option (Ex × St)
  | none => none
  | some r => some ((Ex.exit 0), (St.mk [(0, (AV.v (TV.one (At.sl 8 0 an 1)))), (1, (AV.v (TV.one (At.int IntKind.i64 r.1)))), (5, (AV.v (TV.one (At.int IntKind.i64 r.2.1)))), (9, (AV.v (TV.one (At.bool r.2.2.1))))] [(Blk.mk Bool.false (Body.fl FloatKind.f32 b0)), (Blk.mk Bool.false (Body.fl FloatKind.f32 b1)), (Blk.mk Bool.true (Body.cells [(At.vw 0 0 q09 1), (At.vw 1 0 q08 1)])), (Blk.mk Bool.true (Body.cells [(At.sl 4 0 q0h 1), (At.sl 5 0 q0g 1)])), (Blk.mk Bool.true (Body.fl FloatKind.f32 b4)), (Blk.mk Bool.true (Body.fl FloatKind.f32 b5)), (Blk.mk Bool.true (Body.cells [(At.sl 7 0 q0d 1), (At.sl 8 0 q0e 1)])), (Blk.mk Bool.true (Body.fl FloatKind.f32 b7)), (Blk.mk Bool.true (Body.fl FloatKind.f32 r.2.2.2)), (Blk.mk Bool.true (Body.cells [(At.sl 7 0 q0j 1), (At.sl 8 0 q0i 1)]))]))
def z81 (an : Nat) (b0 : List Nat) (b1 : List Nat) (q09 : Nat) (q08 : Nat) (q0h : Nat) (q0g : Nat) (b4 : List Nat) (b5 : List Nat) (q0d : Nat) (q0e : Nat) (b7 : List Nat) (q0j : Nat) (q0i : Nat) (x : Option ((Int × Int × Bool × (List Nat)))) : LO := (LO.one (Ex.exit 0) (St.mk [(0, (AV.v (TV.one (At.sl 8 0 an 1)))), (1, (AV.v (TV.one (At.int IntKind.i64 (x.getD default).1)))), (5, (AV.v (TV.one (At.int IntKind.i64 (x.getD default).2.1)))), (9, (AV.v (TV.one (At.bool (x.getD default).2.2.1))))] [(Blk.mk Bool.false (Body.fl FloatKind.f32 b0)), (Blk.mk Bool.false (Body.fl FloatKind.f32 b1)), (Blk.mk Bool.true (Body.cells [(At.vw 0 0 q09 1), (At.vw 1 0 q08 1)])), (Blk.mk Bool.true (Body.cells [(At.sl 4 0 q0h 1), (At.sl 5 0 q0g 1)])), (Blk.mk Bool.true (Body.fl FloatKind.f32 b4)), (Blk.mk Bool.true (Body.fl FloatKind.f32 b5)), (Blk.mk Bool.true (Body.cells [(At.sl 7 0 q0d 1), (At.sl 8 0 q0e 1)])), (Blk.mk Bool.true (Body.fl FloatKind.f32 b7)), (Blk.mk Bool.true (Body.fl FloatKind.f32 (x.getD default).2.2.2)), (Blk.mk Bool.true (Body.cells [(At.sl 7 0 q0j 1), (At.sl 8 0 q0i 1)]))]))
theorem z8d (an : Nat) (b0 : List Nat) (b1 : List Nat) (q09 : Nat) (q08 : Nat) (q0h : Nat) (q0g : Nat) (b4 : List Nat) (b5 : List Nat) (q0d : Nat) (q0e : Nat) (b7 : List Nat) (q0j : Nat) (q0i : Nat) : ∀ x : Option ((Int × Int × Bool × (List Nat))), x.isSome = true → (z3e an b0 b1 q09 q08 q0h q0g b4 b5 q0d q0e b7 q0j q0i) x = some (pick (z81 an b0 b1 q09 q08 q0h q0g b4 b5 q0d q0e b7 q0j q0i x))
  | none, h => by cases h
  | some r, _ => rfl
theorem z8f (an : Nat) (k : Int) (i : Int) (b0 : List Nat) (b1 : List Nat) (q09 : Nat) (q08 : Nat) (q0h : Nat) (q0g : Nat) (b4 : List Nat) (b5 : List Nat) (q0d : Nat) (q0e : Nat) (b7 : List Nat) (b8 : List Nat) (q0j : Nat) (q0i : Nat) (K : Ex → St → Option (Ex × St)) : evC (R := Ex × St) Γ19 (evFn Γ19 8 8) 19 10 fi19.nt fi19.live fi19.nl 8 (findL 2 (loopsIn fi19.code)) (St.mk [(0, (AV.v (TV.one (At.sl 8 0 an 1)))), (1, (AV.v (TV.one (At.int IntKind.i64 k)))), (5, (AV.v (TV.one (At.int IntKind.i64 i))))] [(Blk.mk Bool.false (Body.fl FloatKind.f32 b0)), (Blk.mk Bool.false (Body.fl FloatKind.f32 b1)), (Blk.mk Bool.true (Body.cells [(At.vw 0 0 q09 1), (At.vw 1 0 q08 1)])), (Blk.mk Bool.true (Body.cells [(At.sl 4 0 q0h 1), (At.sl 5 0 q0g 1)])), (Blk.mk Bool.true (Body.fl FloatKind.f32 b4)), (Blk.mk Bool.true (Body.fl FloatKind.f32 b5)), (Blk.mk Bool.true (Body.cells [(At.sl 7 0 q0d 1), (At.sl 8 0 q0e 1)])), (Blk.mk Bool.true (Body.fl FloatKind.f32 b7)), (Blk.mk Bool.true (Body.fl FloatKind.f32 b8)), (Blk.mk Bool.true (Body.cells [(At.sl 7 0 q0j 1), (At.sl 8 0 q0i 1)]))]) K = z2l an k i b8 (fun k' i' b8' => K .normal (St.mk [(0, (AV.v (TV.one (At.sl 8 0 an 1)))), (1, (AV.v (TV.one (At.int IntKind.i64 k')))), (5, (AV.v (TV.one (At.int IntKind.i64 i'))))] [(Blk.mk Bool.false (Body.fl FloatKind.f32 b0)), (Blk.mk Bool.false (Body.fl FloatKind.f32 b1)), (Blk.mk Bool.true (Body.cells [(At.vw 0 0 q09 1), (At.vw 1 0 q08 1)])), (Blk.mk Bool.true (Body.cells [(At.sl 4 0 q0h 1), (At.sl 5 0 q0g 1)])), (Blk.mk Bool.true (Body.fl FloatKind.f32 b4)), (Blk.mk Bool.true (Body.fl FloatKind.f32 b5)), (Blk.mk Bool.true (Body.cells [(At.sl 7 0 q0d 1), (At.sl 8 0 q0e 1)])), (Blk.mk Bool.true (Body.fl FloatKind.f32 b7)), (Blk.mk Bool.true (Body.fl FloatKind.f32 b8')), (Blk.mk Bool.true (Body.cells [(At.sl 7 0 q0j 1), (At.sl 8 0 q0i 1)]))])) (fun c0_ c1_ c2_ c3_ => K (Ex.exit 0) (St.mk [(0, (AV.v (TV.one (At.sl 8 0 an 1)))), (1, (AV.v (TV.one (At.int IntKind.i64 c0_)))), (5, (AV.v (TV.one (At.int IntKind.i64 c1_)))), (9, (AV.v (TV.one (At.bool c2_))))] [(Blk.mk Bool.false (Body.fl FloatKind.f32 b0)), (Blk.mk Bool.false (Body.fl FloatKind.f32 b1)), (Blk.mk Bool.true (Body.cells [(At.vw 0 0 q09 1), (At.vw 1 0 q08 1)])), (Blk.mk Bool.true (Body.cells [(At.sl 4 0 q0h 1), (At.sl 5 0 q0g 1)])), (Blk.mk Bool.true (Body.fl FloatKind.f32 b4)), (Blk.mk Bool.true (Body.fl FloatKind.f32 b5)), (Blk.mk Bool.true (Body.cells [(At.sl 7 0 q0d 1), (At.sl 8 0 q0e 1)])), (Blk.mk Bool.true (Body.fl FloatKind.f32 b7)), (Blk.mk Bool.true (Body.fl FloatKind.f32 c3_)), (Blk.mk Bool.true (Body.cells [(At.sl 7 0 q0j 1), (At.sl 8 0 q0i 1)]))])) := by kernel_rfl
theorem z8j (an : Nat) (b0 : List Nat) (b1 : List Nat) (q09 : Nat) (q08 : Nat) (q0h : Nat) (q0g : Nat) (b4 : List Nat) (b5 : List Nat) (q0d : Nat) (q0e : Nat) (b7 : List Nat) (q0j : Nat) (q0i : Nat) : ∀ (n : Nat) (k : Int) (i : Int) (b8 : List Nat), iter 19 2 10 (evC (R := Ex × St) Γ19 (evFn Γ19 8 8) 19 10 fi19.nt fi19.live fi19.nl 8 (findL 2 (loopsIn fi19.code))) n (St.mk [(0, (AV.v (TV.one (At.sl 8 0 an 1)))), (1, (AV.v (TV.one (At.int IntKind.i64 k)))), (5, (AV.v (TV.one (At.int IntKind.i64 i))))] [(Blk.mk Bool.false (Body.fl FloatKind.f32 b0)), (Blk.mk Bool.false (Body.fl FloatKind.f32 b1)), (Blk.mk Bool.true (Body.cells [(At.vw 0 0 q09 1), (At.vw 1 0 q08 1)])), (Blk.mk Bool.true (Body.cells [(At.sl 4 0 q0h 1), (At.sl 5 0 q0g 1)])), (Blk.mk Bool.true (Body.fl FloatKind.f32 b4)), (Blk.mk Bool.true (Body.fl FloatKind.f32 b5)), (Blk.mk Bool.true (Body.cells [(At.sl 7 0 q0d 1), (At.sl 8 0 q0e 1)])), (Blk.mk Bool.true (Body.fl FloatKind.f32 b7)), (Blk.mk Bool.true (Body.fl FloatKind.f32 b8)), (Blk.mk Bool.true (Body.cells [(At.sl 7 0 q0j 1), (At.sl 8 0 q0i 1)]))]) (fun e st => some (e, st)) = (z3e an b0 b1 q09 q08 q0h q0g b4 b5 q0d q0e b7 q0j q0i) (z1e an n k i b8) := by
  intro n
  induction n with
  | zero => intros; rfl
  | succ n ih =>
    intro k i b8
    refine Eq.trans (iter_succ ..) (Eq.trans (z8f an k i b0 b1 q09 q08 q0h q0g b4 b5 q0d q0e b7 b8 q0j q0i (nextK 19 2 10 (evC (R := Ex × St) Γ19 (evFn Γ19 8 8) 19 10 fi19.nt fi19.live fi19.nl 8 (findL 2 (loopsIn fi19.code))) n (fun e st => some (e, st)))) (Eq.trans ?_ (z7c (z3e an b0 b1 q09 q08 q0h q0g b4 b5 q0d q0e b7 q0j q0i) rfl an k i b8 (fun k' i' b8' => z1e an n k' i' b8') (fun c0_ c1_ c2_ c3_ => some (c0_, c1_, c2_, c3_)))))
    exact congrArg (fun kn_ => z2l an k i b8 kn_ (fun c0_ c1_ c2_ c3_ => (z3e an b0 b1 q09 q08 q0h q0g b4 b5 q0d q0e b7 q0j q0i) (some (c0_, c1_, c2_, c3_)))) (funext fun k' => funext fun i' => funext fun b8' => ih k' i' b8')
theorem z0n : LoopOne Try.prog fnTab 19 2 z0k := lp_of (Γ := Γ19) tyTab_ok (FnL.ok fnTab_ok _ _) (LpL.ok lt19_ok) (SumL.ok tb19_ok _) mixed (fi := fi19) (by kernel_rfl) (by kernel_rfl) (by
  intro lo st out hp
  unfold z0k at hp
  split at hp
  · rename_i an k i b0 b1 q09 q08 q0h q0g b4 b5 q0d q0e b7 b8 q0j q0i
    injection hp with hp
    injection hp with h1 h2
    subst h2
    exact ⟨8, 8, big, Eq.trans (z8j an b0 b1 q09 q08 q0h q0g b4 b5 q0d q0e b7 q0j q0i big k i b8) (z8d an b0 b1 q09 q08 q0h q0g b4 b5 q0d q0e b7 q0j q0i (z1e an big k i b8) h1)⟩
  · cases hp)
noncomputable def tb20 : List (Nat × (List PT → Option (Bool × AV × List Blk))) := [(129, z0r), (133, z0c), (137, z0s), (139, z15), (25, z18), (59, z26), (64, z19), (66, z20), (70, z11), (78, z1j), (21, z21), (58, z1m), (67, z1u), (20, z0u), (74, z16), (126, z17), (18, z1c), (23, z27), (34, z1s), (26, z29), (71, z23), (125, z05), (110, z03), (31, z24), (112, z25), (75, z22), (32, z2f)]
noncomputable def lt20 : List ((Nat × Nat) × (Nat → St → Option (Bool × LO))) := [((20, 2), z0e), ((74, 3), z0m), ((18, 4), z0p), ((71, 5), z1b), ((125, 2), z01), ((31, 6), z1i), ((32, 5), z1x), ((19, 2), z06), ((19, 2), z08), ((19, 2), z0d), ((19, 2), z0k)]
noncomputable def Γ20 : Ctx := ⟨tyTab, fnTab, tblSum tb20, tblLp lt20⟩
theorem tb20_ok : SumL Try.prog tb20 := SumL.cons z0j (SumL.cons z09 (SumL.cons z0i (SumL.cons z0q (SumL.cons z0t (SumL.cons z1o (SumL.cons z0v (SumL.cons z1h (SumL.cons z0o (SumL.cons z10 (SumL.cons z1l (SumL.cons z13 (SumL.cons z1a (SumL.cons z0l (SumL.cons z0x (SumL.cons z0w (SumL.cons z0z (SumL.cons z1r (SumL.cons z1d (SumL.cons z1w (SumL.cons z1n (SumL.cons z04 (SumL.cons z02 (SumL.cons z1t (SumL.cons z1v (SumL.cons z1q (SumL.cons z28 (SumL.nil)))))))))))))))))))))))))))
theorem lt20_ok : LpL Try.prog fnTab lt20 := LpL.cons z0b (LpL.cons z0g (LpL.cons z0h (LpL.cons z0y (LpL.cons z00 (LpL.cons z14 (LpL.cons z1p (LpL.cons z07 (LpL.cons z0a (LpL.cons z0f (LpL.cons z0n (LpL.nil)))))))))))
noncomputable def z2e : List PT → Option (Bool × AV × List Blk)
  | [.agg [.row 1 q00 (.fl .f32 q02), .row 1 q01 (.fl .f32 q03)], .one (.s (.int .i64 x1))] => some ((z7j q00 q02 q01 q03 x1), ((AV.v (TV.one (At.bool (z6v q00 q02 q01 q03 x1)))), []))
  | _ => none
def z9t (q00 : Nat) (q02 : List Nat) (q01 : Nat) (q03 : List Nat) (x1 : Int) : Option (Bool) → Option (AV × List Blk)
  | some r => some ((AV.v (TV.one (At.bool r))), [])
  | none => none
theorem zar (q00 : Nat) (q02 : List Nat) (q01 : Nat) (q03 : List Nat) (x1 : Int) : evFn Γ20 8 8 7 (impTs 0 [.agg [.row 1 q00 (.fl .f32 q02), .row 1 q01 (.fl .f32 q03)], .one (.s (.int .i64 x1))]).1 (impTs 0 [.agg [.row 1 q00 (.fl .f32 q02), .row 1 q01 (.fl .f32 q03)], .one (.s (.int .i64 x1))]).2 (expo (impTs 0 [.agg [.row 1 q00 (.fl .f32 q02), .row 1 q01 (.fl .f32 q03)], .one (.s (.int .i64 x1))]).2.length) = z46 q00 q02 q01 q03 x1 (fun c0_ => some ((AV.v (TV.one (At.bool c0_))), [])) := by kernel_rfl
theorem z2d : SumOne Try.prog 7 z2e := sum_of (Γ := Γ20) (fuel := 8) (d := 8) tyTab_ok (FnL.ok fnTab_ok _ _) (LpL.ok lt20_ok) (SumL.ok tb20_ok _) mixed (by
  intro pts v news hp hc
  clear hc
  unfold z2e at hp
  split at hp
  · rename_i q00 q02 q01 q03 x1
    exact Eq.trans (Eq.trans (zar q00 q02 q01 q03 x1) (za2 (z9t q00 q02 q01 q03 x1) rfl q00 q02 q01 q03 x1 (fun c0_ => some c0_))) (fin_out (o := (z9t q00 q02 q01 q03 x1)) (x := z45 q00 q02 q01 q03 x1) (d := default) (V := fun r => ((AV.v (TV.one (At.bool r))), [])) (fun r => rfl) hp)
  · cases hp)
noncomputable def tb21 : List (Nat × (List PT → Option (Bool × AV × List Blk))) := [(129, z0r), (133, z0c), (137, z0s), (139, z15), (25, z18), (59, z26), (64, z19), (66, z20), (70, z11), (78, z1j), (21, z21), (58, z1m), (67, z1u), (20, z0u), (74, z16), (126, z17), (18, z1c), (23, z27), (34, z1s), (26, z29), (71, z23), (125, z05), (110, z03), (31, z24), (112, z25), (75, z22), (32, z2f), (7, z2e)]
noncomputable def lt21 : List ((Nat × Nat) × (Nat → St → Option (Bool × LO))) := [((20, 2), z0e), ((74, 3), z0m), ((18, 4), z0p), ((71, 5), z1b), ((125, 2), z01), ((31, 6), z1i), ((32, 5), z1x), ((19, 2), z06), ((19, 2), z08), ((19, 2), z0d), ((19, 2), z0k)]
noncomputable def Γ21 : Ctx := ⟨tyTab, fnTab, tblSum tb21, tblLp lt21⟩
theorem tb21_ok : SumL Try.prog tb21 := SumL.cons z0j (SumL.cons z09 (SumL.cons z0i (SumL.cons z0q (SumL.cons z0t (SumL.cons z1o (SumL.cons z0v (SumL.cons z1h (SumL.cons z0o (SumL.cons z10 (SumL.cons z1l (SumL.cons z13 (SumL.cons z1a (SumL.cons z0l (SumL.cons z0x (SumL.cons z0w (SumL.cons z0z (SumL.cons z1r (SumL.cons z1d (SumL.cons z1w (SumL.cons z1n (SumL.cons z04 (SumL.cons z02 (SumL.cons z1t (SumL.cons z1v (SumL.cons z1q (SumL.cons z28 (SumL.cons z2d (SumL.nil))))))))))))))))))))))))))))
theorem lt21_ok : LpL Try.prog fnTab lt21 := LpL.cons z0b (LpL.cons z0g (LpL.cons z0h (LpL.cons z0y (LpL.cons z00 (LpL.cons z14 (LpL.cons z1p (LpL.cons z07 (LpL.cons z0a (LpL.cons z0f (LpL.cons z0n (LpL.nil)))))))))))
noncomputable def tb22 : List (Nat × (List PT → Option (Bool × AV × List Blk))) := [(129, z0r), (133, z0c), (137, z0s), (139, z15), (25, z18), (59, z26), (64, z19), (66, z20), (70, z11), (78, z1j), (21, z21), (58, z1m), (67, z1u), (20, z0u), (74, z16), (126, z17), (18, z1c), (23, z27), (34, z1s), (26, z29), (71, z23), (125, z05), (110, z03), (31, z24), (112, z25), (75, z22), (32, z2f), (7, z2e)]
noncomputable def lt22 : List ((Nat × Nat) × (Nat → St → Option (Bool × LO))) := [((20, 2), z0e), ((74, 3), z0m), ((18, 4), z0p), ((71, 5), z1b), ((125, 2), z01), ((31, 6), z1i), ((32, 5), z1x), ((19, 2), z06), ((19, 2), z08), ((19, 2), z0d), ((19, 2), z0k)]
noncomputable def Γ22 : Ctx := ⟨tyTab, fnTab, tblSum tb22, tblLp lt22⟩
theorem tb22_ok : SumL Try.prog tb22 := SumL.cons z0j (SumL.cons z09 (SumL.cons z0i (SumL.cons z0q (SumL.cons z0t (SumL.cons z1o (SumL.cons z0v (SumL.cons z1h (SumL.cons z0o (SumL.cons z10 (SumL.cons z1l (SumL.cons z13 (SumL.cons z1a (SumL.cons z0l (SumL.cons z0x (SumL.cons z0w (SumL.cons z0z (SumL.cons z1r (SumL.cons z1d (SumL.cons z1w (SumL.cons z1n (SumL.cons z04 (SumL.cons z02 (SumL.cons z1t (SumL.cons z1v (SumL.cons z1q (SumL.cons z28 (SumL.cons z2d (SumL.nil))))))))))))))))))))))))))))
theorem lt22_ok : LpL Try.prog fnTab lt22 := LpL.cons z0b (LpL.cons z0g (LpL.cons z0h (LpL.cons z0y (LpL.cons z00 (LpL.cons z14 (LpL.cons z1p (LpL.cons z07 (LpL.cons z0a (LpL.cons z0f (LpL.cons z0n (LpL.nil)))))))))))
noncomputable def tb23 : List (Nat × (List PT → Option (Bool × AV × List Blk))) := [(129, z0r), (133, z0c), (137, z0s), (139, z15), (25, z18), (59, z26), (64, z19), (66, z20), (70, z11), (78, z1j), (21, z21), (58, z1m), (67, z1u), (20, z0u), (74, z16), (126, z17), (18, z1c), (23, z27), (34, z1s), (26, z29), (71, z23), (125, z05), (110, z03), (31, z24), (112, z25), (75, z22), (32, z2f), (7, z2e)]
noncomputable def lt23 : List ((Nat × Nat) × (Nat → St → Option (Bool × LO))) := [((20, 2), z0e), ((74, 3), z0m), ((18, 4), z0p), ((71, 5), z1b), ((125, 2), z01), ((31, 6), z1i), ((32, 5), z1x), ((19, 2), z06), ((19, 2), z08), ((19, 2), z0d), ((19, 2), z0k)]
noncomputable def Γ23 : Ctx := ⟨tyTab, fnTab, tblSum tb23, tblLp lt23⟩
theorem tb23_ok : SumL Try.prog tb23 := SumL.cons z0j (SumL.cons z09 (SumL.cons z0i (SumL.cons z0q (SumL.cons z0t (SumL.cons z1o (SumL.cons z0v (SumL.cons z1h (SumL.cons z0o (SumL.cons z10 (SumL.cons z1l (SumL.cons z13 (SumL.cons z1a (SumL.cons z0l (SumL.cons z0x (SumL.cons z0w (SumL.cons z0z (SumL.cons z1r (SumL.cons z1d (SumL.cons z1w (SumL.cons z1n (SumL.cons z04 (SumL.cons z02 (SumL.cons z1t (SumL.cons z1v (SumL.cons z1q (SumL.cons z28 (SumL.cons z2d (SumL.nil))))))))))))))))))))))))))))
theorem lt23_ok : LpL Try.prog fnTab lt23 := LpL.cons z0b (LpL.cons z0g (LpL.cons z0h (LpL.cons z0y (LpL.cons z00 (LpL.cons z14 (LpL.cons z1p (LpL.cons z07 (LpL.cons z0a (LpL.cons z0f (LpL.cons z0n (LpL.nil)))))))))))
noncomputable def tb24 : List (Nat × (List PT → Option (Bool × AV × List Blk))) := [(129, z0r), (133, z0c), (137, z0s), (139, z15), (25, z18), (59, z26), (64, z19), (66, z20), (70, z11), (78, z1j), (21, z21), (58, z1m), (67, z1u), (20, z0u), (74, z16), (126, z17), (18, z1c), (23, z27), (34, z1s), (26, z29), (71, z23), (125, z05), (110, z03), (31, z24), (112, z25), (75, z22), (32, z2f), (7, z2e)]
noncomputable def lt24 : List ((Nat × Nat) × (Nat → St → Option (Bool × LO))) := [((20, 2), z0e), ((74, 3), z0m), ((18, 4), z0p), ((71, 5), z1b), ((125, 2), z01), ((31, 6), z1i), ((32, 5), z1x), ((19, 2), z06), ((19, 2), z08), ((19, 2), z0d), ((19, 2), z0k)]
noncomputable def Γ24 : Ctx := ⟨tyTab, fnTab, tblSum tb24, tblLp lt24⟩
theorem tb24_ok : SumL Try.prog tb24 := SumL.cons z0j (SumL.cons z09 (SumL.cons z0i (SumL.cons z0q (SumL.cons z0t (SumL.cons z1o (SumL.cons z0v (SumL.cons z1h (SumL.cons z0o (SumL.cons z10 (SumL.cons z1l (SumL.cons z13 (SumL.cons z1a (SumL.cons z0l (SumL.cons z0x (SumL.cons z0w (SumL.cons z0z (SumL.cons z1r (SumL.cons z1d (SumL.cons z1w (SumL.cons z1n (SumL.cons z04 (SumL.cons z02 (SumL.cons z1t (SumL.cons z1v (SumL.cons z1q (SumL.cons z28 (SumL.cons z2d (SumL.nil))))))))))))))))))))))))))))
theorem lt24_ok : LpL Try.prog fnTab lt24 := LpL.cons z0b (LpL.cons z0g (LpL.cons z0h (LpL.cons z0y (LpL.cons z00 (LpL.cons z14 (LpL.cons z1p (LpL.cons z07 (LpL.cons z0a (LpL.cons z0f (LpL.cons z0n (LpL.nil)))))))))))
noncomputable def tb25 : List (Nat × (List PT → Option (Bool × AV × List Blk))) := [(129, z0r), (133, z0c), (137, z0s), (139, z15), (25, z18), (59, z26), (64, z19), (66, z20), (70, z11), (78, z1j), (21, z21), (58, z1m), (67, z1u), (20, z0u), (74, z16), (126, z17), (18, z1c), (23, z27), (34, z1s), (26, z29), (71, z23), (125, z05), (110, z03), (31, z24), (112, z25), (75, z22), (32, z2f), (7, z2e)]
noncomputable def lt25 : List ((Nat × Nat) × (Nat → St → Option (Bool × LO))) := [((20, 2), z0e), ((74, 3), z0m), ((18, 4), z0p), ((71, 5), z1b), ((125, 2), z01), ((31, 6), z1i), ((32, 5), z1x), ((19, 2), z06), ((19, 2), z08), ((19, 2), z0d), ((19, 2), z0k)]
noncomputable def Γ25 : Ctx := ⟨tyTab, fnTab, tblSum tb25, tblLp lt25⟩
theorem tb25_ok : SumL Try.prog tb25 := SumL.cons z0j (SumL.cons z09 (SumL.cons z0i (SumL.cons z0q (SumL.cons z0t (SumL.cons z1o (SumL.cons z0v (SumL.cons z1h (SumL.cons z0o (SumL.cons z10 (SumL.cons z1l (SumL.cons z13 (SumL.cons z1a (SumL.cons z0l (SumL.cons z0x (SumL.cons z0w (SumL.cons z0z (SumL.cons z1r (SumL.cons z1d (SumL.cons z1w (SumL.cons z1n (SumL.cons z04 (SumL.cons z02 (SumL.cons z1t (SumL.cons z1v (SumL.cons z1q (SumL.cons z28 (SumL.cons z2d (SumL.nil))))))))))))))))))))))))))))
theorem lt25_ok : LpL Try.prog fnTab lt25 := LpL.cons z0b (LpL.cons z0g (LpL.cons z0h (LpL.cons z0y (LpL.cons z00 (LpL.cons z14 (LpL.cons z1p (LpL.cons z07 (LpL.cons z0a (LpL.cons z0f (LpL.cons z0n (LpL.nil)))))))))))
noncomputable def tb26 : List (Nat × (List PT → Option (Bool × AV × List Blk))) := [(129, z0r), (133, z0c), (137, z0s), (139, z15), (25, z18), (59, z26), (64, z19), (66, z20), (70, z11), (78, z1j), (21, z21), (58, z1m), (67, z1u), (20, z0u), (74, z16), (126, z17), (18, z1c), (23, z27), (34, z1s), (26, z29), (71, z23), (125, z05), (110, z03), (31, z24), (112, z25), (75, z22), (32, z2f), (7, z2e)]
noncomputable def lt26 : List ((Nat × Nat) × (Nat → St → Option (Bool × LO))) := [((20, 2), z0e), ((74, 3), z0m), ((18, 4), z0p), ((71, 5), z1b), ((125, 2), z01), ((31, 6), z1i), ((32, 5), z1x), ((19, 2), z06), ((19, 2), z08), ((19, 2), z0d), ((19, 2), z0k)]
noncomputable def Γ26 : Ctx := ⟨tyTab, fnTab, tblSum tb26, tblLp lt26⟩
theorem tb26_ok : SumL Try.prog tb26 := SumL.cons z0j (SumL.cons z09 (SumL.cons z0i (SumL.cons z0q (SumL.cons z0t (SumL.cons z1o (SumL.cons z0v (SumL.cons z1h (SumL.cons z0o (SumL.cons z10 (SumL.cons z1l (SumL.cons z13 (SumL.cons z1a (SumL.cons z0l (SumL.cons z0x (SumL.cons z0w (SumL.cons z0z (SumL.cons z1r (SumL.cons z1d (SumL.cons z1w (SumL.cons z1n (SumL.cons z04 (SumL.cons z02 (SumL.cons z1t (SumL.cons z1v (SumL.cons z1q (SumL.cons z28 (SumL.cons z2d (SumL.nil))))))))))))))))))))))))))))
theorem lt26_ok : LpL Try.prog fnTab lt26 := LpL.cons z0b (LpL.cons z0g (LpL.cons z0h (LpL.cons z0y (LpL.cons z00 (LpL.cons z14 (LpL.cons z1p (LpL.cons z07 (LpL.cons z0a (LpL.cons z0f (LpL.cons z0n (LpL.nil)))))))))))
noncomputable def tb27 : List (Nat × (List PT → Option (Bool × AV × List Blk))) := [(129, z0r), (133, z0c), (137, z0s), (139, z15), (25, z18), (59, z26), (64, z19), (66, z20), (70, z11), (78, z1j), (21, z21), (58, z1m), (67, z1u), (20, z0u), (74, z16), (126, z17), (18, z1c), (23, z27), (34, z1s), (26, z29), (71, z23), (125, z05), (110, z03), (31, z24), (112, z25), (75, z22), (32, z2f), (7, z2e)]
noncomputable def lt27 : List ((Nat × Nat) × (Nat → St → Option (Bool × LO))) := [((20, 2), z0e), ((74, 3), z0m), ((18, 4), z0p), ((71, 5), z1b), ((125, 2), z01), ((31, 6), z1i), ((32, 5), z1x), ((19, 2), z06), ((19, 2), z08), ((19, 2), z0d), ((19, 2), z0k)]
noncomputable def Γ27 : Ctx := ⟨tyTab, fnTab, tblSum tb27, tblLp lt27⟩
theorem tb27_ok : SumL Try.prog tb27 := SumL.cons z0j (SumL.cons z09 (SumL.cons z0i (SumL.cons z0q (SumL.cons z0t (SumL.cons z1o (SumL.cons z0v (SumL.cons z1h (SumL.cons z0o (SumL.cons z10 (SumL.cons z1l (SumL.cons z13 (SumL.cons z1a (SumL.cons z0l (SumL.cons z0x (SumL.cons z0w (SumL.cons z0z (SumL.cons z1r (SumL.cons z1d (SumL.cons z1w (SumL.cons z1n (SumL.cons z04 (SumL.cons z02 (SumL.cons z1t (SumL.cons z1v (SumL.cons z1q (SumL.cons z28 (SumL.cons z2d (SumL.nil))))))))))))))))))))))))))))
theorem lt27_ok : LpL Try.prog fnTab lt27 := LpL.cons z0b (LpL.cons z0g (LpL.cons z0h (LpL.cons z0y (LpL.cons z00 (LpL.cons z14 (LpL.cons z1p (LpL.cons z07 (LpL.cons z0a (LpL.cons z0f (LpL.cons z0n (LpL.nil)))))))))))
noncomputable def tb28 : List (Nat × (List PT → Option (Bool × AV × List Blk))) := [(129, z0r), (133, z0c), (137, z0s), (139, z15), (25, z18), (59, z26), (64, z19), (66, z20), (70, z11), (78, z1j), (21, z21), (58, z1m), (67, z1u), (20, z0u), (74, z16), (126, z17), (18, z1c), (23, z27), (34, z1s), (26, z29), (71, z23), (125, z05), (110, z03), (31, z24), (112, z25), (75, z22), (32, z2f), (7, z2e)]
noncomputable def lt28 : List ((Nat × Nat) × (Nat → St → Option (Bool × LO))) := [((20, 2), z0e), ((74, 3), z0m), ((18, 4), z0p), ((71, 5), z1b), ((125, 2), z01), ((31, 6), z1i), ((32, 5), z1x), ((19, 2), z06), ((19, 2), z08), ((19, 2), z0d), ((19, 2), z0k)]
noncomputable def Γ28 : Ctx := ⟨tyTab, fnTab, tblSum tb28, tblLp lt28⟩
theorem tb28_ok : SumL Try.prog tb28 := SumL.cons z0j (SumL.cons z09 (SumL.cons z0i (SumL.cons z0q (SumL.cons z0t (SumL.cons z1o (SumL.cons z0v (SumL.cons z1h (SumL.cons z0o (SumL.cons z10 (SumL.cons z1l (SumL.cons z13 (SumL.cons z1a (SumL.cons z0l (SumL.cons z0x (SumL.cons z0w (SumL.cons z0z (SumL.cons z1r (SumL.cons z1d (SumL.cons z1w (SumL.cons z1n (SumL.cons z04 (SumL.cons z02 (SumL.cons z1t (SumL.cons z1v (SumL.cons z1q (SumL.cons z28 (SumL.cons z2d (SumL.nil))))))))))))))))))))))))))))
theorem lt28_ok : LpL Try.prog fnTab lt28 := LpL.cons z0b (LpL.cons z0g (LpL.cons z0h (LpL.cons z0y (LpL.cons z00 (LpL.cons z14 (LpL.cons z1p (LpL.cons z07 (LpL.cons z0a (LpL.cons z0f (LpL.cons z0n (LpL.nil)))))))))))
noncomputable def tb29 : List (Nat × (List PT → Option (Bool × AV × List Blk))) := [(129, z0r), (133, z0c), (137, z0s), (139, z15), (25, z18), (59, z26), (64, z19), (66, z20), (70, z11), (78, z1j), (21, z21), (58, z1m), (67, z1u), (20, z0u), (74, z16), (126, z17), (18, z1c), (23, z27), (34, z1s), (26, z29), (71, z23), (125, z05), (110, z03), (31, z24), (112, z25), (75, z22), (32, z2f), (7, z2e)]
noncomputable def lt29 : List ((Nat × Nat) × (Nat → St → Option (Bool × LO))) := [((20, 2), z0e), ((74, 3), z0m), ((18, 4), z0p), ((71, 5), z1b), ((125, 2), z01), ((31, 6), z1i), ((32, 5), z1x), ((19, 2), z06), ((19, 2), z08), ((19, 2), z0d), ((19, 2), z0k)]
noncomputable def Γ29 : Ctx := ⟨tyTab, fnTab, tblSum tb29, tblLp lt29⟩
theorem tb29_ok : SumL Try.prog tb29 := SumL.cons z0j (SumL.cons z09 (SumL.cons z0i (SumL.cons z0q (SumL.cons z0t (SumL.cons z1o (SumL.cons z0v (SumL.cons z1h (SumL.cons z0o (SumL.cons z10 (SumL.cons z1l (SumL.cons z13 (SumL.cons z1a (SumL.cons z0l (SumL.cons z0x (SumL.cons z0w (SumL.cons z0z (SumL.cons z1r (SumL.cons z1d (SumL.cons z1w (SumL.cons z1n (SumL.cons z04 (SumL.cons z02 (SumL.cons z1t (SumL.cons z1v (SumL.cons z1q (SumL.cons z28 (SumL.cons z2d (SumL.nil))))))))))))))))))))))))))))
theorem lt29_ok : LpL Try.prog fnTab lt29 := LpL.cons z0b (LpL.cons z0g (LpL.cons z0h (LpL.cons z0y (LpL.cons z00 (LpL.cons z14 (LpL.cons z1p (LpL.cons z07 (LpL.cons z0a (LpL.cons z0f (LpL.cons z0n (LpL.nil)))))))))))
noncomputable def tb30 : List (Nat × (List PT → Option (Bool × AV × List Blk))) := [(129, z0r), (133, z0c), (137, z0s), (139, z15), (25, z18), (59, z26), (64, z19), (66, z20), (70, z11), (78, z1j), (21, z21), (58, z1m), (67, z1u), (20, z0u), (74, z16), (126, z17), (18, z1c), (23, z27), (34, z1s), (26, z29), (71, z23), (125, z05), (110, z03), (31, z24), (112, z25), (75, z22), (32, z2f), (7, z2e)]
noncomputable def lt30 : List ((Nat × Nat) × (Nat → St → Option (Bool × LO))) := [((20, 2), z0e), ((74, 3), z0m), ((18, 4), z0p), ((71, 5), z1b), ((125, 2), z01), ((31, 6), z1i), ((32, 5), z1x), ((19, 2), z06), ((19, 2), z08), ((19, 2), z0d), ((19, 2), z0k)]
noncomputable def Γ30 : Ctx := ⟨tyTab, fnTab, tblSum tb30, tblLp lt30⟩
theorem tb30_ok : SumL Try.prog tb30 := SumL.cons z0j (SumL.cons z09 (SumL.cons z0i (SumL.cons z0q (SumL.cons z0t (SumL.cons z1o (SumL.cons z0v (SumL.cons z1h (SumL.cons z0o (SumL.cons z10 (SumL.cons z1l (SumL.cons z13 (SumL.cons z1a (SumL.cons z0l (SumL.cons z0x (SumL.cons z0w (SumL.cons z0z (SumL.cons z1r (SumL.cons z1d (SumL.cons z1w (SumL.cons z1n (SumL.cons z04 (SumL.cons z02 (SumL.cons z1t (SumL.cons z1v (SumL.cons z1q (SumL.cons z28 (SumL.cons z2d (SumL.nil))))))))))))))))))))))))))))
theorem lt30_ok : LpL Try.prog fnTab lt30 := LpL.cons z0b (LpL.cons z0g (LpL.cons z0h (LpL.cons z0y (LpL.cons z00 (LpL.cons z14 (LpL.cons z1p (LpL.cons z07 (LpL.cons z0a (LpL.cons z0f (LpL.cons z0n (LpL.nil)))))))))))
noncomputable def tb31 : List (Nat × (List PT → Option (Bool × AV × List Blk))) := [(129, z0r), (133, z0c), (137, z0s), (139, z15), (25, z18), (59, z26), (64, z19), (66, z20), (70, z11), (78, z1j), (21, z21), (58, z1m), (67, z1u), (20, z0u), (74, z16), (126, z17), (18, z1c), (23, z27), (34, z1s), (26, z29), (71, z23), (125, z05), (110, z03), (31, z24), (112, z25), (75, z22), (32, z2f), (7, z2e)]
noncomputable def lt31 : List ((Nat × Nat) × (Nat → St → Option (Bool × LO))) := [((20, 2), z0e), ((74, 3), z0m), ((18, 4), z0p), ((71, 5), z1b), ((125, 2), z01), ((31, 6), z1i), ((32, 5), z1x), ((19, 2), z06), ((19, 2), z08), ((19, 2), z0d), ((19, 2), z0k)]
noncomputable def Γ31 : Ctx := ⟨tyTab, fnTab, tblSum tb31, tblLp lt31⟩
theorem tb31_ok : SumL Try.prog tb31 := SumL.cons z0j (SumL.cons z09 (SumL.cons z0i (SumL.cons z0q (SumL.cons z0t (SumL.cons z1o (SumL.cons z0v (SumL.cons z1h (SumL.cons z0o (SumL.cons z10 (SumL.cons z1l (SumL.cons z13 (SumL.cons z1a (SumL.cons z0l (SumL.cons z0x (SumL.cons z0w (SumL.cons z0z (SumL.cons z1r (SumL.cons z1d (SumL.cons z1w (SumL.cons z1n (SumL.cons z04 (SumL.cons z02 (SumL.cons z1t (SumL.cons z1v (SumL.cons z1q (SumL.cons z28 (SumL.cons z2d (SumL.nil))))))))))))))))))))))))))))
theorem lt31_ok : LpL Try.prog fnTab lt31 := LpL.cons z0b (LpL.cons z0g (LpL.cons z0h (LpL.cons z0y (LpL.cons z00 (LpL.cons z14 (LpL.cons z1p (LpL.cons z07 (LpL.cons z0a (LpL.cons z0f (LpL.cons z0n (LpL.nil)))))))))))
noncomputable def tb32 : List (Nat × (List PT → Option (Bool × AV × List Blk))) := [(129, z0r), (133, z0c), (137, z0s), (139, z15), (25, z18), (59, z26), (64, z19), (66, z20), (70, z11), (78, z1j), (21, z21), (58, z1m), (67, z1u), (20, z0u), (74, z16), (126, z17), (18, z1c), (23, z27), (34, z1s), (26, z29), (71, z23), (125, z05), (110, z03), (31, z24), (112, z25), (75, z22), (32, z2f), (7, z2e)]
noncomputable def lt32 : List ((Nat × Nat) × (Nat → St → Option (Bool × LO))) := [((20, 2), z0e), ((74, 3), z0m), ((18, 4), z0p), ((71, 5), z1b), ((125, 2), z01), ((31, 6), z1i), ((32, 5), z1x), ((19, 2), z06), ((19, 2), z08), ((19, 2), z0d), ((19, 2), z0k)]
noncomputable def Γ32 : Ctx := ⟨tyTab, fnTab, tblSum tb32, tblLp lt32⟩
theorem tb32_ok : SumL Try.prog tb32 := SumL.cons z0j (SumL.cons z09 (SumL.cons z0i (SumL.cons z0q (SumL.cons z0t (SumL.cons z1o (SumL.cons z0v (SumL.cons z1h (SumL.cons z0o (SumL.cons z10 (SumL.cons z1l (SumL.cons z13 (SumL.cons z1a (SumL.cons z0l (SumL.cons z0x (SumL.cons z0w (SumL.cons z0z (SumL.cons z1r (SumL.cons z1d (SumL.cons z1w (SumL.cons z1n (SumL.cons z04 (SumL.cons z02 (SumL.cons z1t (SumL.cons z1v (SumL.cons z1q (SumL.cons z28 (SumL.cons z2d (SumL.nil))))))))))))))))))))))))))))
theorem lt32_ok : LpL Try.prog fnTab lt32 := LpL.cons z0b (LpL.cons z0g (LpL.cons z0h (LpL.cons z0y (LpL.cons z00 (LpL.cons z14 (LpL.cons z1p (LpL.cons z07 (LpL.cons z0a (LpL.cons z0f (LpL.cons z0n (LpL.nil)))))))))))
noncomputable def tb33 : List (Nat × (List PT → Option (Bool × AV × List Blk))) := [(129, z0r), (133, z0c), (137, z0s), (139, z15), (25, z18), (59, z26), (64, z19), (66, z20), (70, z11), (78, z1j), (21, z21), (58, z1m), (67, z1u), (20, z0u), (74, z16), (126, z17), (18, z1c), (23, z27), (34, z1s), (26, z29), (71, z23), (125, z05), (110, z03), (31, z24), (112, z25), (75, z22), (32, z2f), (7, z2e)]
noncomputable def lt33 : List ((Nat × Nat) × (Nat → St → Option (Bool × LO))) := [((20, 2), z0e), ((74, 3), z0m), ((18, 4), z0p), ((71, 5), z1b), ((125, 2), z01), ((31, 6), z1i), ((32, 5), z1x), ((19, 2), z06), ((19, 2), z08), ((19, 2), z0d), ((19, 2), z0k)]
noncomputable def Γ33 : Ctx := ⟨tyTab, fnTab, tblSum tb33, tblLp lt33⟩
theorem tb33_ok : SumL Try.prog tb33 := SumL.cons z0j (SumL.cons z09 (SumL.cons z0i (SumL.cons z0q (SumL.cons z0t (SumL.cons z1o (SumL.cons z0v (SumL.cons z1h (SumL.cons z0o (SumL.cons z10 (SumL.cons z1l (SumL.cons z13 (SumL.cons z1a (SumL.cons z0l (SumL.cons z0x (SumL.cons z0w (SumL.cons z0z (SumL.cons z1r (SumL.cons z1d (SumL.cons z1w (SumL.cons z1n (SumL.cons z04 (SumL.cons z02 (SumL.cons z1t (SumL.cons z1v (SumL.cons z1q (SumL.cons z28 (SumL.cons z2d (SumL.nil))))))))))))))))))))))))))))
theorem lt33_ok : LpL Try.prog fnTab lt33 := LpL.cons z0b (LpL.cons z0g (LpL.cons z0h (LpL.cons z0y (LpL.cons z00 (LpL.cons z14 (LpL.cons z1p (LpL.cons z07 (LpL.cons z0a (LpL.cons z0f (LpL.cons z0n (LpL.nil)))))))))))
noncomputable def tb34 : List (Nat × (List PT → Option (Bool × AV × List Blk))) := [(129, z0r), (133, z0c), (137, z0s), (139, z15), (25, z18), (59, z26), (64, z19), (66, z20), (70, z11), (78, z1j), (21, z21), (58, z1m), (67, z1u), (20, z0u), (74, z16), (126, z17), (18, z1c), (23, z27), (34, z1s), (26, z29), (71, z23), (125, z05), (110, z03), (31, z24), (112, z25), (75, z22), (32, z2f), (7, z2e)]
noncomputable def lt34 : List ((Nat × Nat) × (Nat → St → Option (Bool × LO))) := [((20, 2), z0e), ((74, 3), z0m), ((18, 4), z0p), ((71, 5), z1b), ((125, 2), z01), ((31, 6), z1i), ((32, 5), z1x), ((19, 2), z06), ((19, 2), z08), ((19, 2), z0d), ((19, 2), z0k)]
noncomputable def Γ34 : Ctx := ⟨tyTab, fnTab, tblSum tb34, tblLp lt34⟩
theorem tb34_ok : SumL Try.prog tb34 := SumL.cons z0j (SumL.cons z09 (SumL.cons z0i (SumL.cons z0q (SumL.cons z0t (SumL.cons z1o (SumL.cons z0v (SumL.cons z1h (SumL.cons z0o (SumL.cons z10 (SumL.cons z1l (SumL.cons z13 (SumL.cons z1a (SumL.cons z0l (SumL.cons z0x (SumL.cons z0w (SumL.cons z0z (SumL.cons z1r (SumL.cons z1d (SumL.cons z1w (SumL.cons z1n (SumL.cons z04 (SumL.cons z02 (SumL.cons z1t (SumL.cons z1v (SumL.cons z1q (SumL.cons z28 (SumL.cons z2d (SumL.nil))))))))))))))))))))))))))))
theorem lt34_ok : LpL Try.prog fnTab lt34 := LpL.cons z0b (LpL.cons z0g (LpL.cons z0h (LpL.cons z0y (LpL.cons z00 (LpL.cons z14 (LpL.cons z1p (LpL.cons z07 (LpL.cons z0a (LpL.cons z0f (LpL.cons z0n (LpL.nil)))))))))))
end Go.Proofs.Ytdmbbllcgpicbaa
