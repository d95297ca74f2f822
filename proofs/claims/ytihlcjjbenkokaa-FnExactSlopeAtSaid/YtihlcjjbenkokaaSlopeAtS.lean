/-
  What functions answer: that the evaluator answers so. Printed by a program.
-/
import Derived.Test.YtihlcjjbenkokaaSlopeAtC
set_option linter.unusedVariables false
set_option linter.unusedSimpArgs false
set_option maxRecDepth 100000
set_option maxHeartbeats 4000000
namespace Go.Proofs.Ytihlcjjbenkokaa
open Go Go.Rf
def z1b : List PT → Option (Bool × AV × List Blk)
  | [.one (.s (.flt .f64 x))] => some (bnot (nanQ .f64 x), A1 (.flt .f64 (fint .down x)), [])
  | _ => none
theorem z0p : SumOne Try.prog 125 z1b := by
  intro pts v news hp w vals hv
  unfold z1b at hp
  split at hp
  · rename_i x
    injection hp with hp
    injection hp with h1 hp
    injection hp with h2 h3
    subst h2
    subst h3
    obtain ⟨l, hl⟩ : ∃ l, l = vals.toList := ⟨_, rfl⟩
    rw [← hl] at hv
    cases hv with
    | cons a1 a2 =>
      cases a2
      obtain ⟨b, hb1, hb2, hb3⟩ := a1
      subst hb1
      rename_i hx
      have hvals : vals = #[.float .f64 b] := by rw [← Array.toList_inj, ← hl]
      subst hvals
      have hn : nanB .f64 b = false := by rw [← nanB_cn, hb3]; simpa [bnot, nanQ] using h1
      rw [cn_of_not hn] at hb3
      subst hb3
      refine .inl ⟨_, w, by (simp only [callFunc, Sem.run_bind, run_program, Result.andThen_ok, Try.func125]; change (do let v ← Extern.MathFloor.toIntegral "math.archFloor" .down #[.float .f64 b]; pure (.value v) : Sem Next).run Try.prog w = _; rw [Sem.run_bind, run_fint hn]; rfl), NoB, ⟨⟨(fun t b' h => by cases t <;> cases h), (fun t t' b1 b2 x x' _ h => by cases t <;> cases h)⟩, (fun t x h => by cases h), Fr.refl _ w⟩, fint_rel hn⟩
  · cases hp
def z0h : List PT → Option (Bool × AV × List Blk)
  | [.one (.s (.int .u64 x))] => some (okU .f64 x, A1 (.flt .f64 (cnI .f64 x)), [])
  | _ => none
theorem z0g : SumOne Try.prog 128 z0h := by
  intro pts v news hp w vals hv
  unfold z0h at hp
  split at hp
  · rename_i x
    injection hp with hp
    injection hp with h1 hp
    injection hp with h2 h3
    subst h2
    subst h3
    obtain ⟨l, hl⟩ : ∃ l, l = vals.toList := ⟨_, rfl⟩
    rw [← hl] at hv
    cases hv with
    | cons a1 a2 =>
      cases a2
      have hb1 : _ = Value.int .u64 x := a1
      subst hb1
      rename_i hx
      have hvals : vals = #[.int .u64 x] := by rw [← Array.toList_inj, ← hl]
      subst hvals
      have hw := okU_lt h1
      refine .inl ⟨_, w, by (simp only [callFunc, Sem.run_bind, run_program, Result.andThen_ok, Try.func128]; rfl), NoB, ⟨⟨(fun t b' h => by cases t <;> cases h), (fun t t' b1 b2 x x' _ h => by cases t <;> cases h)⟩, (fun t x h => by cases h), Fr.refl _ w⟩, ⟨_, rfl, hw, rfl⟩⟩
  · cases hp
def z0r : List PT → Option (Bool × AV × List Blk)
  | [.one (.s (.flt .f64 x))] => some (bnot (nanQ .f64 x), A1 (.int .u64 x), [])
  | _ => none
theorem z0k : SumOne Try.prog 134 z0r := by
  intro pts v news hp w vals hv
  unfold z0r at hp
  split at hp
  · rename_i x
    injection hp with hp
    injection hp with h1 hp
    injection hp with h2 h3
    subst h2
    subst h3
    obtain ⟨l, hl⟩ : ∃ l, l = vals.toList := ⟨_, rfl⟩
    rw [← hl] at hv
    cases hv with
    | cons a1 a2 =>
      cases a2
      obtain ⟨b, hb1, hb2, hb3⟩ := a1
      subst hb1
      rename_i hx
      have hvals : vals = #[.float .f64 b] := by rw [← Array.toList_inj, ← hl]
      subst hvals
      have hn : nanB .f64 b = false := by rw [← nanB_cn, hb3]; simpa [bnot, nanQ] using h1
      rw [cn_of_not hn] at hb3
      subst hb3
      refine .inl ⟨_, w, by (simp only [callFunc, Sem.run_bind, run_program, Result.andThen_ok, Try.func134]; rfl), NoB, ⟨⟨(fun t b' h => by cases t <;> cases h), (fun t t' b1 b2 x x' _ h => by cases t <;> cases h)⟩, (fun t x h => by cases h), Fr.refl _ w⟩, rfl⟩
  · cases hp
def z1c : List PT → Option (Bool × AV × List Blk)
  | [.one (.s (.flt .f64 x))] => some (bnot (nanQ .f64 x), A1 (.flt .f64 (fint .zero x)), [])
  | _ => none
theorem z0q : SumOne Try.prog 137 z1c := by
  intro pts v news hp w vals hv
  unfold z1c at hp
  split at hp
  · rename_i x
    injection hp with hp
    injection hp with h1 hp
    injection hp with h2 h3
    subst h2
    subst h3
    obtain ⟨l, hl⟩ : ∃ l, l = vals.toList := ⟨_, rfl⟩
    rw [← hl] at hv
    cases hv with
    | cons a1 a2 =>
      cases a2
      obtain ⟨b, hb1, hb2, hb3⟩ := a1
      subst hb1
      rename_i hx
      have hvals : vals = #[.float .f64 b] := by rw [← Array.toList_inj, ← hl]
      subst hvals
      have hn : nanB .f64 b = false := by rw [← nanB_cn, hb3]; simpa [bnot, nanQ] using h1
      rw [cn_of_not hn] at hb3
      subst hb3
      refine .inl ⟨_, w, by (simp only [callFunc, Sem.run_bind, run_program, Result.andThen_ok, Try.func137]; change (do let v ← Extern.MathFloor.toIntegral "math.archTrunc" .zero #[.float .f64 b]; pure (.value v) : Sem Next).run Try.prog w = _; rw [Sem.run_bind, run_fint hn]; rfl), NoB, ⟨⟨(fun t b' h => by cases t <;> cases h), (fun t t' b1 b2 x x' _ h => by cases t <;> cases h)⟩, (fun t x h => by cases h), Fr.refl _ w⟩, fint_rel hn⟩
  · cases hp
noncomputable def tb0 : List (Nat × (List PT → Option (Bool × AV × List Blk))) := [(125, z1b), (128, z0h), (134, z0r), (137, z1c)]
noncomputable def lt0 : List ((Nat × Nat) × (Nat → St → Option (Bool × LO))) := []
noncomputable def Γ0 : Ctx := ⟨tyTab, fnTab, tblSum tb0, tblLp lt0⟩
theorem tb0_ok : SumL Try.prog tb0 := SumL.cons z0p (SumL.cons z0g (SumL.cons z0k (SumL.cons z0q (SumL.nil))))
theorem lt0_ok : LpL Try.prog fnTab lt0 := LpL.nil
noncomputable def z1k : List PT → Option (Bool × AV × List Blk)
  | [.one (.s (.flt .f64 a)), .one (.s (.flt .f64 b))] => some ((z73 a b), ((AV.v (TV.one (At.bool (z6m a b)))), []))
  | _ => none
def zap (a : Nat) (b : Nat) : Option (Bool) → Option (AV × List Blk)
  | some r => some ((AV.v (TV.one (At.bool r))), [])
  | none => none
theorem zd3 (a : Nat) (b : Nat) : evFn Γ0 8 8 18 (impTs 0 [.one (.s (.flt .f64 a)), .one (.s (.flt .f64 b))]).1 (impTs 0 [.one (.s (.flt .f64 a)), .one (.s (.flt .f64 b))]).2 (expo (impTs 0 [.one (.s (.flt .f64 a)), .one (.s (.flt .f64 b))]).2.length) = z5u a b (fun c0_ => some ((AV.v (TV.one (At.bool c0_))), [])) := by kernel_rfl
theorem z0t : SumOne Try.prog 18 z1k := sum_of (Γ := Γ0) (fuel := 8) (d := 8) tyTab_ok (FnL.ok fnTab_ok _ _) (LpL.ok lt0_ok) (SumL.ok tb0_ok _) mixed (by
  intro pts v news hp hc
  clear hc
  unfold z1k at hp
  split at hp
  · rename_i a b
    exact Eq.trans (Eq.trans (zd3 a b) (zbn (zap a b) rfl a b (fun c0_ => some c0_))) (fin_out (o := (zap a b)) (x := z64 a b) (d := default) (V := fun r => ((AV.v (TV.one (At.bool r))), [])) (fun r => rfl) hp)
  · cases hp)
noncomputable def z16 : List PT → Option (Bool × AV × List Blk)
  | [.one (.row 1 a_n (.fl .f32 a)), .one (.s (.int .i64 q0w))] => some ((z5m a_n a q0w), ((AV.v (TV.one (At.int IntKind.i64 (z38 a_n a q0w)))), []))
  | _ => none
def za7 (a_n : Nat) (a : List Nat) (q0w : Int) : Option (Int) → Option (AV × List Blk)
  | some r => some ((AV.v (TV.one (At.int IntKind.i64 r))), [])
  | none => none
theorem zcx (a_n : Nat) (a : List Nat) (q0w : Int) : evFn Γ0 8 8 48 (impTs 0 [.one (.row 1 a_n (.fl .f32 a)), .one (.s (.int .i64 q0w))]).1 (impTs 0 [.one (.row 1 a_n (.fl .f32 a)), .one (.s (.int .i64 q0w))]).2 (expo (impTs 0 [.one (.row 1 a_n (.fl .f32 a)), .one (.s (.int .i64 q0w))]).2.length) = z5q a_n a q0w (fun c0_ => some ((AV.v (TV.one (At.int IntKind.i64 c0_))), [])) := by kernel_rfl
theorem z0o : SumOne Try.prog 48 z16 := sum_of (Γ := Γ0) (fuel := 8) (d := 8) tyTab_ok (FnL.ok fnTab_ok _ _) (LpL.ok lt0_ok) (SumL.ok tb0_ok _) mixed (by
  intro pts v news hp hc
  clear hc
  unfold z16 at hp
  split at hp
  · rename_i a_n a q0w
    exact Eq.trans (Eq.trans (zcx a_n a q0w) (zbi (za7 a_n a q0w) rfl a_n a q0w (fun c0_ => some c0_))) (fin_out (o := (za7 a_n a q0w)) (x := z5n a_n a q0w) (d := default) (V := fun r => ((AV.v (TV.one (At.int IntKind.i64 r))), [])) (fun r => rfl) hp)
  · cases hp)
noncomputable def z1w : List PT → Option (Bool × AV × List Blk)
  | [.one (.s (.flt .f32 x))] => some ((z5e x), ((AV.v (TV.one (At.bool (z53 x)))), []))
  | _ => none
def zau (x : Nat) : Option (Bool) → Option (AV × List Blk)
  | some r => some ((AV.v (TV.one (At.bool r))), [])
  | none => none
theorem zdr (x : Nat) : evFn Γ0 8 8 54 (impTs 0 [.one (.s (.flt .f32 x))]).1 (impTs 0 [.one (.s (.flt .f32 x))]).2 (expo (impTs 0 [.one (.s (.flt .f32 x))]).2.length) = z7l x (fun c0_ => some ((AV.v (TV.one (At.bool c0_))), [])) := by kernel_rfl
theorem z14 : SumOne Try.prog 54 z1w := sum_of (Γ := Γ0) (fuel := 8) (d := 8) tyTab_ok (FnL.ok fnTab_ok _ _) (LpL.ok lt0_ok) (SumL.ok tb0_ok _) mixed (by
  intro pts v news hp hc
  clear hc
  unfold z1w at hp
  split at hp
  · rename_i x
    exact Eq.trans (Eq.trans (zdr x) (zc2 (zau x) rfl x (fun c0_ => some c0_))) (fin_out (o := (zau x)) (x := z7p x) (d := default) (V := fun r => ((AV.v (TV.one (At.bool r))), [])) (fun r => rfl) hp)
  · cases hp)
noncomputable def z1h : List PT → Option (Bool × AV × List Blk)
  | [.one (.s (.flt .f32 x))] => some ((z4e x), ((AV.v (TV.one (At.bool (z44 x)))), []))
  | _ => none
def zan (x : Nat) : Option (Bool) → Option (AV × List Blk)
  | some r => some ((AV.v (TV.one (At.bool r))), [])
  | none => none
theorem zd9 (x : Nat) : evFn Γ0 8 8 61 (impTs 0 [.one (.s (.flt .f32 x))]).1 (impTs 0 [.one (.s (.flt .f32 x))]).2 (expo (impTs 0 [.one (.s (.flt .f32 x))]).2.length) = z71 x (fun c0_ => some ((AV.v (TV.one (At.bool c0_))), [])) := by kernel_rfl
theorem z0v : SumOne Try.prog 61 z1h := sum_of (Γ := Γ0) (fuel := 8) (d := 8) tyTab_ok (FnL.ok fnTab_ok _ _) (LpL.ok lt0_ok) (SumL.ok tb0_ok _) mixed (by
  intro pts v news hp hc
  clear hc
  unfold z1h at hp
  split at hp
  · rename_i x
    exact Eq.trans (Eq.trans (zd9 x) (zbw (zan x) rfl x (fun c0_ => some c0_))) (fin_out (o := (zan x)) (x := z72 x) (d := default) (V := fun r => ((AV.v (TV.one (At.bool r))), [])) (fun r => rfl) hp)
  · cases hp)
noncomputable def z1u : List PT → Option (Bool × AV × List Blk)
  | [.one (.s (.flt .f32 x)), .one (.s (.flt .f32 low)), .one (.s (.flt .f32 q14))] => some ((z98 x low q14), ((AV.v (TV.one (At.bool (z8t x low q14)))), []))
  | _ => none
def zaw (x : Nat) (low : Nat) (q14 : Nat) : Option (Bool) → Option (AV × List Blk)
  | some r => some ((AV.v (TV.one (At.bool r))), [])
  | none => none
theorem zdn (x : Nat) (low : Nat) (q14 : Nat) : evFn Γ0 8 8 97 (impTs 0 [.one (.s (.flt .f32 x)), .one (.s (.flt .f32 low)), .one (.s (.flt .f32 q14))]).1 (impTs 0 [.one (.s (.flt .f32 x)), .one (.s (.flt .f32 low)), .one (.s (.flt .f32 q14))]).2 (expo (impTs 0 [.one (.s (.flt .f32 x)), .one (.s (.flt .f32 low)), .one (.s (.flt .f32 q14))]).2.length) = z6h x low q14 (fun c0_ => some ((AV.v (TV.one (At.bool c0_))), [])) := by kernel_rfl
theorem z15 : SumOne Try.prog 97 z1u := sum_of (Γ := Γ0) (fuel := 8) (d := 8) tyTab_ok (FnL.ok fnTab_ok _ _) (LpL.ok lt0_ok) (SumL.ok tb0_ok _) mixed (by
  intro pts v news hp hc
  clear hc
  unfold z1u at hp
  split at hp
  · rename_i x low q14
    exact Eq.trans (Eq.trans (zdn x low q14) (zc7 (zaw x low q14) rfl x low q14 (fun c0_ => some c0_))) (fin_out (o := (zaw x low q14)) (x := z6f x low q14) (d := default) (V := fun r => ((AV.v (TV.one (At.bool r))), [])) (fun r => rfl) hp)
  · cases hp)
noncomputable def z1j : List PT → Option (Bool × AV × List Blk)
  | [.one (.s (.flt .f64 x))] => some ((z8w x), ((AV.v (TV.one (At.flt FloatKind.f32 (z6l x)))), []))
  | _ => none
def zal (x : Nat) : Option (Nat) → Option (AV × List Blk)
  | some r => some ((AV.v (TV.one (At.flt FloatKind.f32 r))), [])
  | none => none
theorem zd2 (x : Nat) : evFn Γ0 8 8 109 (impTs 0 [.one (.s (.flt .f64 x))]).1 (impTs 0 [.one (.s (.flt .f64 x))]).2 (expo (impTs 0 [.one (.s (.flt .f64 x))]).2.length) = z68 x (fun c0_ => some ((AV.v (TV.one (At.flt FloatKind.f32 c0_))), [])) := by kernel_rfl
theorem z0u : SumOne Try.prog 109 z1j := sum_of (Γ := Γ0) (fuel := 8) (d := 8) tyTab_ok (FnL.ok fnTab_ok _ _) (LpL.ok lt0_ok) (SumL.ok tb0_ok _) mixed (by
  intro pts v news hp hc
  clear hc
  unfold z1j at hp
  split at hp
  · rename_i x
    exact Eq.trans (Eq.trans (zd2 x) (zbo (zal x) rfl x (fun c0_ => some c0_))) (fin_out (o := (zal x)) (x := z5t x) (d := default) (V := fun r => ((AV.v (TV.one (At.flt FloatKind.f32 r))), [])) (fun r => rfl) hp)
  · cases hp)
noncomputable def tb1 : List (Nat × (List PT → Option (Bool × AV × List Blk))) := [(125, z1b), (128, z0h), (134, z0r), (137, z1c), (18, z1k), (48, z16), (54, z1w), (61, z1h), (97, z1u), (109, z1j)]
noncomputable def lt1 : List ((Nat × Nat) × (Nat → St → Option (Bool × LO))) := []
noncomputable def Γ1 : Ctx := ⟨tyTab, fnTab, tblSum tb1, tblLp lt1⟩
theorem tb1_ok : SumL Try.prog tb1 := SumL.cons z0p (SumL.cons z0g (SumL.cons z0k (SumL.cons z0q (SumL.cons z0t (SumL.cons z0o (SumL.cons z14 (SumL.cons z0v (SumL.cons z15 (SumL.cons z0u (SumL.nil))))))))))
theorem lt1_ok : LpL Try.prog fnTab lt1 := LpL.nil
noncomputable def z1q : List PT → Option (Bool × AV × List Blk)
  | [.agg [.row 1 q0c (.fl .f32 q0l), .row 1 q0e (.fl .f32 q0n), .row 1 q0h (.fl .f32 q0o)], .one (.s (.int .i64 q0w))] => some ((z74 q0c q0l q0e q0n q0h q0o q0w), ((AV.v (TV.one (At.int IntKind.i64 (z6k q0c q0l q0e q0n q0h q0o q0w)))), []))
  | _ => none
def zah (q0c : Nat) (q0l : List Nat) (q0e : Nat) (q0n : List Nat) (q0h : Nat) (q0o : List Nat) (q0w : Int) : Option (Int) → Option (AV × List Blk)
  | some r => some ((AV.v (TV.one (At.int IntKind.i64 r))), [])
  | none => none
theorem zdb (q0c : Nat) (q0l : List Nat) (q0e : Nat) (q0n : List Nat) (q0h : Nat) (q0o : List Nat) (q0w : Int) : evFn Γ1 8 8 14 (impTs 0 [.agg [.row 1 q0c (.fl .f32 q0l), .row 1 q0e (.fl .f32 q0n), .row 1 q0h (.fl .f32 q0o)], .one (.s (.int .i64 q0w))]).1 (impTs 0 [.agg [.row 1 q0c (.fl .f32 q0l), .row 1 q0e (.fl .f32 q0n), .row 1 q0h (.fl .f32 q0o)], .one (.s (.int .i64 q0w))]).2 (expo (impTs 0 [.agg [.row 1 q0c (.fl .f32 q0l), .row 1 q0e (.fl .f32 q0n), .row 1 q0h (.fl .f32 q0o)], .one (.s (.int .i64 q0w))]).2.length) = z62 q0c q0l q0e q0n q0h q0o q0w (fun c0_ => some ((AV.v (TV.one (At.int IntKind.i64 c0_))), [])) := by kernel_rfl
theorem z12 : SumOne Try.prog 14 z1q := sum_of (Γ := Γ1) (fuel := 8) (d := 8) tyTab_ok (FnL.ok fnTab_ok _ _) (LpL.ok lt1_ok) (SumL.ok tb1_ok _) mixed (by
  intro pts v news hp hc
  clear hc
  unfold z1q at hp
  split at hp
  · rename_i q0c q0l q0e q0n q0h q0o q0w
    exact Eq.trans (Eq.trans (zdb q0c q0l q0e q0n q0h q0o q0w) (zbz (zah q0c q0l q0e q0n q0h q0o q0w) rfl q0c q0l q0e q0n q0h q0o q0w (fun c0_ => some c0_))) (fin_out (o := (zah q0c q0l q0e q0n q0h q0o q0w)) (x := z69 q0c q0l q0e q0n q0h q0o q0w) (d := default) (V := fun r => ((AV.v (TV.one (At.int IntKind.i64 r))), [])) (fun r => rfl) hp)
  · cases hp)
noncomputable def z1r : List PT → Option (Bool × AV × List Blk)
  | [.one (.s (.flt .f32 x))] => some ((z90 x), ((AV.tup [(TV.one (At.flt FloatKind.f32 (z84 x))), (TV.one (At.bool (z87 x)))]), []))
  | _ => none
def zag (x : Nat) : Option (Nat × Bool) → Option (AV × List Blk)
  | some r => some ((AV.tup [(TV.one (At.flt FloatKind.f32 r.1)), (TV.one (At.bool r.2))]), [])
  | none => none
theorem zd8 (x : Nat) : evFn Γ1 8 8 51 (impTs 0 [.one (.s (.flt .f32 x))]).1 (impTs 0 [.one (.s (.flt .f32 x))]).2 (expo (impTs 0 [.one (.s (.flt .f32 x))]).2.length) = z5v x (fun c0_ c1_ => some ((AV.tup [(TV.one (At.flt FloatKind.f32 c0_)), (TV.one (At.bool c1_))]), [])) := by kernel_rfl
theorem z11 : SumOne Try.prog 51 z1r := sum_of (Γ := Γ1) (fuel := 8) (d := 8) tyTab_ok (FnL.ok fnTab_ok _ _) (LpL.ok lt1_ok) (SumL.ok tb1_ok _) mixed (by
  intro pts v news hp hc
  clear hc
  unfold z1r at hp
  split at hp
  · rename_i x
    exact Eq.trans (Eq.trans (zd8 x) (zbr (zag x) rfl x (fun c0_ c1_ => some (c0_, c1_)))) (fin_out (o := (zag x)) (x := z52 x) (d := default) (V := fun r => ((AV.tup [(TV.one (At.flt FloatKind.f32 r.1)), (TV.one (At.bool r.2))]), [])) (fun r => rfl) hp)
  · cases hp)
noncomputable def z25 : List PT → Option (Bool × AV × List Blk)
  | [.one (.s (.flt .f32 x))] => some ((z9k x), ((AV.tup [(TV.one (At.flt FloatKind.f32 (z95 x))), (TV.one (At.bool (z99 x)))]), []))
  | _ => none
def zbg (x : Nat) : Option (Nat × Bool) → Option (AV × List Blk)
  | some r => some ((AV.tup [(TV.one (At.flt FloatKind.f32 r.1)), (TV.one (At.bool r.2))]), [])
  | none => none
theorem zdu (x : Nat) : evFn Γ1 8 8 56 (impTs 0 [.one (.s (.flt .f32 x))]).1 (impTs 0 [.one (.s (.flt .f32 x))]).2 (expo (impTs 0 [.one (.s (.flt .f32 x))]).2.length) = z6v x (fun c0_ c1_ => some ((AV.tup [(TV.one (At.flt FloatKind.f32 c0_)), (TV.one (At.bool c1_))]), [])) := by kernel_rfl
theorem z1n : SumOne Try.prog 56 z25 := sum_of (Γ := Γ1) (fuel := 8) (d := 8) tyTab_ok (FnL.ok fnTab_ok _ _) (LpL.ok lt1_ok) (SumL.ok tb1_ok _) mixed (by
  intro pts v news hp hc
  clear hc
  unfold z25 at hp
  split at hp
  · rename_i x
    exact Eq.trans (Eq.trans (zdu x) (zcd (zbg x) rfl x (fun c0_ c1_ => some (c0_, c1_)))) (fin_out (o := (zbg x)) (x := z61 x) (d := default) (V := fun r => ((AV.tup [(TV.one (At.flt FloatKind.f32 r.1)), (TV.one (At.bool r.2))]), [])) (fun r => rfl) hp)
  · cases hp)
noncomputable def z20 : List PT → Option (Bool × AV × List Blk)
  | [.one (.s (.flt .f32 x))] => some ((z5c x), ((AV.v (TV.one (At.bool (z51 x)))), []))
  | _ => none
def zav (x : Nat) : Option (Bool) → Option (AV × List Blk)
  | some r => some ((AV.v (TV.one (At.bool r))), [])
  | none => none
theorem zdh (x : Nat) : evFn Γ1 8 8 103 (impTs 0 [.one (.s (.flt .f32 x))]).1 (impTs 0 [.one (.s (.flt .f32 x))]).2 (expo (impTs 0 [.one (.s (.flt .f32 x))]).2.length) = z6e x (fun c0_ => some ((AV.v (TV.one (At.bool c0_))), [])) := by kernel_rfl
theorem z19 : SumOne Try.prog 103 z20 := sum_of (Γ := Γ1) (fuel := 8) (d := 8) tyTab_ok (FnL.ok fnTab_ok _ _) (LpL.ok lt1_ok) (SumL.ok tb1_ok _) mixed (by
  intro pts v news hp hc
  clear hc
  unfold z20 at hp
  split at hp
  · rename_i x
    exact Eq.trans (Eq.trans (zdh x) (zc8 (zav x) rfl x (fun c0_ => some c0_))) (fin_out (o := (zav x)) (x := z6g x) (d := default) (V := fun r => ((AV.v (TV.one (At.bool r))), [])) (fun r => rfl) hp)
  · cases hp)
noncomputable def z26 : List PT → Option (Bool × AV × List Blk)
  | [.one (.s (.flt .f32 x))] => some ((z9p x), ((AV.v (TV.one (At.bool (z94 x)))), []))
  | _ => none
def zbb (x : Nat) : Option (Bool) → Option (AV × List Blk)
  | some r => some ((AV.v (TV.one (At.bool r))), [])
  | none => none
theorem zdt (x : Nat) : evFn Γ1 8 8 111 (impTs 0 [.one (.s (.flt .f32 x))]).1 (impTs 0 [.one (.s (.flt .f32 x))]).2 (expo (impTs 0 [.one (.s (.flt .f32 x))]).2.length) = z70 x (fun c0_ => some ((AV.v (TV.one (At.bool c0_))), [])) := by kernel_rfl
theorem z1m : SumOne Try.prog 111 z26 := sum_of (Γ := Γ1) (fuel := 8) (d := 8) tyTab_ok (FnL.ok fnTab_ok _ _) (LpL.ok lt1_ok) (SumL.ok tb1_ok _) mixed (by
  intro pts v news hp hc
  clear hc
  unfold z26 at hp
  split at hp
  · rename_i x
    exact Eq.trans (Eq.trans (zdt x) (zcj (zbb x) rfl x (fun c0_ => some c0_))) (fin_out (o := (zbb x)) (x := z6t x) (d := default) (V := fun r => ((AV.v (TV.one (At.bool r))), [])) (fun r => rfl) hp)
  · cases hp)
noncomputable def z10 : List PT → Option (Bool × AV × List Blk)
  | [.one (.s (.flt .f32 x))] => some ((z7v x), ((AV.v (TV.one (At.bool (z77 x)))), []))
  | _ => none
def za4 (x : Nat) : Option (Bool) → Option (AV × List Blk)
  | some r => some ((AV.v (TV.one (At.bool r))), [])
  | none => none
theorem zcg (x : Nat) : evFn Γ1 8 8 118 (impTs 0 [.one (.s (.flt .f32 x))]).1 (impTs 0 [.one (.s (.flt .f32 x))]).2 (expo (impTs 0 [.one (.s (.flt .f32 x))]).2.length) = z54 x (fun c0_ => some ((AV.v (TV.one (At.bool c0_))), [])) := by kernel_rfl
theorem z0m : SumOne Try.prog 118 z10 := sum_of (Γ := Γ1) (fuel := 8) (d := 8) tyTab_ok (FnL.ok fnTab_ok _ _) (LpL.ok lt1_ok) (SumL.ok tb1_ok _) mixed (by
  intro pts v news hp hc
  clear hc
  unfold z10 at hp
  split at hp
  · rename_i x
    exact Eq.trans (Eq.trans (zcg x) (zb2 (za4 x) rfl x (fun c0_ => some c0_))) (fin_out (o := (za4 x)) (x := z58 x) (d := default) (V := fun r => ((AV.v (TV.one (At.bool r))), [])) (fun r => rfl) hp)
  · cases hp)
noncomputable def z9u (an : Nat) (q13 : Nat) (i : Int) (b0 : List Nat) (b1 : List Nat) : Bool × LO := ((z5d an q13 b0 i b1), (LO.one (Ex.exit 0) (St.mk [(0, (AV.v (TV.one (At.vw 0 0 an 1)))), (3, (AV.v (TV.one (At.sl 1 0 q13 1)))), (4, (AV.v (TV.one (At.int IntKind.i64 (z7c an q13 b0 i b1))))), (11, (AV.v (TV.one (At.bool (z7h an q13 b0 i b1)))))] [(Blk.mk Bool.false (Body.fl FloatKind.f32 b0)), (Blk.mk Bool.true (Body.fl FloatKind.f32 (z4r an q13 b0 i b1)))])))
noncomputable def z0n : Nat → St → Option (Bool × LO) := lpT 1 (pSt [(pTm 0 (pV (pOne (pVw 0 (liN 0) 1)))), (pTm 3 (pV (pOne (pSl 1 (liN 0) 1)))), (pTm 4 (pV (pOne (pInt IntKind.i64))))] [(pBlk Bool.false (pFl FloatKind.f32)), (pBlk Bool.true (pFl FloatKind.f32))]) (fun hs => z9u (hvN (hGet hs 0)) (hvN (hGet hs 1)) (hvI (hGet hs 2)) (hvLn (hGet hs 3)) (hvLn (hGet hs 4)))
def z6s (an : Nat) (q13 : Nat) (b0 : List Nat) : Option ((Int × Bool × (List Nat))) → Option (Ex × St)
  | none => none
  | some r => some ((Ex.exit 0), (St.mk [(0, (AV.v (TV.one (At.vw 0 0 an 1)))), (3, (AV.v (TV.one (At.sl 1 0 q13 1)))), (4, (AV.v (TV.one (At.int IntKind.i64 r.1)))), (11, (AV.v (TV.one (At.bool r.2.1))))] [(Blk.mk Bool.false (Body.fl FloatKind.f32 b0)), (Blk.mk Bool.true (Body.fl FloatKind.f32 r.2.2))]))
def zb7 (an : Nat) (q13 : Nat) (b0 : List Nat) (x : Option ((Int × Bool × (List Nat)))) : LO := (LO.one (Ex.exit 0) (St.mk [(0, (AV.v (TV.one (At.vw 0 0 an 1)))), (3, (AV.v (TV.one (At.sl 1 0 q13 1)))), (4, (AV.v (TV.one (At.int IntKind.i64 (x.getD default).1)))), (11, (AV.v (TV.one (At.bool (x.getD default).2.1))))] [(Blk.mk Bool.false (Body.fl FloatKind.f32 b0)), (Blk.mk Bool.true (Body.fl FloatKind.f32 (x.getD default).2.2))]))
theorem zbp (an : Nat) (q13 : Nat) (b0 : List Nat) : ∀ x : Option ((Int × Bool × (List Nat))), x.isSome = true → (z6s an q13 b0) x = some (pick (zb7 an q13 b0 x))
  | none, h => by cases h
  | some r, _ => rfl
theorem zbm (an : Nat) (q13 : Nat) (i : Int) (b0 : List Nat) (b1 : List Nat) (K : Ex → St → Option (Ex × St)) : evC (R := Ex × St) Γ1 (evFn Γ1 8 8) 52 1 fi52.nt fi52.live fi52.nl 8 (findL 3 (loopsIn fi52.code)) (St.mk [(0, (AV.v (TV.one (At.vw 0 0 an 1)))), (3, (AV.v (TV.one (At.sl 1 0 q13 1)))), (4, (AV.v (TV.one (At.int IntKind.i64 i))))] [(Blk.mk Bool.false (Body.fl FloatKind.f32 b0)), (Blk.mk Bool.true (Body.fl FloatKind.f32 b1))]) K = z3x an q13 b0 i b1 (fun i' b1' => K .normal (St.mk [(0, (AV.v (TV.one (At.vw 0 0 an 1)))), (3, (AV.v (TV.one (At.sl 1 0 q13 1)))), (4, (AV.v (TV.one (At.int IntKind.i64 i'))))] [(Blk.mk Bool.false (Body.fl FloatKind.f32 b0)), (Blk.mk Bool.true (Body.fl FloatKind.f32 b1'))])) (fun c0_ c1_ c2_ => K (Ex.exit 0) (St.mk [(0, (AV.v (TV.one (At.vw 0 0 an 1)))), (3, (AV.v (TV.one (At.sl 1 0 q13 1)))), (4, (AV.v (TV.one (At.int IntKind.i64 c0_)))), (11, (AV.v (TV.one (At.bool c1_))))] [(Blk.mk Bool.false (Body.fl FloatKind.f32 b0)), (Blk.mk Bool.true (Body.fl FloatKind.f32 c2_))])) := by kernel_rfl
theorem zbx (an : Nat) (q13 : Nat) (b0 : List Nat) : ∀ (n : Nat) (i : Int) (b1 : List Nat), iter 52 3 1 (evC (R := Ex × St) Γ1 (evFn Γ1 8 8) 52 1 fi52.nt fi52.live fi52.nl 8 (findL 3 (loopsIn fi52.code))) n (St.mk [(0, (AV.v (TV.one (At.vw 0 0 an 1)))), (3, (AV.v (TV.one (At.sl 1 0 q13 1)))), (4, (AV.v (TV.one (At.int IntKind.i64 i))))] [(Blk.mk Bool.false (Body.fl FloatKind.f32 b0)), (Blk.mk Bool.true (Body.fl FloatKind.f32 b1))]) (fun e st => some (e, st)) = (z6s an q13 b0) (z3i an q13 b0 n i b1) := by
  intro n
  induction n with
  | zero => intros; rfl
  | succ n ih =>
    intro i b1
    refine Eq.trans (iter_succ ..) (Eq.trans (zbm an q13 i b0 b1 (nextK 52 3 1 (evC (R := Ex × St) Γ1 (evFn Γ1 8 8) 52 1 fi52.nt fi52.live fi52.nl 8 (findL 3 (loopsIn fi52.code))) n (fun e st => some (e, st)))) (Eq.trans ?_ (zae (z6s an q13 b0) rfl an q13 b0 i b1 (fun i' b1' => z3i an q13 b0 n i' b1') (fun c0_ c1_ c2_ => some (c0_, c1_, c2_)))))
    exact congrArg (fun kn_ => z3x an q13 b0 i b1 kn_ (fun c0_ c1_ c2_ => (z6s an q13 b0) (some (c0_, c1_, c2_)))) (funext fun i' => funext fun b1' => ih i' b1')
theorem z0i : LoopOne Try.prog fnTab 52 3 z0n := lp_of (Γ := Γ1) tyTab_ok (FnL.ok fnTab_ok _ _) (LpL.ok lt1_ok) (SumL.ok tb1_ok _) mixed (fi := fi52) (by kernel_rfl) (by kernel_rfl) (by
  intro lo st out hp
  obtain ⟨hs, e1, e2, e3⟩ := lpT_inv hp
  clear hp
  obtain rfl : st = (St.mk [(0, (AV.v (TV.one (At.vw 0 0 (hvN (hGet hs 0)) 1)))), (3, (AV.v (TV.one (At.sl 1 0 (hvN (hGet hs 1)) 1)))), (4, (AV.v (TV.one (At.int IntKind.i64 (hvI (hGet hs 2))))))] [(Blk.mk Bool.false (Body.fl FloatKind.f32 (hvLn (hGet hs 3)))), (Blk.mk Bool.true (Body.fl FloatKind.f32 (hvLn (hGet hs 4))))]) := e2.trans (by kernel_rfl)
  clear e2
  subst e1
  unfold z9u at e3
  injection e3 with h1 h2
  subst h2
  exact ⟨8, 8, big, Eq.trans (zbx (hvN (hGet hs 0)) (hvN (hGet hs 1)) (hvLn (hGet hs 3)) big (hvI (hGet hs 2)) (hvLn (hGet hs 4))) (zbp (hvN (hGet hs 0)) (hvN (hGet hs 1)) (hvLn (hGet hs 3)) (z3i (hvN (hGet hs 0)) (hvN (hGet hs 1)) (hvLn (hGet hs 3)) big (hvI (hGet hs 2)) (hvLn (hGet hs 4))) h1)⟩)
noncomputable def tb2 : List (Nat × (List PT → Option (Bool × AV × List Blk))) := [(125, z1b), (128, z0h), (134, z0r), (137, z1c), (18, z1k), (48, z16), (54, z1w), (61, z1h), (97, z1u), (109, z1j), (14, z1q), (51, z1r), (56, z25), (103, z20), (111, z26), (118, z10)]
noncomputable def lt2 : List ((Nat × Nat) × (Nat → St → Option (Bool × LO))) := [((52, 3), z0n)]
noncomputable def Γ2 : Ctx := ⟨tyTab, fnTab, tblSum tb2, tblLp lt2⟩
theorem tb2_ok : SumL Try.prog tb2 := SumL.cons z0p (SumL.cons z0g (SumL.cons z0k (SumL.cons z0q (SumL.cons z0t (SumL.cons z0o (SumL.cons z14 (SumL.cons z0v (SumL.cons z15 (SumL.cons z0u (SumL.cons z12 (SumL.cons z11 (SumL.cons z1n (SumL.cons z19 (SumL.cons z1m (SumL.cons z0m (SumL.nil))))))))))))))))
theorem lt2_ok : LpL Try.prog fnTab lt2 := LpL.cons z0i (LpL.nil)
noncomputable def z1f : List PT → Option (Bool × AV × List Blk)
  | [.one (.row 1 a_n (.fl .f32 a))] => some ((z5o a_n a), ((AV.v (TV.one (At.sl 0 0 (z56 a_n a) 1))), [(Blk.mk Bool.true (Body.fl FloatKind.f32 (z55 a_n a)))]))
  | _ => none
def za8 (a_n : Nat) (a : List Nat) : Option (Nat × (List Nat)) → Option (AV × List Blk)
  | some r => some ((AV.v (TV.one (At.sl 0 0 r.1 1))), [(Blk.mk Bool.true (Body.fl FloatKind.f32 r.2))])
  | none => none
theorem zcs (a_n : Nat) (a : List Nat) : evFn Γ2 8 8 52 (impTs 0 [.one (.row 1 a_n (.fl .f32 a))]).1 (impTs 0 [.one (.row 1 a_n (.fl .f32 a))]).2 (expo (impTs 0 [.one (.row 1 a_n (.fl .f32 a))]).2.length) = z5k a_n a (fun c0_ c1_ => some ((AV.v (TV.one (At.sl 0 0 c0_ 1))), [(Blk.mk Bool.true (Body.fl FloatKind.f32 c1_))])) := by kernel_rfl
theorem z0x : SumOne Try.prog 52 z1f := sum_of (Γ := Γ2) (fuel := 8) (d := 8) tyTab_ok (FnL.ok fnTab_ok _ _) (LpL.ok lt2_ok) (SumL.ok tb2_ok _) mixed (by
  intro pts v news hp hc
  clear hc
  unfold z1f at hp
  split at hp
  · rename_i a_n a
    exact Eq.trans (Eq.trans (zcs a_n a) (zbj (za8 a_n a) rfl a_n a (fun c0_ c1_ => some (c0_, c1_)))) (fin_out (o := (za8 a_n a)) (x := z4s a_n a) (d := default) (V := fun r => ((AV.v (TV.one (At.sl 0 0 r.1 1))), [(Blk.mk Bool.true (Body.fl FloatKind.f32 r.2))])) (fun r => rfl) hp)
  · cases hp)
noncomputable def z1g : List PT → Option (Bool × AV × List Blk)
  | [.one (.s (.flt .f32 x))] => some ((z86 x), ((AV.v (TV.one (At.bool (z7q x)))), []))
  | _ => none
def zab (x : Nat) : Option (Bool) → Option (AV × List Blk)
  | some r => some ((AV.v (TV.one (At.bool r))), [])
  | none => none
theorem zd0 (x : Nat) : evFn Γ2 8 8 119 (impTs 0 [.one (.s (.flt .f32 x))]).1 (impTs 0 [.one (.s (.flt .f32 x))]).2 (expo (impTs 0 [.one (.s (.flt .f32 x))]).2.length) = z5p x (fun c0_ => some ((AV.v (TV.one (At.bool c0_))), [])) := by kernel_rfl
theorem z0w : SumOne Try.prog 119 z1g := sum_of (Γ := Γ2) (fuel := 8) (d := 8) tyTab_ok (FnL.ok fnTab_ok _ _) (LpL.ok lt2_ok) (SumL.ok tb2_ok _) mixed (by
  intro pts v news hp hc
  clear hc
  unfold z1g at hp
  split at hp
  · rename_i x
    exact Eq.trans (Eq.trans (zd0 x) (zbe (zab x) rfl x (fun c0_ => some c0_))) (fin_out (o := (zab x)) (x := z5i x) (d := default) (V := fun r => ((AV.v (TV.one (At.bool r))), [])) (fun r => rfl) hp)
  · cases hp)
noncomputable def z9s (an : Nat) (bn : Nat) (i : Int) (b0 : List Nat) (b1 : List Nat) : Bool × LO := ((z6q an bn b0 b1 i), (LO.two (z6d an bn b0 b1 i) (LO.one Ex.ret (St.mk [(4, (AV.v (TV.one (At.bool Bool.false))))] [(Blk.mk Bool.false (Body.fl FloatKind.f32 b0)), (Blk.mk Bool.false (Body.fl FloatKind.f32 b1))])) (LO.one (Ex.exit 0) (St.mk [(0, (AV.v (TV.one (At.vw 0 0 an 1)))), (1, (AV.v (TV.one (At.vw 1 0 bn 1)))), (5, (AV.v (TV.one (At.int IntKind.i64 (z7a an bn b0 b1 i))))), (14, (AV.v (TV.one (At.bool (z7d an bn b0 b1 i)))))] [(Blk.mk Bool.false (Body.fl FloatKind.f32 b0)), (Blk.mk Bool.false (Body.fl FloatKind.f32 b1))]))))
noncomputable def z0s : Nat → St → Option (Bool × LO) := lpT 2 (pSt [(pTm 0 (pV (pOne (pVw 0 (liN 0) 1)))), (pTm 1 (pV (pOne (pVw 1 (liN 0) 1)))), (pTm 5 (pV (pOne (pInt IntKind.i64))))] [(pBlk Bool.false (pFl FloatKind.f32)), (pBlk Bool.false (pFl FloatKind.f32))]) (fun hs => z9s (hvN (hGet hs 0)) (hvN (hGet hs 1)) (hvI (hGet hs 2)) (hvLn (hGet hs 3)) (hvLn (hGet hs 4)))
def z5b (an : Nat) (bn : Nat) (b0 : List Nat) (b1 : List Nat) : Option ((Unit) ⊕ (Int × Bool)) → Option (Ex × St)
  | none => none
  | some (Sum.inl r) => some (Ex.ret, (St.mk [(4, (AV.v (TV.one (At.bool Bool.false))))] [(Blk.mk Bool.false (Body.fl FloatKind.f32 b0)), (Blk.mk Bool.false (Body.fl FloatKind.f32 b1))]))
  | some (Sum.inr r) => some ((Ex.exit 0), (St.mk [(0, (AV.v (TV.one (At.vw 0 0 an 1)))), (1, (AV.v (TV.one (At.vw 1 0 bn 1)))), (5, (AV.v (TV.one (At.int IntKind.i64 r.1)))), (14, (AV.v (TV.one (At.bool r.2))))] [(Blk.mk Bool.false (Body.fl FloatKind.f32 b0)), (Blk.mk Bool.false (Body.fl FloatKind.f32 b1))]))
def zb9 (an : Nat) (bn : Nat) (b0 : List Nat) (b1 : List Nat) (x : Option ((Unit) ⊕ (Int × Bool))) : LO := (LO.two (oL x) (LO.one Ex.ret (St.mk [(4, (AV.v (TV.one (At.bool Bool.false))))] [(Blk.mk Bool.false (Body.fl FloatKind.f32 b0)), (Blk.mk Bool.false (Body.fl FloatKind.f32 b1))])) (LO.one (Ex.exit 0) (St.mk [(0, (AV.v (TV.one (At.vw 0 0 an 1)))), (1, (AV.v (TV.one (At.vw 1 0 bn 1)))), (5, (AV.v (TV.one (At.int IntKind.i64 ((tR x).getD default).1)))), (14, (AV.v (TV.one (At.bool ((tR x).getD default).2))))] [(Blk.mk Bool.false (Body.fl FloatKind.f32 b0)), (Blk.mk Bool.false (Body.fl FloatKind.f32 b1))])))
theorem zbt (an : Nat) (bn : Nat) (b0 : List Nat) (b1 : List Nat) : ∀ x : Option ((Unit) ⊕ (Int × Bool)), x.isSome = true → (z5b an bn b0 b1) x = some (pick (zb9 an bn b0 b1 x))
  | none, h => by cases h
  | some (Sum.inl r), _ => rfl
  | some (Sum.inr r), _ => rfl
theorem zbu (an : Nat) (bn : Nat) (i : Int) (b0 : List Nat) (b1 : List Nat) (K : Ex → St → Option (Ex × St)) : evC (R := Ex × St) Γ2 (evFn Γ2 8 8) 57 2 fi57.nt fi57.live fi57.nl 8 (findL 4 (loopsIn fi57.code)) (St.mk [(0, (AV.v (TV.one (At.vw 0 0 an 1)))), (1, (AV.v (TV.one (At.vw 1 0 bn 1)))), (5, (AV.v (TV.one (At.int IntKind.i64 i))))] [(Blk.mk Bool.false (Body.fl FloatKind.f32 b0)), (Blk.mk Bool.false (Body.fl FloatKind.f32 b1))]) K = z3w an bn b0 b1 i (fun i' => K .normal (St.mk [(0, (AV.v (TV.one (At.vw 0 0 an 1)))), (1, (AV.v (TV.one (At.vw 1 0 bn 1)))), (5, (AV.v (TV.one (At.int IntKind.i64 i'))))] [(Blk.mk Bool.false (Body.fl FloatKind.f32 b0)), (Blk.mk Bool.false (Body.fl FloatKind.f32 b1))])) (fun _ => K Ex.ret (St.mk [(4, (AV.v (TV.one (At.bool Bool.false))))] [(Blk.mk Bool.false (Body.fl FloatKind.f32 b0)), (Blk.mk Bool.false (Body.fl FloatKind.f32 b1))])) (fun c0_ c1_ => K (Ex.exit 0) (St.mk [(0, (AV.v (TV.one (At.vw 0 0 an 1)))), (1, (AV.v (TV.one (At.vw 1 0 bn 1)))), (5, (AV.v (TV.one (At.int IntKind.i64 c0_)))), (14, (AV.v (TV.one (At.bool c1_))))] [(Blk.mk Bool.false (Body.fl FloatKind.f32 b0)), (Blk.mk Bool.false (Body.fl FloatKind.f32 b1))])) := by kernel_rfl
theorem zby (an : Nat) (bn : Nat) (b0 : List Nat) (b1 : List Nat) : ∀ (n : Nat) (i : Int), iter 57 4 2 (evC (R := Ex × St) Γ2 (evFn Γ2 8 8) 57 2 fi57.nt fi57.live fi57.nl 8 (findL 4 (loopsIn fi57.code))) n (St.mk [(0, (AV.v (TV.one (At.vw 0 0 an 1)))), (1, (AV.v (TV.one (At.vw 1 0 bn 1)))), (5, (AV.v (TV.one (At.int IntKind.i64 i))))] [(Blk.mk Bool.false (Body.fl FloatKind.f32 b0)), (Blk.mk Bool.false (Body.fl FloatKind.f32 b1))]) (fun e st => some (e, st)) = (z5b an bn b0 b1) (z3j an bn b0 b1 n i) := by
  intro n
  induction n with
  | zero => intros; rfl
  | succ n ih =>
    intro i
    refine Eq.trans (iter_succ ..) (Eq.trans (zbu an bn i b0 b1 (nextK 57 4 2 (evC (R := Ex × St) Γ2 (evFn Γ2 8 8) 57 2 fi57.nt fi57.live fi57.nl 8 (findL 4 (loopsIn fi57.code))) n (fun e st => some (e, st)))) (Eq.trans ?_ (zai (z5b an bn b0 b1) rfl an bn b0 b1 i (fun i' => z3j an bn b0 b1 n i') (fun _ => some (Sum.inl ())) (fun c0_ c1_ => some (Sum.inr (c0_, c1_))))))
    exact congrArg (fun kn_ => z3w an bn b0 b1 i kn_ (fun _ => (z5b an bn b0 b1) (some (Sum.inl ()))) (fun c0_ c1_ => (z5b an bn b0 b1) (some (Sum.inr (c0_, c1_))))) (funext fun i' => ih i')
theorem z0j : LoopOne Try.prog fnTab 57 4 z0s := lp_of (Γ := Γ2) tyTab_ok (FnL.ok fnTab_ok _ _) (LpL.ok lt2_ok) (SumL.ok tb2_ok _) mixed (fi := fi57) (by kernel_rfl) (by kernel_rfl) (by
  intro lo st out hp
  obtain ⟨hs, e1, e2, e3⟩ := lpT_inv hp
  clear hp
  obtain rfl : st = (St.mk [(0, (AV.v (TV.one (At.vw 0 0 (hvN (hGet hs 0)) 1)))), (1, (AV.v (TV.one (At.vw 1 0 (hvN (hGet hs 1)) 1)))), (5, (AV.v (TV.one (At.int IntKind.i64 (hvI (hGet hs 2))))))] [(Blk.mk Bool.false (Body.fl FloatKind.f32 (hvLn (hGet hs 3)))), (Blk.mk Bool.false (Body.fl FloatKind.f32 (hvLn (hGet hs 4))))]) := e2.trans (by kernel_rfl)
  clear e2
  subst e1
  unfold z9s at e3
  injection e3 with h1 h2
  subst h2
  exact ⟨8, 8, big, Eq.trans (zby (hvN (hGet hs 0)) (hvN (hGet hs 1)) (hvLn (hGet hs 3)) (hvLn (hGet hs 4)) big (hvI (hGet hs 2))) (zbt (hvN (hGet hs 0)) (hvN (hGet hs 1)) (hvLn (hGet hs 3)) (hvLn (hGet hs 4)) (z3j (hvN (hGet hs 0)) (hvN (hGet hs 1)) (hvLn (hGet hs 3)) (hvLn (hGet hs 4)) big (hvI (hGet hs 2))) h1)⟩)
noncomputable def tb3 : List (Nat × (List PT → Option (Bool × AV × List Blk))) := [(125, z1b), (128, z0h), (134, z0r), (137, z1c), (18, z1k), (48, z16), (54, z1w), (61, z1h), (97, z1u), (109, z1j), (14, z1q), (51, z1r), (56, z25), (103, z20), (111, z26), (118, z10), (52, z1f), (119, z1g)]
noncomputable def lt3 : List ((Nat × Nat) × (Nat → St → Option (Bool × LO))) := [((52, 3), z0n), ((57, 4), z0s)]
noncomputable def Γ3 : Ctx := ⟨tyTab, fnTab, tblSum tb3, tblLp lt3⟩
theorem tb3_ok : SumL Try.prog tb3 := SumL.cons z0p (SumL.cons z0g (SumL.cons z0k (SumL.cons z0q (SumL.cons z0t (SumL.cons z0o (SumL.cons z14 (SumL.cons z0v (SumL.cons z15 (SumL.cons z0u (SumL.cons z12 (SumL.cons z11 (SumL.cons z1n (SumL.cons z19 (SumL.cons z1m (SumL.cons z0m (SumL.cons z0x (SumL.cons z0w (SumL.nil))))))))))))))))))
theorem lt3_ok : LpL Try.prog fnTab lt3 := LpL.cons z0i (LpL.cons z0j (LpL.nil))
noncomputable def z1y : List PT → Option (Bool × AV × List Blk)
  | [.agg [.row 1 q0c (.fl .f32 q0l), .row 1 q0e (.fl .f32 q0n), .row 1 q0h (.fl .f32 q0o)]] => some ((z50 q0c q0l q0e q0n q0h q0o), ((AV.v (TV.agg [(At.sl 0 0 (z2c q0c q0l q0e q0n q0h q0o) 1), (At.sl 1 0 (z2f q0c q0l q0e q0n q0h q0o) 1), (At.sl 2 0 (z2e q0c q0l q0e q0n q0h q0o) 1)])), [(Blk.mk Bool.true (Body.fl FloatKind.f32 (z36 q0c q0l q0e q0n q0h q0o))), (Blk.mk Bool.true (Body.fl FloatKind.f32 (z35 q0c q0l q0e q0n q0h q0o))), (Blk.mk Bool.true (Body.fl FloatKind.f32 (z37 q0c q0l q0e q0n q0h q0o)))]))
  | _ => none
def zak (q0c : Nat) (q0l : List Nat) (q0e : Nat) (q0n : List Nat) (q0h : Nat) (q0o : List Nat) : Option (Nat × Nat × Nat × (List Nat) × (List Nat) × (List Nat)) → Option (AV × List Blk)
  | some r => some ((AV.v (TV.agg [(At.sl 0 0 r.1 1), (At.sl 1 0 r.2.1 1), (At.sl 2 0 r.2.2.1 1)])), [(Blk.mk Bool.true (Body.fl FloatKind.f32 r.2.2.2.1)), (Blk.mk Bool.true (Body.fl FloatKind.f32 r.2.2.2.2.1)), (Blk.mk Bool.true (Body.fl FloatKind.f32 r.2.2.2.2.2))])
  | none => none
theorem zd5 (q0c : Nat) (q0l : List Nat) (q0e : Nat) (q0n : List Nat) (q0h : Nat) (q0o : List Nat) : evFn Γ3 8 8 16 (impTs 0 [.agg [.row 1 q0c (.fl .f32 q0l), .row 1 q0e (.fl .f32 q0n), .row 1 q0h (.fl .f32 q0o)]]).1 (impTs 0 [.agg [.row 1 q0c (.fl .f32 q0l), .row 1 q0e (.fl .f32 q0n), .row 1 q0h (.fl .f32 q0o)]]).2 (expo (impTs 0 [.agg [.row 1 q0c (.fl .f32 q0l), .row 1 q0e (.fl .f32 q0n), .row 1 q0h (.fl .f32 q0o)]]).2.length) = z65 q0c q0l q0e q0n q0h q0o (fun c0_ c1_ c2_ c3_ c4_ c5_ => some ((AV.v (TV.agg [(At.sl 0 0 c0_ 1), (At.sl 1 0 c1_ 1), (At.sl 2 0 c2_ 1)])), [(Blk.mk Bool.true (Body.fl FloatKind.f32 c3_)), (Blk.mk Bool.true (Body.fl FloatKind.f32 c4_)), (Blk.mk Bool.true (Body.fl FloatKind.f32 c5_))])) := by kernel_rfl
theorem z1a : SumOne Try.prog 16 z1y := sum_of (Γ := Γ3) (fuel := 8) (d := 8) tyTab_ok (FnL.ok fnTab_ok _ _) (LpL.ok lt3_ok) (SumL.ok tb3_ok _) mixed (by
  intro pts v news hp hc
  clear hc
  unfold z1y at hp
  split at hp
  · rename_i q0c q0l q0e q0n q0h q0o
    exact Eq.trans (Eq.trans (zd5 q0c q0l q0e q0n q0h q0o) (zbs (zak q0c q0l q0e q0n q0h q0o) rfl q0c q0l q0e q0n q0h q0o (fun c0_ c1_ c2_ c3_ c4_ c5_ => some (c0_, c1_, c2_, c3_, c4_, c5_)))) (fin_out (o := (zak q0c q0l q0e q0n q0h q0o)) (x := z40 q0c q0l q0e q0n q0h q0o) (d := default) (V := fun r => ((AV.v (TV.agg [(At.sl 0 0 r.1 1), (At.sl 1 0 r.2.1 1), (At.sl 2 0 r.2.2.1 1)])), [(Blk.mk Bool.true (Body.fl FloatKind.f32 r.2.2.2.1)), (Blk.mk Bool.true (Body.fl FloatKind.f32 r.2.2.2.2.1)), (Blk.mk Bool.true (Body.fl FloatKind.f32 r.2.2.2.2.2))])) (fun r => rfl) hp)
  · cases hp)
noncomputable def z1o : List PT → Option (Bool × AV × List Blk)
  | [.one (.row 1 a_n (.fl .f32 a)), .one (.row 1 b_n (.fl .f32 b))] => some ((z5l a_n a b_n b), ((AV.v (TV.one (At.bool (z57 a_n a b_n b)))), []))
  | _ => none
def zaa (a_n : Nat) (a : List Nat) (b_n : Nat) (b : List Nat) : Option (Bool) → Option (AV × List Blk)
  | some r => some ((AV.v (TV.one (At.bool r))), [])
  | none => none
theorem zcp (a_n : Nat) (a : List Nat) (b_n : Nat) (b : List Nat) : evFn Γ3 8 8 57 (impTs 0 [.one (.row 1 a_n (.fl .f32 a)), .one (.row 1 b_n (.fl .f32 b))]).1 (impTs 0 [.one (.row 1 a_n (.fl .f32 a)), .one (.row 1 b_n (.fl .f32 b))]).2 (expo (impTs 0 [.one (.row 1 a_n (.fl .f32 a)), .one (.row 1 b_n (.fl .f32 b))]).2.length) = z5j a_n a b_n b (fun c0_ => some ((AV.v (TV.one (At.bool c0_))), [])) := by kernel_rfl
theorem z13 : SumOne Try.prog 57 z1o := sum_of (Γ := Γ3) (fuel := 8) (d := 8) tyTab_ok (FnL.ok fnTab_ok _ _) (LpL.ok lt3_ok) (SumL.ok tb3_ok _) mixed (by
  intro pts v news hp hc
  clear hc
  unfold z1o at hp
  split at hp
  · rename_i a_n a b_n b
    exact Eq.trans (Eq.trans (zcp a_n a b_n b) (zb6 (zaa a_n a b_n b) rfl a_n a b_n b (fun c0_ => some c0_))) (fin_out (o := (zaa a_n a b_n b)) (x := z5h a_n a b_n b) (d := default) (V := fun r => ((AV.v (TV.one (At.bool r))), [])) (fun r => rfl) hp)
  · cases hp)
noncomputable def za9 (t3 : Int) (t4 : Int) (b0 : List Nat) (b1 : List Nat) (b2 : List Nat) (q0j : Nat) (q0q : Nat) (q0p : Nat) : Bool × LO := ((z4t t3 b0 b1 b2 q0j q0q q0p t4), (LO.two (z4n t3 b0 b1 b2 q0j q0q q0p t4) (LO.one Ex.ret (St.mk [(2, (AV.v (TV.one (At.bool Bool.false))))] [(Blk.mk Bool.false (Body.fl FloatKind.f32 b0)), (Blk.mk Bool.false (Body.fl FloatKind.f32 b1)), (Blk.mk Bool.false (Body.fl FloatKind.f32 b2)), (Blk.mk Bool.false (Body.cells [(At.vw 0 0 q0j 1), (At.vw 1 0 q0q 1), (At.vw 2 0 q0p 1)]))])) (LO.one (Ex.exit 0) (St.mk [(0, (AV.v (TV.one (At.ptr 3 0 3)))), (3, (AV.v (TV.one (At.int IntKind.i64 t3)))), (4, (AV.v (TV.one (At.int IntKind.i64 (z9d t3 b0 b1 b2 q0j q0q q0p t4))))), (36, (AV.v (TV.one (At.bool (z9e t3 b0 b1 b2 q0j q0q q0p t4)))))] [(Blk.mk Bool.false (Body.fl FloatKind.f32 b0)), (Blk.mk Bool.false (Body.fl FloatKind.f32 b1)), (Blk.mk Bool.false (Body.fl FloatKind.f32 b2)), (Blk.mk Bool.false (Body.cells [(At.vw 0 0 q0j 1), (At.vw 1 0 q0q 1), (At.vw 2 0 q0p 1)]))]))))
noncomputable def z28 : Nat → St → Option (Bool × LO) := lpT 4 (pSt [(pTm 0 (pV (pOne (pPtr 3 (liN 0) 3)))), (pTm 3 (pV (pOne (pInt IntKind.i64)))), (pTm 4 (pV (pOne (pInt IntKind.i64))))] [(pBlk Bool.false (pFl FloatKind.f32)), (pBlk Bool.false (pFl FloatKind.f32)), (pBlk Bool.false (pFl FloatKind.f32)), (pBlk Bool.false (pCells [(pVw 0 (liN 0) 1), (pVw 1 (liN 0) 1), (pVw 2 (liN 0) 1)]))]) (fun hs => za9 (hvI (hGet hs 0)) (hvI (hGet hs 1)) (hvLn (hGet hs 2)) (hvLn (hGet hs 3)) (hvLn (hGet hs 4)) (hvN (hGet hs 5)) (hvN (hGet hs 6)) (hvN (hGet hs 7)))
def z7n (t3 : Int) (b0 : List Nat) (b1 : List Nat) (b2 : List Nat) (q0j : Nat) (q0q : Nat) (q0p : Nat) : Option ((Unit) ⊕ (Int × Bool)) → Option (Ex × St)
  | none => none
  | some (Sum.inl r) => some (Ex.ret, (St.mk [(2, (AV.v (TV.one (At.bool Bool.false))))] [(Blk.mk Bool.false (Body.fl FloatKind.f32 b0)), (Blk.mk Bool.false (Body.fl FloatKind.f32 b1)), (Blk.mk Bool.false (Body.fl FloatKind.f32 b2)), (Blk.mk Bool.false (Body.cells [(At.vw 0 0 q0j 1), (At.vw 1 0 q0q 1), (At.vw 2 0 q0p 1)]))]))
  | some (Sum.inr r) => some ((Ex.exit 0), (St.mk [(0, (AV.v (TV.one (At.ptr 3 0 3)))), (3, (AV.v (TV.one (At.int IntKind.i64 t3)))), (4, (AV.v (TV.one (At.int IntKind.i64 r.1)))), (36, (AV.v (TV.one (At.bool r.2))))] [(Blk.mk Bool.false (Body.fl FloatKind.f32 b0)), (Blk.mk Bool.false (Body.fl FloatKind.f32 b1)), (Blk.mk Bool.false (Body.fl FloatKind.f32 b2)), (Blk.mk Bool.false (Body.cells [(At.vw 0 0 q0j 1), (At.vw 1 0 q0q 1), (At.vw 2 0 q0p 1)]))]))
def zd4 (t3 : Int) (b0 : List Nat) (b1 : List Nat) (b2 : List Nat) (q0j : Nat) (q0q : Nat) (q0p : Nat) (x : Option ((Unit) ⊕ (Int × Bool))) : LO := (LO.two (oL x) (LO.one Ex.ret (St.mk [(2, (AV.v (TV.one (At.bool Bool.false))))] [(Blk.mk Bool.false (Body.fl FloatKind.f32 b0)), (Blk.mk Bool.false (Body.fl FloatKind.f32 b1)), (Blk.mk Bool.false (Body.fl FloatKind.f32 b2)), (Blk.mk Bool.false (Body.cells [(At.vw 0 0 q0j 1), (At.vw 1 0 q0q 1), (At.vw 2 0 q0p 1)]))])) (LO.one (Ex.exit 0) (St.mk [(0, (AV.v (TV.one (At.ptr 3 0 3)))), (3, (AV.v (TV.one (At.int IntKind.i64 t3)))), (4, (AV.v (TV.one (At.int IntKind.i64 ((tR x).getD default).1)))), (36, (AV.v (TV.one (At.bool ((tR x).getD default).2))))] [(Blk.mk Bool.false (Body.fl FloatKind.f32 b0)), (Blk.mk Bool.false (Body.fl FloatKind.f32 b1)), (Blk.mk Bool.false (Body.fl FloatKind.f32 b2)), (Blk.mk Bool.false (Body.cells [(At.vw 0 0 q0j 1), (At.vw 1 0 q0q 1), (At.vw 2 0 q0p 1)]))])))
theorem zdk (t3 : Int) (b0 : List Nat) (b1 : List Nat) (b2 : List Nat) (q0j : Nat) (q0q : Nat) (q0p : Nat) : ∀ x : Option ((Unit) ⊕ (Int × Bool)), x.isSome = true → (z7n t3 b0 b1 b2 q0j q0q q0p) x = some (pick (zd4 t3 b0 b1 b2 q0j q0q q0p x))
  | none, h => by cases h
  | some (Sum.inl r), _ => rfl
  | some (Sum.inr r), _ => rfl
theorem zdl (t3 : Int) (t4 : Int) (b0 : List Nat) (b1 : List Nat) (b2 : List Nat) (q0j : Nat) (q0q : Nat) (q0p : Nat) (K : Ex → St → Option (Ex × St)) : evC (R := Ex × St) Γ3 (evFn Γ3 8 8) 62 4 fi62.nt fi62.live fi62.nl 8 (findL 5 (loopsIn fi62.code)) (St.mk [(0, (AV.v (TV.one (At.ptr 3 0 3)))), (3, (AV.v (TV.one (At.int IntKind.i64 t3)))), (4, (AV.v (TV.one (At.int IntKind.i64 t4))))] [(Blk.mk Bool.false (Body.fl FloatKind.f32 b0)), (Blk.mk Bool.false (Body.fl FloatKind.f32 b1)), (Blk.mk Bool.false (Body.fl FloatKind.f32 b2)), (Blk.mk Bool.false (Body.cells [(At.vw 0 0 q0j 1), (At.vw 1 0 q0q 1), (At.vw 2 0 q0p 1)]))]) K = z4j t3 b0 b1 b2 q0j q0q q0p t4 (fun t4' => K .normal (St.mk [(0, (AV.v (TV.one (At.ptr 3 0 3)))), (3, (AV.v (TV.one (At.int IntKind.i64 t3)))), (4, (AV.v (TV.one (At.int IntKind.i64 t4'))))] [(Blk.mk Bool.false (Body.fl FloatKind.f32 b0)), (Blk.mk Bool.false (Body.fl FloatKind.f32 b1)), (Blk.mk Bool.false (Body.fl FloatKind.f32 b2)), (Blk.mk Bool.false (Body.cells [(At.vw 0 0 q0j 1), (At.vw 1 0 q0q 1), (At.vw 2 0 q0p 1)]))])) (fun _ => K Ex.ret (St.mk [(2, (AV.v (TV.one (At.bool Bool.false))))] [(Blk.mk Bool.false (Body.fl FloatKind.f32 b0)), (Blk.mk Bool.false (Body.fl FloatKind.f32 b1)), (Blk.mk Bool.false (Body.fl FloatKind.f32 b2)), (Blk.mk Bool.false (Body.cells [(At.vw 0 0 q0j 1), (At.vw 1 0 q0q 1), (At.vw 2 0 q0p 1)]))])) (fun c0_ c1_ => K (Ex.exit 0) (St.mk [(0, (AV.v (TV.one (At.ptr 3 0 3)))), (3, (AV.v (TV.one (At.int IntKind.i64 t3)))), (4, (AV.v (TV.one (At.int IntKind.i64 c0_)))), (36, (AV.v (TV.one (At.bool c1_))))] [(Blk.mk Bool.false (Body.fl FloatKind.f32 b0)), (Blk.mk Bool.false (Body.fl FloatKind.f32 b1)), (Blk.mk Bool.false (Body.fl FloatKind.f32 b2)), (Blk.mk Bool.false (Body.cells [(At.vw 0 0 q0j 1), (At.vw 1 0 q0q 1), (At.vw 2 0 q0p 1)]))])) := by kernel_rfl
theorem zdo (t3 : Int) (b0 : List Nat) (b1 : List Nat) (b2 : List Nat) (q0j : Nat) (q0q : Nat) (q0p : Nat) : ∀ (n : Nat) (t4 : Int), iter 62 5 4 (evC (R := Ex × St) Γ3 (evFn Γ3 8 8) 62 4 fi62.nt fi62.live fi62.nl 8 (findL 5 (loopsIn fi62.code))) n (St.mk [(0, (AV.v (TV.one (At.ptr 3 0 3)))), (3, (AV.v (TV.one (At.int IntKind.i64 t3)))), (4, (AV.v (TV.one (At.int IntKind.i64 t4))))] [(Blk.mk Bool.false (Body.fl FloatKind.f32 b0)), (Blk.mk Bool.false (Body.fl FloatKind.f32 b1)), (Blk.mk Bool.false (Body.fl FloatKind.f32 b2)), (Blk.mk Bool.false (Body.cells [(At.vw 0 0 q0j 1), (At.vw 1 0 q0q 1), (At.vw 2 0 q0p 1)]))]) (fun e st => some (e, st)) = (z7n t3 b0 b1 b2 q0j q0q q0p) (z3t t3 b0 b1 b2 q0j q0q q0p n t4) := by
  intro n
  induction n with
  | zero => intros; rfl
  | succ n ih =>
    intro t4
    refine Eq.trans (iter_succ ..) (Eq.trans (zdl t3 t4 b0 b1 b2 q0j q0q q0p (nextK 62 5 4 (evC (R := Ex × St) Γ3 (evFn Γ3 8 8) 62 4 fi62.nt fi62.live fi62.nl 8 (findL 5 (loopsIn fi62.code))) n (fun e st => some (e, st)))) (Eq.trans ?_ (zc5 (z7n t3 b0 b1 b2 q0j q0q q0p) rfl t3 b0 b1 b2 q0j q0q q0p t4 (fun t4' => z3t t3 b0 b1 b2 q0j q0q q0p n t4') (fun _ => some (Sum.inl ())) (fun c0_ c1_ => some (Sum.inr (c0_, c1_))))))
    exact congrArg (fun kn_ => z4j t3 b0 b1 b2 q0j q0q q0p t4 kn_ (fun _ => (z7n t3 b0 b1 b2 q0j q0q q0p) (some (Sum.inl ()))) (fun c0_ c1_ => (z7n t3 b0 b1 b2 q0j q0q q0p) (some (Sum.inr (c0_, c1_))))) (funext fun t4' => ih t4')
theorem z1p : LoopOne Try.prog fnTab 62 5 z28 := lp_of (Γ := Γ3) tyTab_ok (FnL.ok fnTab_ok _ _) (LpL.ok lt3_ok) (SumL.ok tb3_ok _) mixed (fi := fi62) (by kernel_rfl) (by kernel_rfl) (by
  intro lo st out hp
  obtain ⟨hs, e1, e2, e3⟩ := lpT_inv hp
  clear hp
  obtain rfl : st = (St.mk [(0, (AV.v (TV.one (At.ptr 3 0 3)))), (3, (AV.v (TV.one (At.int IntKind.i64 (hvI (hGet hs 0)))))), (4, (AV.v (TV.one (At.int IntKind.i64 (hvI (hGet hs 1))))))] [(Blk.mk Bool.false (Body.fl FloatKind.f32 (hvLn (hGet hs 2)))), (Blk.mk Bool.false (Body.fl FloatKind.f32 (hvLn (hGet hs 3)))), (Blk.mk Bool.false (Body.fl FloatKind.f32 (hvLn (hGet hs 4)))), (Blk.mk Bool.false (Body.cells [(At.vw 0 0 (hvN (hGet hs 5)) 1), (At.vw 1 0 (hvN (hGet hs 6)) 1), (At.vw 2 0 (hvN (hGet hs 7)) 1)]))]) := e2.trans (by kernel_rfl)
  clear e2
  subst e1
  unfold za9 at e3
  injection e3 with h1 h2
  subst h2
  exact ⟨8, 8, big, Eq.trans (zdo (hvI (hGet hs 0)) (hvLn (hGet hs 2)) (hvLn (hGet hs 3)) (hvLn (hGet hs 4)) (hvN (hGet hs 5)) (hvN (hGet hs 6)) (hvN (hGet hs 7)) big (hvI (hGet hs 1))) (zdk (hvI (hGet hs 0)) (hvLn (hGet hs 2)) (hvLn (hGet hs 3)) (hvLn (hGet hs 4)) (hvN (hGet hs 5)) (hvN (hGet hs 6)) (hvN (hGet hs 7)) (z3t (hvI (hGet hs 0)) (hvLn (hGet hs 2)) (hvLn (hGet hs 3)) (hvLn (hGet hs 4)) (hvN (hGet hs 5)) (hvN (hGet hs 6)) (hvN (hGet hs 7)) big (hvI (hGet hs 1))) h1)⟩)
noncomputable def z4x (sn : Nat) (t7 : Int) (t8 : Int) (b0 : List Nat) : Bool × LO := ((z34 sn t7 b0 t8), (LO.two (z30 sn t7 b0 t8) (LO.one Ex.ret (St.mk [(4, (AV.v (TV.one (At.int IntKind.i64 (z3m sn t7 b0 t8)))))] [(Blk.mk Bool.false (Body.fl FloatKind.f32 b0))])) (LO.one (Ex.exit 0) (St.mk [(0, (AV.v (TV.one (At.vw 0 0 sn 1)))), (1, (AV.v (TV.one (At.fn 118 [])))), (7, (AV.v (TV.one (At.int IntKind.i64 t7)))), (8, (AV.v (TV.one (At.int IntKind.i64 (z49 sn t7 b0 t8))))), (9, (AV.v (TV.one (At.bool (z48 sn t7 b0 t8)))))] [(Blk.mk Bool.false (Body.fl FloatKind.f32 b0))]))))
noncomputable def z03 : Nat → St → Option (Bool × LO) := lpT 1 (pSt [(pTm 0 (pV (pOne (pVw 0 (liN 0) 1)))), (pTm 1 (pV (pOne (pFn 118 [])))), (pTm 7 (pV (pOne (pInt IntKind.i64)))), (pTm 8 (pV (pOne (pInt IntKind.i64))))] [(pBlk Bool.false (pFl FloatKind.f32))]) (fun hs => z4x (hvN (hGet hs 0)) (hvI (hGet hs 1)) (hvI (hGet hs 2)) (hvLn (hGet hs 3)))
def z3k (sn : Nat) (t7 : Int) (b0 : List Nat) : Option ((Int) ⊕ (Int × Bool)) → Option (Ex × St)
  | none => none
  | some (Sum.inl r) => some (Ex.ret, (St.mk [(4, (AV.v (TV.one (At.int IntKind.i64 r))))] [(Blk.mk Bool.false (Body.fl FloatKind.f32 b0))]))
  | some (Sum.inr r) => some ((Ex.exit 0), (St.mk [(0, (AV.v (TV.one (At.vw 0 0 sn 1)))), (1, (AV.v (TV.one (At.fn 118 [])))), (7, (AV.v (TV.one (At.int IntKind.i64 t7)))), (8, (AV.v (TV.one (At.int IntKind.i64 r.1)))), (9, (AV.v (TV.one (At.bool r.2))))] [(Blk.mk Bool.false (Body.fl FloatKind.f32 b0))]))
def z80 (sn : Nat) (t7 : Int) (b0 : List Nat) (x : Option ((Int) ⊕ (Int × Bool))) : LO := (LO.two (oL x) (LO.one Ex.ret (St.mk [(4, (AV.v (TV.one (At.int IntKind.i64 ((tL x).getD default)))))] [(Blk.mk Bool.false (Body.fl FloatKind.f32 b0))])) (LO.one (Ex.exit 0) (St.mk [(0, (AV.v (TV.one (At.vw 0 0 sn 1)))), (1, (AV.v (TV.one (At.fn 118 [])))), (7, (AV.v (TV.one (At.int IntKind.i64 t7)))), (8, (AV.v (TV.one (At.int IntKind.i64 ((tR x).getD default).1)))), (9, (AV.v (TV.one (At.bool ((tR x).getD default).2))))] [(Blk.mk Bool.false (Body.fl FloatKind.f32 b0))])))
theorem z8f (sn : Nat) (t7 : Int) (b0 : List Nat) : ∀ x : Option ((Int) ⊕ (Int × Bool)), x.isSome = true → (z3k sn t7 b0) x = some (pick (z80 sn t7 b0 x))
  | none, h => by cases h
  | some (Sum.inl r), _ => rfl
  | some (Sum.inr r), _ => rfl
theorem z8m (sn : Nat) (t7 : Int) (t8 : Int) (b0 : List Nat) (K : Ex → St → Option (Ex × St)) : evC (R := Ex × St) Γ3 (evFn Γ3 8 8) 99 1 fi99.nt fi99.live fi99.nl 8 (findL 2 (loopsIn fi99.code)) (St.mk [(0, (AV.v (TV.one (At.vw 0 0 sn 1)))), (1, (AV.v (TV.one (At.fn 118 [])))), (7, (AV.v (TV.one (At.int IntKind.i64 t7)))), (8, (AV.v (TV.one (At.int IntKind.i64 t8))))] [(Blk.mk Bool.false (Body.fl FloatKind.f32 b0))]) K = z2p sn t7 b0 t8 (fun t8' => K .normal (St.mk [(0, (AV.v (TV.one (At.vw 0 0 sn 1)))), (1, (AV.v (TV.one (At.fn 118 [])))), (7, (AV.v (TV.one (At.int IntKind.i64 t7)))), (8, (AV.v (TV.one (At.int IntKind.i64 t8'))))] [(Blk.mk Bool.false (Body.fl FloatKind.f32 b0))])) (fun c0_ => K Ex.ret (St.mk [(4, (AV.v (TV.one (At.int IntKind.i64 c0_))))] [(Blk.mk Bool.false (Body.fl FloatKind.f32 b0))])) (fun c0_ c1_ => K (Ex.exit 0) (St.mk [(0, (AV.v (TV.one (At.vw 0 0 sn 1)))), (1, (AV.v (TV.one (At.fn 118 [])))), (7, (AV.v (TV.one (At.int IntKind.i64 t7)))), (8, (AV.v (TV.one (At.int IntKind.i64 c0_)))), (9, (AV.v (TV.one (At.bool c1_))))] [(Blk.mk Bool.false (Body.fl FloatKind.f32 b0))])) := by kernel_rfl
theorem z8h (sn : Nat) (t7 : Int) (b0 : List Nat) : ∀ (n : Nat) (t8 : Int), iter 99 2 1 (evC (R := Ex × St) Γ3 (evFn Γ3 8 8) 99 1 fi99.nt fi99.live fi99.nl 8 (findL 2 (loopsIn fi99.code))) n (St.mk [(0, (AV.v (TV.one (At.vw 0 0 sn 1)))), (1, (AV.v (TV.one (At.fn 118 [])))), (7, (AV.v (TV.one (At.int IntKind.i64 t7)))), (8, (AV.v (TV.one (At.int IntKind.i64 t8))))] [(Blk.mk Bool.false (Body.fl FloatKind.f32 b0))]) (fun e st => some (e, st)) = (z3k sn t7 b0) (z18 sn t7 b0 n t8) := by
  intro n
  induction n with
  | zero => intros; rfl
  | succ n ih =>
    intro t8
    refine Eq.trans (iter_succ ..) (Eq.trans (z8m sn t7 t8 b0 (nextK 99 2 1 (evC (R := Ex × St) Γ3 (evFn Γ3 8 8) 99 1 fi99.nt fi99.live fi99.nl 8 (findL 2 (loopsIn fi99.code))) n (fun e st => some (e, st)))) (Eq.trans ?_ (z7g (z3k sn t7 b0) rfl sn t7 b0 t8 (fun t8' => z18 sn t7 b0 n t8') (fun c0_ => some (Sum.inl c0_)) (fun c0_ c1_ => some (Sum.inr (c0_, c1_))))))
    exact congrArg (fun kn_ => z2p sn t7 b0 t8 kn_ (fun c0_ => (z3k sn t7 b0) (some (Sum.inl c0_))) (fun c0_ c1_ => (z3k sn t7 b0) (some (Sum.inr (c0_, c1_))))) (funext fun t8' => ih t8')
theorem z02 : LoopOne Try.prog fnTab 99 2 z03 := lp_of (Γ := Γ3) tyTab_ok (FnL.ok fnTab_ok _ _) (LpL.ok lt3_ok) (SumL.ok tb3_ok _) mixed (fi := fi99) (by kernel_rfl) (by kernel_rfl) (by
  intro lo st out hp
  obtain ⟨hs, e1, e2, e3⟩ := lpT_inv hp
  clear hp
  obtain rfl : st = (St.mk [(0, (AV.v (TV.one (At.vw 0 0 (hvN (hGet hs 0)) 1)))), (1, (AV.v (TV.one (At.fn 118 [])))), (7, (AV.v (TV.one (At.int IntKind.i64 (hvI (hGet hs 1)))))), (8, (AV.v (TV.one (At.int IntKind.i64 (hvI (hGet hs 2))))))] [(Blk.mk Bool.false (Body.fl FloatKind.f32 (hvLn (hGet hs 3))))]) := e2.trans (by kernel_rfl)
  clear e2
  subst e1
  unfold z4x at e3
  injection e3 with h1 h2
  subst h2
  exact ⟨8, 8, big, Eq.trans (z8h (hvN (hGet hs 0)) (hvI (hGet hs 1)) (hvLn (hGet hs 3)) big (hvI (hGet hs 2))) (z8f (hvN (hGet hs 0)) (hvI (hGet hs 1)) (hvLn (hGet hs 3)) (z18 (hvN (hGet hs 0)) (hvI (hGet hs 1)) (hvLn (hGet hs 3)) big (hvI (hGet hs 2))) h1)⟩)
noncomputable def tb4 : List (Nat × (List PT → Option (Bool × AV × List Blk))) := [(125, z1b), (128, z0h), (134, z0r), (137, z1c), (18, z1k), (48, z16), (54, z1w), (61, z1h), (97, z1u), (109, z1j), (14, z1q), (51, z1r), (56, z25), (103, z20), (111, z26), (118, z10), (52, z1f), (119, z1g), (16, z1y), (57, z1o)]
noncomputable def lt4 : List ((Nat × Nat) × (Nat → St → Option (Bool × LO))) := [((52, 3), z0n), ((57, 4), z0s), ((62, 5), z28), ((99, 2), z03)]
noncomputable def Γ4 : Ctx := ⟨tyTab, fnTab, tblSum tb4, tblLp lt4⟩
theorem tb4_ok : SumL Try.prog tb4 := SumL.cons z0p (SumL.cons z0g (SumL.cons z0k (SumL.cons z0q (SumL.cons z0t (SumL.cons z0o (SumL.cons z14 (SumL.cons z0v (SumL.cons z15 (SumL.cons z0u (SumL.cons z12 (SumL.cons z11 (SumL.cons z1n (SumL.cons z19 (SumL.cons z1m (SumL.cons z0m (SumL.cons z0x (SumL.cons z0w (SumL.cons z1a (SumL.cons z13 (SumL.nil))))))))))))))))))))
theorem lt4_ok : LpL Try.prog fnTab lt4 := LpL.cons z0i (LpL.cons z0j (LpL.cons z1p (LpL.cons z02 (LpL.nil))))
noncomputable def z22 : List PT → Option (Bool × AV × List Blk)
  | [.agg [.row 1 q0c (.fl .f32 q0l), .row 1 q0e (.fl .f32 q0n), .row 1 q0h (.fl .f32 q0o)], .agg [.row 1 q0t (.fl .f32 q0y), .row 1 q0u (.fl .f32 q12), .row 1 q0v (.fl .f32 q11)]] => some ((z75 q0c q0l q0e q0n q0h q0o q0t q0y q0u q12 q0v q11), ((AV.v (TV.one (At.bool (z6n q0c q0l q0e q0n q0h q0o q0t q0y q0u q12 q0v q11)))), []))
  | _ => none
def zam (q0c : Nat) (q0l : List Nat) (q0e : Nat) (q0n : List Nat) (q0h : Nat) (q0o : List Nat) (q0t : Nat) (q0y : List Nat) (q0u : Nat) (q12 : List Nat) (q0v : Nat) (q11 : List Nat) : Option (Bool) → Option (AV × List Blk)
  | some r => some ((AV.v (TV.one (At.bool r))), [])
  | none => none
theorem zdf (q0c : Nat) (q0l : List Nat) (q0e : Nat) (q0n : List Nat) (q0h : Nat) (q0o : List Nat) (q0t : Nat) (q0y : List Nat) (q0u : Nat) (q12 : List Nat) (q0v : Nat) (q11 : List Nat) : evFn Γ4 8 8 19 (impTs 0 [.agg [.row 1 q0c (.fl .f32 q0l), .row 1 q0e (.fl .f32 q0n), .row 1 q0h (.fl .f32 q0o)], .agg [.row 1 q0t (.fl .f32 q0y), .row 1 q0u (.fl .f32 q12), .row 1 q0v (.fl .f32 q11)]]).1 (impTs 0 [.agg [.row 1 q0c (.fl .f32 q0l), .row 1 q0e (.fl .f32 q0n), .row 1 q0h (.fl .f32 q0o)], .agg [.row 1 q0t (.fl .f32 q0y), .row 1 q0u (.fl .f32 q12), .row 1 q0v (.fl .f32 q11)]]).2 (expo (impTs 0 [.agg [.row 1 q0c (.fl .f32 q0l), .row 1 q0e (.fl .f32 q0n), .row 1 q0h (.fl .f32 q0o)], .agg [.row 1 q0t (.fl .f32 q0y), .row 1 q0u (.fl .f32 q12), .row 1 q0v (.fl .f32 q11)]]).2.length) = z5w q0c q0l q0e q0n q0h q0o q0t q0y q0u q12 q0v q11 (fun c0_ => some ((AV.v (TV.one (At.bool c0_))), [])) := by kernel_rfl
theorem z1i : SumOne Try.prog 19 z22 := sum_of (Γ := Γ4) (fuel := 8) (d := 8) tyTab_ok (FnL.ok fnTab_ok _ _) (LpL.ok lt4_ok) (SumL.ok tb4_ok _) mixed (by
  intro pts v news hp hc
  clear hc
  unfold z22 at hp
  split at hp
  · rename_i q0c q0l q0e q0n q0h q0o q0t q0y q0u q12 q0v q11
    exact Eq.trans (Eq.trans (zdf q0c q0l q0e q0n q0h q0o q0t q0y q0u q12 q0v q11) (zbq (zam q0c q0l q0e q0n q0h q0o q0t q0y q0u q12 q0v q11) rfl q0c q0l q0e q0n q0h q0o q0t q0y q0u q12 q0v q11 (fun c0_ => some c0_))) (fin_out (o := (zam q0c q0l q0e q0n q0h q0o q0t q0y q0u q12 q0v q11)) (x := z5z q0c q0l q0e q0n q0h q0o q0t q0y q0u q12 q0v q11) (d := default) (V := fun r => ((AV.v (TV.one (At.bool r))), [])) (fun r => rfl) hp)
  · cases hp)
noncomputable def z2r : List PT → Option (Bool × AV × List Blk)
  | [.ptr [.row 1 q00 (.fl .f32 q01), .row 1 q05 (.fl .f32 q07), .row 1 q06 (.fl .f32 q08)]] => some ((z9y q00 q01 q05 q07 q06 q08), ((AV.v (TV.one (At.bool (z9w q00 q01 q05 q07 q06 q08)))), []))
  | _ => none
def zcf (q00 : Nat) (q01 : List Nat) (q05 : Nat) (q07 : List Nat) (q06 : Nat) (q08 : List Nat) : Option (Bool) → Option (AV × List Blk)
  | some r => some ((AV.v (TV.one (At.bool r))), [])
  | none => none
theorem ze3 (q00 : Nat) (q01 : List Nat) (q05 : Nat) (q07 : List Nat) (q06 : Nat) (q08 : List Nat) : evFn Γ4 8 8 62 (impTs 0 [.ptr [.row 1 q00 (.fl .f32 q01), .row 1 q05 (.fl .f32 q07), .row 1 q06 (.fl .f32 q08)]]).1 (impTs 0 [.ptr [.row 1 q00 (.fl .f32 q01), .row 1 q05 (.fl .f32 q07), .row 1 q06 (.fl .f32 q08)]]).2 (expo (impTs 0 [.ptr [.row 1 q00 (.fl .f32 q01), .row 1 q05 (.fl .f32 q07), .row 1 q06 (.fl .f32 q08)]]).2.length) = z8c q00 q01 q05 q07 q06 q08 (fun c0_ => some ((AV.v (TV.one (At.bool c0_))), [])) := by kernel_rfl
theorem z2g : SumOne Try.prog 62 z2r := sum_of (Γ := Γ4) (fuel := 8) (d := 8) tyTab_ok (FnL.ok fnTab_ok _ _) (LpL.ok lt4_ok) (SumL.ok tb4_ok _) mixed (by
  intro pts v news hp hc
  clear hc
  unfold z2r at hp
  split at hp
  · rename_i q00 q01 q05 q07 q06 q08
    exact Eq.trans (Eq.trans (ze3 q00 q01 q05 q07 q06 q08) (zd1 (zcf q00 q01 q05 q07 q06 q08) rfl q00 q01 q05 q07 q06 q08 (fun c0_ => some c0_))) (fin_out (o := (zcf q00 q01 q05 q07 q06 q08)) (x := z8g q00 q01 q05 q07 q06 q08) (d := default) (V := fun r => ((AV.v (TV.one (At.bool r))), [])) (fun r => rfl) hp)
  · cases hp)
noncomputable def z0a : List PT → Option (Bool × AV × List Blk)
  | [.one (.row 1 s_n (.fl .f32 s)), .fn 118 []] => some ((z3z s_n s), ((AV.v (TV.one (At.int IntKind.i64 (z3v s_n s)))), []))
  | _ => none
def z5r (s_n : Nat) (s : List Nat) : Option (Int) → Option (AV × List Blk)
  | some r => some ((AV.v (TV.one (At.int IntKind.i64 r))), [])
  | none => none
theorem z91 (s_n : Nat) (s : List Nat) : evFn Γ4 8 8 99 (impTs 0 [.one (.row 1 s_n (.fl .f32 s)), .fn 118 []]).1 (impTs 0 [.one (.row 1 s_n (.fl .f32 s)), .fn 118 []]).2 (expo (impTs 0 [.one (.row 1 s_n (.fl .f32 s)), .fn 118 []]).2.length) = z3d s_n s (fun c0_ => some ((AV.v (TV.one (At.int IntKind.i64 c0_))), [])) := by kernel_rfl
theorem z09 : SumOne Try.prog 99 z0a := sum_of (Γ := Γ4) (fuel := 8) (d := 8) tyTab_ok (FnL.ok fnTab_ok _ _) (LpL.ok lt4_ok) (SumL.ok tb4_ok _) mixed (by
  intro pts v news hp hc
  clear hc
  unfold z0a at hp
  split at hp
  · rename_i s_n s
    exact Eq.trans (Eq.trans (z91 s_n s) (z81 (z5r s_n s) rfl s_n s (fun c0_ => some c0_))) (fin_out (o := (z5r s_n s)) (x := z3c s_n s) (d := default) (V := fun r => ((AV.v (TV.one (At.int IntKind.i64 r))), [])) (fun r => rfl) hp)
  · cases hp)
noncomputable def z4z (sn : Nat) (t7 : Int) (t8 : Int) (b0 : List Nat) : Bool × LO := ((z3a sn t7 b0 t8), (LO.two (z32 sn t7 b0 t8) (LO.one Ex.ret (St.mk [(4, (AV.v (TV.one (At.int IntKind.i64 (z3o sn t7 b0 t8)))))] [(Blk.mk Bool.false (Body.fl FloatKind.f32 b0))])) (LO.one (Ex.exit 0) (St.mk [(0, (AV.v (TV.one (At.vw 0 0 sn 1)))), (1, (AV.v (TV.one (At.fn 119 [])))), (7, (AV.v (TV.one (At.int IntKind.i64 t7)))), (8, (AV.v (TV.one (At.int IntKind.i64 (z4d sn t7 b0 t8))))), (9, (AV.v (TV.one (At.bool (z4c sn t7 b0 t8)))))] [(Blk.mk Bool.false (Body.fl FloatKind.f32 b0))]))))
noncomputable def z05 : Nat → St → Option (Bool × LO) := lpT 1 (pSt [(pTm 0 (pV (pOne (pVw 0 (liN 0) 1)))), (pTm 1 (pV (pOne (pFn 119 [])))), (pTm 7 (pV (pOne (pInt IntKind.i64)))), (pTm 8 (pV (pOne (pInt IntKind.i64))))] [(pBlk Bool.false (pFl FloatKind.f32))]) (fun hs => z4z (hvN (hGet hs 0)) (hvI (hGet hs 1)) (hvI (hGet hs 2)) (hvLn (hGet hs 3)))
def z3l (sn : Nat) (t7 : Int) (b0 : List Nat) : Option ((Int) ⊕ (Int × Bool)) → Option (Ex × St)
  | none => none
  | some (Sum.inl r) => some (Ex.ret, (St.mk [(4, (AV.v (TV.one (At.int IntKind.i64 r))))] [(Blk.mk Bool.false (Body.fl FloatKind.f32 b0))]))
  | some (Sum.inr r) => some ((Ex.exit 0), (St.mk [(0, (AV.v (TV.one (At.vw 0 0 sn 1)))), (1, (AV.v (TV.one (At.fn 119 [])))), (7, (AV.v (TV.one (At.int IntKind.i64 t7)))), (8, (AV.v (TV.one (At.int IntKind.i64 r.1)))), (9, (AV.v (TV.one (At.bool r.2))))] [(Blk.mk Bool.false (Body.fl FloatKind.f32 b0))]))
def z8k (sn : Nat) (t7 : Int) (b0 : List Nat) (x : Option ((Int) ⊕ (Int × Bool))) : LO := (LO.two (oL x) (LO.one Ex.ret (St.mk [(4, (AV.v (TV.one (At.int IntKind.i64 ((tL x).getD default)))))] [(Blk.mk Bool.false (Body.fl FloatKind.f32 b0))])) (LO.one (Ex.exit 0) (St.mk [(0, (AV.v (TV.one (At.vw 0 0 sn 1)))), (1, (AV.v (TV.one (At.fn 119 [])))), (7, (AV.v (TV.one (At.int IntKind.i64 t7)))), (8, (AV.v (TV.one (At.int IntKind.i64 ((tR x).getD default).1)))), (9, (AV.v (TV.one (At.bool ((tR x).getD default).2))))] [(Blk.mk Bool.false (Body.fl FloatKind.f32 b0))])))
theorem z8p (sn : Nat) (t7 : Int) (b0 : List Nat) : ∀ x : Option ((Int) ⊕ (Int × Bool)), x.isSome = true → (z3l sn t7 b0) x = some (pick (z8k sn t7 b0 x))
  | none, h => by cases h
  | some (Sum.inl r), _ => rfl
  | some (Sum.inr r), _ => rfl
theorem z8q (sn : Nat) (t7 : Int) (t8 : Int) (b0 : List Nat) (K : Ex → St → Option (Ex × St)) : evC (R := Ex × St) Γ4 (evFn Γ4 8 8) 99 1 fi99.nt fi99.live fi99.nl 8 (findL 2 (loopsIn fi99.code)) (St.mk [(0, (AV.v (TV.one (At.vw 0 0 sn 1)))), (1, (AV.v (TV.one (At.fn 119 [])))), (7, (AV.v (TV.one (At.int IntKind.i64 t7)))), (8, (AV.v (TV.one (At.int IntKind.i64 t8))))] [(Blk.mk Bool.false (Body.fl FloatKind.f32 b0))]) K = z2q sn t7 b0 t8 (fun t8' => K .normal (St.mk [(0, (AV.v (TV.one (At.vw 0 0 sn 1)))), (1, (AV.v (TV.one (At.fn 119 [])))), (7, (AV.v (TV.one (At.int IntKind.i64 t7)))), (8, (AV.v (TV.one (At.int IntKind.i64 t8'))))] [(Blk.mk Bool.false (Body.fl FloatKind.f32 b0))])) (fun c0_ => K Ex.ret (St.mk [(4, (AV.v (TV.one (At.int IntKind.i64 c0_))))] [(Blk.mk Bool.false (Body.fl FloatKind.f32 b0))])) (fun c0_ c1_ => K (Ex.exit 0) (St.mk [(0, (AV.v (TV.one (At.vw 0 0 sn 1)))), (1, (AV.v (TV.one (At.fn 119 [])))), (7, (AV.v (TV.one (At.int IntKind.i64 t7)))), (8, (AV.v (TV.one (At.int IntKind.i64 c0_)))), (9, (AV.v (TV.one (At.bool c1_))))] [(Blk.mk Bool.false (Body.fl FloatKind.f32 b0))])) := by kernel_rfl
theorem z8o (sn : Nat) (t7 : Int) (b0 : List Nat) : ∀ (n : Nat) (t8 : Int), iter 99 2 1 (evC (R := Ex × St) Γ4 (evFn Γ4 8 8) 99 1 fi99.nt fi99.live fi99.nl 8 (findL 2 (loopsIn fi99.code))) n (St.mk [(0, (AV.v (TV.one (At.vw 0 0 sn 1)))), (1, (AV.v (TV.one (At.fn 119 [])))), (7, (AV.v (TV.one (At.int IntKind.i64 t7)))), (8, (AV.v (TV.one (At.int IntKind.i64 t8))))] [(Blk.mk Bool.false (Body.fl FloatKind.f32 b0))]) (fun e st => some (e, st)) = (z3l sn t7 b0) (z1e sn t7 b0 n t8) := by
  intro n
  induction n with
  | zero => intros; rfl
  | succ n ih =>
    intro t8
    refine Eq.trans (iter_succ ..) (Eq.trans (z8q sn t7 t8 b0 (nextK 99 2 1 (evC (R := Ex × St) Γ4 (evFn Γ4 8 8) 99 1 fi99.nt fi99.live fi99.nl 8 (findL 2 (loopsIn fi99.code))) n (fun e st => some (e, st)))) (Eq.trans ?_ (z7o (z3l sn t7 b0) rfl sn t7 b0 t8 (fun t8' => z1e sn t7 b0 n t8') (fun c0_ => some (Sum.inl c0_)) (fun c0_ c1_ => some (Sum.inr (c0_, c1_))))))
    exact congrArg (fun kn_ => z2q sn t7 b0 t8 kn_ (fun c0_ => (z3l sn t7 b0) (some (Sum.inl c0_))) (fun c0_ c1_ => (z3l sn t7 b0) (some (Sum.inr (c0_, c1_))))) (funext fun t8' => ih t8')
theorem z04 : LoopOne Try.prog fnTab 99 2 z05 := lp_of (Γ := Γ4) tyTab_ok (FnL.ok fnTab_ok _ _) (LpL.ok lt4_ok) (SumL.ok tb4_ok _) mixed (fi := fi99) (by kernel_rfl) (by kernel_rfl) (by
  intro lo st out hp
  obtain ⟨hs, e1, e2, e3⟩ := lpT_inv hp
  clear hp
  obtain rfl : st = (St.mk [(0, (AV.v (TV.one (At.vw 0 0 (hvN (hGet hs 0)) 1)))), (1, (AV.v (TV.one (At.fn 119 [])))), (7, (AV.v (TV.one (At.int IntKind.i64 (hvI (hGet hs 1)))))), (8, (AV.v (TV.one (At.int IntKind.i64 (hvI (hGet hs 2))))))] [(Blk.mk Bool.false (Body.fl FloatKind.f32 (hvLn (hGet hs 3))))]) := e2.trans (by kernel_rfl)
  clear e2
  subst e1
  unfold z4z at e3
  injection e3 with h1 h2
  subst h2
  exact ⟨8, 8, big, Eq.trans (z8o (hvN (hGet hs 0)) (hvI (hGet hs 1)) (hvLn (hGet hs 3)) big (hvI (hGet hs 2))) (z8p (hvN (hGet hs 0)) (hvI (hGet hs 1)) (hvLn (hGet hs 3)) (z1e (hvN (hGet hs 0)) (hvI (hGet hs 1)) (hvLn (hGet hs 3)) big (hvI (hGet hs 2))) h1)⟩)
noncomputable def tb5 : List (Nat × (List PT → Option (Bool × AV × List Blk))) := [(125, z1b), (128, z0h), (134, z0r), (137, z1c), (18, z1k), (48, z16), (54, z1w), (61, z1h), (97, z1u), (109, z1j), (14, z1q), (51, z1r), (56, z25), (103, z20), (111, z26), (118, z10), (52, z1f), (119, z1g), (16, z1y), (57, z1o), (19, z22), (62, z2r), (99, z0a)]
noncomputable def lt5 : List ((Nat × Nat) × (Nat → St → Option (Bool × LO))) := [((52, 3), z0n), ((57, 4), z0s), ((62, 5), z28), ((99, 2), z03), ((99, 2), z05)]
noncomputable def Γ5 : Ctx := ⟨tyTab, fnTab, tblSum tb5, tblLp lt5⟩
theorem tb5_ok : SumL Try.prog tb5 := SumL.cons z0p (SumL.cons z0g (SumL.cons z0k (SumL.cons z0q (SumL.cons z0t (SumL.cons z0o (SumL.cons z14 (SumL.cons z0v (SumL.cons z15 (SumL.cons z0u (SumL.cons z12 (SumL.cons z11 (SumL.cons z1n (SumL.cons z19 (SumL.cons z1m (SumL.cons z0m (SumL.cons z0x (SumL.cons z0w (SumL.cons z1a (SumL.cons z13 (SumL.cons z1i (SumL.cons z2g (SumL.cons z09 (SumL.nil)))))))))))))))))))))))
theorem lt5_ok : LpL Try.prog fnTab lt5 := LpL.cons z0i (LpL.cons z0j (LpL.cons z1p (LpL.cons z02 (LpL.cons z04 (LpL.nil)))))
noncomputable def z2n : List PT → Option (Bool × AV × List Blk)
  | [.ptr [.row 1 q09 (.fl .f32 q0i), .row 1 q0a (.fl .f32 q0k), .row 1 q0b (.fl .f32 q0m)], .one (.s (.flt .f32 q0r))] => some ((z9v q09 q0i q0a q0k q0b q0m q0r), ((AV.v (TV.one (At.bool (z9q q09 q0i q0a q0k q0b q0m q0r)))), []))
  | _ => none
def zc1 (q09 : Nat) (q0i : List Nat) (q0a : Nat) (q0k : List Nat) (q0b : Nat) (q0m : List Nat) (q0r : Nat) : Option (Bool) → Option (AV × List Blk)
  | some r => some ((AV.v (TV.one (At.bool r))), [])
  | none => none
theorem ze1 (q09 : Nat) (q0i : List Nat) (q0a : Nat) (q0k : List Nat) (q0b : Nat) (q0m : List Nat) (q0r : Nat) : evFn Γ5 8 8 49 (impTs 0 [.ptr [.row 1 q09 (.fl .f32 q0i), .row 1 q0a (.fl .f32 q0k), .row 1 q0b (.fl .f32 q0m)], .one (.s (.flt .f32 q0r))]).1 (impTs 0 [.ptr [.row 1 q09 (.fl .f32 q0i), .row 1 q0a (.fl .f32 q0k), .row 1 q0b (.fl .f32 q0m)], .one (.s (.flt .f32 q0r))]).2 (expo (impTs 0 [.ptr [.row 1 q09 (.fl .f32 q0i), .row 1 q0a (.fl .f32 q0k), .row 1 q0b (.fl .f32 q0m)], .one (.s (.flt .f32 q0r))]).2.length) = z7j q09 q0i q0a q0k q0b q0m q0r (fun c0_ => some ((AV.v (TV.one (At.bool c0_))), [])) := by kernel_rfl
theorem z2a : SumOne Try.prog 49 z2n := sum_of (Γ := Γ5) (fuel := 8) (d := 8) tyTab_ok (FnL.ok fnTab_ok _ _) (LpL.ok lt5_ok) (SumL.ok tb5_ok _) mixed (by
  intro pts v news hp hc
  clear hc
  unfold z2n at hp
  split at hp
  · rename_i q09 q0i q0a q0k q0b q0m q0r
    exact Eq.trans (Eq.trans (ze1 q09 q0i q0a q0k q0b q0m q0r) (zcq (zc1 q09 q0i q0a q0k q0b q0m q0r) rfl q09 q0i q0a q0k q0b q0m q0r (fun c0_ => some c0_))) (fin_out (o := (zc1 q09 q0i q0a q0k q0b q0m q0r)) (x := z7i q09 q0i q0a q0k q0b q0m q0r) (d := default) (V := fun r => ((AV.v (TV.one (At.bool r))), [])) (fun r => rfl) hp)
  · cases hp)
noncomputable def z0f : List PT → Option (Bool × AV × List Blk)
  | [.one (.row 1 s_n (.fl .f32 s)), .fn 119 []] => some ((z43 s_n s), ((AV.v (TV.one (At.int IntKind.i64 (z3y s_n s)))), []))
  | _ => none
def z5s (s_n : Nat) (s : List Nat) : Option (Int) → Option (AV × List Blk)
  | some r => some ((AV.v (TV.one (At.int IntKind.i64 r))), [])
  | none => none
theorem z93 (s_n : Nat) (s : List Nat) : evFn Γ5 8 8 99 (impTs 0 [.one (.row 1 s_n (.fl .f32 s)), .fn 119 []]).1 (impTs 0 [.one (.row 1 s_n (.fl .f32 s)), .fn 119 []]).2 (expo (impTs 0 [.one (.row 1 s_n (.fl .f32 s)), .fn 119 []]).2.length) = z3f s_n s (fun c0_ => some ((AV.v (TV.one (At.int IntKind.i64 c0_))), [])) := by kernel_rfl
theorem z0e : SumOne Try.prog 99 z0f := sum_of (Γ := Γ5) (fuel := 8) (d := 8) tyTab_ok (FnL.ok fnTab_ok _ _) (LpL.ok lt5_ok) (SumL.ok tb5_ok _) mixed (by
  intro pts v news hp hc
  clear hc
  unfold z0f at hp
  split at hp
  · rename_i s_n s
    exact Eq.trans (Eq.trans (z93 s_n s) (z8i (z5s s_n s) rfl s_n s (fun c0_ => some c0_))) (fin_out (o := (z5s s_n s)) (x := z3g s_n s) (d := default) (V := fun r => ((AV.v (TV.one (At.int IntKind.i64 r))), [])) (fun r => rfl) hp)
  · cases hp)
noncomputable def z2t : List PT → Option (Bool × AV × List Blk)
  | [.one (.s (.flt .f64 x))] => some ((z9h x), ((AV.v (TV.one (At.flt FloatKind.f64 (z4y x)))), []))
  | _ => none
def zcb (x : Nat) : Option (Nat) → Option (AV × List Blk)
  | some r => some ((AV.v (TV.one (At.flt FloatKind.f64 r))), [])
  | none => none
theorem ze2 (x : Nat) : evFn Γ5 8 8 116 (impTs 0 [.one (.s (.flt .f64 x))]).1 (impTs 0 [.one (.s (.flt .f64 x))]).2 (expo (impTs 0 [.one (.s (.flt .f64 x))]).2.length) = z8d x (fun c0_ => some ((AV.v (TV.one (At.flt FloatKind.f64 c0_))), [])) := by kernel_rfl
theorem z2h : SumOne Try.prog 116 z2t := sum_of (Γ := Γ5) (fuel := 8) (d := 8) tyTab_ok (FnL.ok fnTab_ok _ _) (LpL.ok lt5_ok) (SumL.ok tb5_ok _) mixed (by
  intro pts v news hp hc
  clear hc
  unfold z2t at hp
  split at hp
  · rename_i x
    exact Eq.trans (Eq.trans (ze2 x) (zdd (zcb x) rfl x (fun c0_ => some c0_))) (fin_out (o := (zcb x)) (x := z8e x) (d := default) (V := fun r => ((AV.v (TV.one (At.flt FloatKind.f64 r))), [])) (fun r => rfl) hp)
  · cases hp)
noncomputable def tb6 : List (Nat × (List PT → Option (Bool × AV × List Blk))) := [(125, z1b), (128, z0h), (134, z0r), (137, z1c), (18, z1k), (48, z16), (54, z1w), (61, z1h), (97, z1u), (109, z1j), (14, z1q), (51, z1r), (56, z25), (103, z20), (111, z26), (118, z10), (52, z1f), (119, z1g), (16, z1y), (57, z1o), (19, z22), (62, z2r), (99, z0a), (49, z2n), (99, z0f), (116, z2t)]
noncomputable def lt6 : List ((Nat × Nat) × (Nat → St → Option (Bool × LO))) := [((52, 3), z0n), ((57, 4), z0s), ((62, 5), z28), ((99, 2), z03), ((99, 2), z05)]
noncomputable def Γ6 : Ctx := ⟨tyTab, fnTab, tblSum tb6, tblLp lt6⟩
theorem tb6_ok : SumL Try.prog tb6 := SumL.cons z0p (SumL.cons z0g (SumL.cons z0k (SumL.cons z0q (SumL.cons z0t (SumL.cons z0o (SumL.cons z14 (SumL.cons z0v (SumL.cons z15 (SumL.cons z0u (SumL.cons z12 (SumL.cons z11 (SumL.cons z1n (SumL.cons z19 (SumL.cons z1m (SumL.cons z0m (SumL.cons z0x (SumL.cons z0w (SumL.cons z1a (SumL.cons z13 (SumL.cons z1i (SumL.cons z2g (SumL.cons z09 (SumL.cons z2a (SumL.cons z0e (SumL.cons z2h (SumL.nil))))))))))))))))))))))))))
theorem lt6_ok : LpL Try.prog fnTab lt6 := LpL.cons z0i (LpL.cons z0j (LpL.cons z1p (LpL.cons z02 (LpL.cons z04 (LpL.nil)))))
noncomputable def z2l : List PT → Option (Bool × AV × List Blk)
  | [.one (.s (.flt .f32 x))] => some ((z9l x), ((AV.v (TV.one (At.flt FloatKind.f32 (z01 x)))), []))
  | _ => none
def zbf (x : Nat) : Option (Nat) → Option (AV × List Blk)
  | some r => some ((AV.v (TV.one (At.flt FloatKind.f32 r))), [])
  | none => none
theorem zdz (x : Nat) : evFn Γ6 8 8 94 (impTs 0 [.one (.s (.flt .f32 x))]).1 (impTs 0 [.one (.s (.flt .f32 x))]).2 (expo (impTs 0 [.one (.s (.flt .f32 x))]).2.length) = z6z x (fun c0_ => some ((AV.v (TV.one (At.flt FloatKind.f32 c0_))), [])) := by kernel_rfl
theorem z29 : SumOne Try.prog 94 z2l := sum_of (Γ := Γ6) (fuel := 8) (d := 8) tyTab_ok (FnL.ok fnTab_ok _ _) (LpL.ok lt6_ok) (SumL.ok tb6_ok _) mixed (by
  intro pts v news hp hc
  clear hc
  unfold z2l at hp
  split at hp
  · rename_i x
    exact Eq.trans (Eq.trans (zdz x) (zci (zbf x) rfl x (fun c0_ => some c0_))) (fin_out (o := (zbf x)) (x := z6x x) (d := default) (V := fun r => ((AV.v (TV.one (At.flt FloatKind.f32 r))), [])) (fun r => rfl) hp)
  · cases hp)
noncomputable def z27 : List PT → Option (Bool × AV × List Blk)
  | [.one (.s (.flt .f32 x))] => some ((z8s x), ((AV.v (TV.one (At.flt FloatKind.f32 (z2w x)))), []))
  | _ => none
def zao (x : Nat) : Option (Nat) → Option (AV × List Blk)
  | some r => some ((AV.v (TV.one (At.flt FloatKind.f32 r))), [])
  | none => none
theorem zd6 (x : Nat) : evFn Γ6 8 8 98 (impTs 0 [.one (.s (.flt .f32 x))]).1 (impTs 0 [.one (.s (.flt .f32 x))]).2 (expo (impTs 0 [.one (.s (.flt .f32 x))]).2.length) = z5y x (fun c0_ => some ((AV.v (TV.one (At.flt FloatKind.f32 c0_))), [])) := by kernel_rfl
theorem z1v : SumOne Try.prog 98 z27 := sum_of (Γ := Γ6) (fuel := 8) (d := 8) tyTab_ok (FnL.ok fnTab_ok _ _) (LpL.ok lt6_ok) (SumL.ok tb6_ok _) mixed (by
  intro pts v news hp hc
  clear hc
  unfold z27 at hp
  split at hp
  · rename_i x
    exact Eq.trans (Eq.trans (zd6 x) (zbl (zao x) rfl x (fun c0_ => some c0_))) (fin_out (o := (zao x)) (x := z60 x) (d := default) (V := fun r => ((AV.v (TV.one (At.flt FloatKind.f32 r))), [])) (fun r => rfl) hp)
  · cases hp)
noncomputable def z07 : List PT → Option (Bool × AV × List Blk)
  | [.one (.row 1 s_n (.fl .f32 s)), .fn 118 []] => some ((z3s s_n s), ((AV.v (TV.one (At.bool (z3q s_n s)))), []))
  | _ => none
def z59 (s_n : Nat) (s : List Nat) : Option (Bool) → Option (AV × List Blk)
  | some r => some ((AV.v (TV.one (At.bool r))), [])
  | none => none
theorem z8b (s_n : Nat) (s : List Nat) : evFn Γ6 8 8 117 (impTs 0 [.one (.row 1 s_n (.fl .f32 s)), .fn 118 []]).1 (impTs 0 [.one (.row 1 s_n (.fl .f32 s)), .fn 118 []]).2 (expo (impTs 0 [.one (.row 1 s_n (.fl .f32 s)), .fn 118 []]).2.length) = z31 s_n s (fun c0_ => some ((AV.v (TV.one (At.bool c0_))), [])) := by kernel_rfl
theorem z06 : SumOne Try.prog 117 z07 := sum_of (Γ := Γ6) (fuel := 8) (d := 8) tyTab_ok (FnL.ok fnTab_ok _ _) (LpL.ok lt6_ok) (SumL.ok tb6_ok _) mixed (by
  intro pts v news hp hc
  clear hc
  unfold z07 at hp
  split at hp
  · rename_i s_n s
    exact Eq.trans (Eq.trans (z8b s_n s) (z7e (z59 s_n s) rfl s_n s (fun c0_ => some c0_))) (fin_out (o := (z59 s_n s)) (x := z33 s_n s) (d := default) (V := fun r => ((AV.v (TV.one (At.bool r))), [])) (fun r => rfl) hp)
  · cases hp)
noncomputable def z0c : List PT → Option (Bool × AV × List Blk)
  | [.one (.row 1 s_n (.fl .f32 s)), .fn 119 []] => some ((z3u s_n s), ((AV.v (TV.one (At.bool (z3r s_n s)))), []))
  | _ => none
def z5a (s_n : Nat) (s : List Nat) : Option (Bool) → Option (AV × List Blk)
  | some r => some ((AV.v (TV.one (At.bool r))), [])
  | none => none
theorem z8n (s_n : Nat) (s : List Nat) : evFn Γ6 8 8 117 (impTs 0 [.one (.row 1 s_n (.fl .f32 s)), .fn 119 []]).1 (impTs 0 [.one (.row 1 s_n (.fl .f32 s)), .fn 119 []]).2 (expo (impTs 0 [.one (.row 1 s_n (.fl .f32 s)), .fn 119 []]).2.length) = z39 s_n s (fun c0_ => some ((AV.v (TV.one (At.bool c0_))), [])) := by kernel_rfl
theorem z0b : SumOne Try.prog 117 z0c := sum_of (Γ := Γ6) (fuel := 8) (d := 8) tyTab_ok (FnL.ok fnTab_ok _ _) (LpL.ok lt6_ok) (SumL.ok tb6_ok _) mixed (by
  intro pts v news hp hc
  clear hc
  unfold z0c at hp
  split at hp
  · rename_i s_n s
    exact Eq.trans (Eq.trans (z8n s_n s) (z7s (z5a s_n s) rfl s_n s (fun c0_ => some c0_))) (fin_out (o := (z5a s_n s)) (x := z3b s_n s) (d := default) (V := fun r => ((AV.v (TV.one (At.bool r))), [])) (fun r => rfl) hp)
  · cases hp)
noncomputable def tb7 : List (Nat × (List PT → Option (Bool × AV × List Blk))) := [(125, z1b), (128, z0h), (134, z0r), (137, z1c), (18, z1k), (48, z16), (54, z1w), (61, z1h), (97, z1u), (109, z1j), (14, z1q), (51, z1r), (56, z25), (103, z20), (111, z26), (118, z10), (52, z1f), (119, z1g), (16, z1y), (57, z1o), (19, z22), (62, z2r), (99, z0a), (49, z2n), (99, z0f), (116, z2t), (94, z2l), (98, z27), (117, z07), (117, z0c)]
noncomputable def lt7 : List ((Nat × Nat) × (Nat → St → Option (Bool × LO))) := [((52, 3), z0n), ((57, 4), z0s), ((62, 5), z28), ((99, 2), z03), ((99, 2), z05)]
noncomputable def Γ7 : Ctx := ⟨tyTab, fnTab, tblSum tb7, tblLp lt7⟩
theorem tb7_ok : SumL Try.prog tb7 := SumL.cons z0p (SumL.cons z0g (SumL.cons z0k (SumL.cons z0q (SumL.cons z0t (SumL.cons z0o (SumL.cons z14 (SumL.cons z0v (SumL.cons z15 (SumL.cons z0u (SumL.cons z12 (SumL.cons z11 (SumL.cons z1n (SumL.cons z19 (SumL.cons z1m (SumL.cons z0m (SumL.cons z0x (SumL.cons z0w (SumL.cons z1a (SumL.cons z13 (SumL.cons z1i (SumL.cons z2g (SumL.cons z09 (SumL.cons z2a (SumL.cons z0e (SumL.cons z2h (SumL.cons z29 (SumL.cons z1v (SumL.cons z06 (SumL.cons z0b (SumL.nil))))))))))))))))))))))))))))))
theorem lt7_ok : LpL Try.prog fnTab lt7 := LpL.cons z0i (LpL.cons z0j (LpL.cons z1p (LpL.cons z02 (LpL.cons z04 (LpL.nil)))))
noncomputable def z2b : List PT → Option (Bool × AV × List Blk)
  | [.one (.row 1 q0s (.fl .f32 q0x))] => some ((z8y q0s q0x), ((AV.v (TV.one (At.bool (z8a q0s q0x)))), []))
  | _ => none
def zaq (q0s : Nat) (q0x : List Nat) : Option (Bool) → Option (AV × List Blk)
  | some r => some ((AV.v (TV.one (At.bool r))), [])
  | none => none
theorem zda (q0s : Nat) (q0x : List Nat) : evFn Γ7 8 8 95 (impTs 0 [.one (.row 1 q0s (.fl .f32 q0x))]).1 (impTs 0 [.one (.row 1 q0s (.fl .f32 q0x))]).2 (expo (impTs 0 [.one (.row 1 q0s (.fl .f32 q0x))]).2.length) = z67 q0s q0x (fun c0_ => some ((AV.v (TV.one (At.bool c0_))), [])) := by kernel_rfl
theorem z21 : SumOne Try.prog 95 z2b := sum_of (Γ := Γ7) (fuel := 8) (d := 8) tyTab_ok (FnL.ok fnTab_ok _ _) (LpL.ok lt7_ok) (SumL.ok tb7_ok _) mixed (by
  intro pts v news hp hc
  clear hc
  unfold z2b at hp
  split at hp
  · rename_i q0s q0x
    exact Eq.trans (Eq.trans (zda q0s q0x) (zbk (zaq q0s q0x) rfl q0s q0x (fun c0_ => some c0_))) (fin_out (o := (zaq q0s q0x)) (x := z66 q0s q0x) (d := default) (V := fun r => ((AV.v (TV.one (At.bool r))), [])) (fun r => rfl) hp)
  · cases hp)
noncomputable def z2i : List PT → Option (Bool × AV × List Blk)
  | [.one (.row 1 q0s (.fl .f32 q0x))] => some ((z9b q0s q0x), ((AV.v (TV.one (At.bool (z8x q0s q0x)))), []))
  | _ => none
def zax (q0s : Nat) (q0x : List Nat) : Option (Bool) → Option (AV × List Blk)
  | some r => some ((AV.v (TV.one (At.bool r))), [])
  | none => none
theorem zdp (q0s : Nat) (q0x : List Nat) : evFn Γ7 8 8 96 (impTs 0 [.one (.row 1 q0s (.fl .f32 q0x))]).1 (impTs 0 [.one (.row 1 q0s (.fl .f32 q0x))]).2 (expo (impTs 0 [.one (.row 1 q0s (.fl .f32 q0x))]).2.length) = z6c q0s q0x (fun c0_ => some ((AV.v (TV.one (At.bool c0_))), [])) := by kernel_rfl
theorem z24 : SumOne Try.prog 96 z2i := sum_of (Γ := Γ7) (fuel := 8) (d := 8) tyTab_ok (FnL.ok fnTab_ok _ _) (LpL.ok lt7_ok) (SumL.ok tb7_ok _) mixed (by
  intro pts v news hp hc
  clear hc
  unfold z2i at hp
  split at hp
  · rename_i q0s q0x
    exact Eq.trans (Eq.trans (zdp q0s q0x) (zc4 (zax q0s q0x) rfl q0s q0x (fun c0_ => some c0_))) (fin_out (o := (zax q0s q0x)) (x := z6j q0s q0x) (d := default) (V := fun r => ((AV.v (TV.one (At.bool r))), [])) (fun r => rfl) hp)
  · cases hp)
noncomputable def tb8 : List (Nat × (List PT → Option (Bool × AV × List Blk))) := [(125, z1b), (128, z0h), (134, z0r), (137, z1c), (18, z1k), (48, z16), (54, z1w), (61, z1h), (97, z1u), (109, z1j), (14, z1q), (51, z1r), (56, z25), (103, z20), (111, z26), (118, z10), (52, z1f), (119, z1g), (16, z1y), (57, z1o), (19, z22), (62, z2r), (99, z0a), (49, z2n), (99, z0f), (116, z2t), (94, z2l), (98, z27), (117, z07), (117, z0c), (95, z2b), (96, z2i)]
noncomputable def lt8 : List ((Nat × Nat) × (Nat → St → Option (Bool × LO))) := [((52, 3), z0n), ((57, 4), z0s), ((62, 5), z28), ((99, 2), z03), ((99, 2), z05)]
noncomputable def Γ8 : Ctx := ⟨tyTab, fnTab, tblSum tb8, tblLp lt8⟩
theorem tb8_ok : SumL Try.prog tb8 := SumL.cons z0p (SumL.cons z0g (SumL.cons z0k (SumL.cons z0q (SumL.cons z0t (SumL.cons z0o (SumL.cons z14 (SumL.cons z0v (SumL.cons z15 (SumL.cons z0u (SumL.cons z12 (SumL.cons z11 (SumL.cons z1n (SumL.cons z19 (SumL.cons z1m (SumL.cons z0m (SumL.cons z0x (SumL.cons z0w (SumL.cons z1a (SumL.cons z13 (SumL.cons z1i (SumL.cons z2g (SumL.cons z09 (SumL.cons z2a (SumL.cons z0e (SumL.cons z2h (SumL.cons z29 (SumL.cons z1v (SumL.cons z06 (SumL.cons z0b (SumL.cons z21 (SumL.cons z24 (SumL.nil))))))))))))))))))))))))))))))))
theorem lt8_ok : LpL Try.prog fnTab lt8 := LpL.cons z0i (LpL.cons z0j (LpL.cons z1p (LpL.cons z02 (LpL.cons z04 (LpL.nil)))))
noncomputable def za3 (t8 : Nat) (t9 : Int) (t10 : Int) (b0 : List Nat) (b1 : List Nat) (b2 : List Nat) (q0j : Nat) (q0q : Nat) (q0p : Nat) : Bool × LO := ((z85 t8 b0 q0j t10), (LO.one (Ex.exit 0) (St.mk [(0, (AV.v (TV.one (At.ptr 3 0 3)))), (8, (AV.v (TV.one (At.flt FloatKind.f32 t8)))), (9, (AV.v (TV.one (At.int IntKind.i64 t9)))), (10, (AV.v (TV.one (At.int IntKind.i64 (z00 t8 b0 q0j t10))))), (36, (AV.v (TV.one (At.bool (z8u t8 b0 q0j t10)))))] [(Blk.mk Bool.false (Body.fl FloatKind.f32 b0)), (Blk.mk Bool.false (Body.fl FloatKind.f32 b1)), (Blk.mk Bool.false (Body.fl FloatKind.f32 b2)), (Blk.mk Bool.false (Body.cells [(At.vw 0 0 q0j 1), (At.vw 1 0 q0q 1), (At.vw 2 0 q0p 1)]))])))
noncomputable def z2d : Nat → St → Option (Bool × LO) := lpT 4 (pSt [(pTm 0 (pV (pOne (pPtr 3 (liN 0) 3)))), (pTm 8 (pV (pOne (pFlt FloatKind.f32)))), (pTm 9 (pV (pOne (pInt IntKind.i64)))), (pTm 10 (pV (pOne (pInt IntKind.i64))))] [(pBlk Bool.false (pFl FloatKind.f32)), (pBlk Bool.false (pFl FloatKind.f32)), (pBlk Bool.false (pFl FloatKind.f32)), (pBlk Bool.false (pCells [(pVw 0 (liN 0) 1), (pVw 1 (liN 0) 1), (pVw 2 (liN 0) 1)]))]) (fun hs => za3 (hvN (hGet hs 0)) (hvI (hGet hs 1)) (hvI (hGet hs 2)) (hvLn (hGet hs 3)) (hvLn (hGet hs 4)) (hvLn (hGet hs 5)) (hvN (hGet hs 6)) (hvN (hGet hs 7)) (hvN (hGet hs 8)))
def z89 (t8 : Nat) (t9 : Int) (b0 : List Nat) (b1 : List Nat) (b2 : List Nat) (q0j : Nat) (q0q : Nat) (q0p : Nat) : Option ((Int × Bool)) → Option (Ex × St)
  | none => none
  | some r => some ((Ex.exit 0), (St.mk [(0, (AV.v (TV.one (At.ptr 3 0 3)))), (8, (AV.v (TV.one (At.flt FloatKind.f32 t8)))), (9, (AV.v (TV.one (At.int IntKind.i64 t9)))), (10, (AV.v (TV.one (At.int IntKind.i64 r.1)))), (36, (AV.v (TV.one (At.bool r.2))))] [(Blk.mk Bool.false (Body.fl FloatKind.f32 b0)), (Blk.mk Bool.false (Body.fl FloatKind.f32 b1)), (Blk.mk Bool.false (Body.fl FloatKind.f32 b2)), (Blk.mk Bool.false (Body.cells [(At.vw 0 0 q0j 1), (At.vw 1 0 q0q 1), (At.vw 2 0 q0p 1)]))]))
def zc9 (t8 : Nat) (t9 : Int) (b0 : List Nat) (b1 : List Nat) (b2 : List Nat) (q0j : Nat) (q0q : Nat) (q0p : Nat) (x : Option ((Int × Bool))) : LO := (LO.one (Ex.exit 0) (St.mk [(0, (AV.v (TV.one (At.ptr 3 0 3)))), (8, (AV.v (TV.one (At.flt FloatKind.f32 t8)))), (9, (AV.v (TV.one (At.int IntKind.i64 t9)))), (10, (AV.v (TV.one (At.int IntKind.i64 (x.getD default).1)))), (36, (AV.v (TV.one (At.bool (x.getD default).2))))] [(Blk.mk Bool.false (Body.fl FloatKind.f32 b0)), (Blk.mk Bool.false (Body.fl FloatKind.f32 b1)), (Blk.mk Bool.false (Body.fl FloatKind.f32 b2)), (Blk.mk Bool.false (Body.cells [(At.vw 0 0 q0j 1), (At.vw 1 0 q0q 1), (At.vw 2 0 q0p 1)]))]))
theorem zcn (t8 : Nat) (t9 : Int) (b0 : List Nat) (b1 : List Nat) (b2 : List Nat) (q0j : Nat) (q0q : Nat) (q0p : Nat) : ∀ x : Option ((Int × Bool)), x.isSome = true → (z89 t8 t9 b0 b1 b2 q0j q0q q0p) x = some (pick (zc9 t8 t9 b0 b1 b2 q0j q0q q0p x))
  | none, h => by cases h
  | some r, _ => rfl
theorem zco (t8 : Nat) (t9 : Int) (t10 : Int) (b0 : List Nat) (b1 : List Nat) (b2 : List Nat) (q0j : Nat) (q0q : Nat) (q0p : Nat) (K : Ex → St → Option (Ex × St)) : evC (R := Ex × St) Γ8 (evFn Γ8 8 8) 50 4 fi50.nt fi50.live fi50.nl 8 (findL 4 (loopsIn fi50.code)) (St.mk [(0, (AV.v (TV.one (At.ptr 3 0 3)))), (8, (AV.v (TV.one (At.flt FloatKind.f32 t8)))), (9, (AV.v (TV.one (At.int IntKind.i64 t9)))), (10, (AV.v (TV.one (At.int IntKind.i64 t10))))] [(Blk.mk Bool.false (Body.fl FloatKind.f32 b0)), (Blk.mk Bool.false (Body.fl FloatKind.f32 b1)), (Blk.mk Bool.false (Body.fl FloatKind.f32 b2)), (Blk.mk Bool.false (Body.cells [(At.vw 0 0 q0j 1), (At.vw 1 0 q0q 1), (At.vw 2 0 q0p 1)]))]) K = z4f t8 b0 q0j t10 (fun t10' => K .normal (St.mk [(0, (AV.v (TV.one (At.ptr 3 0 3)))), (8, (AV.v (TV.one (At.flt FloatKind.f32 t8)))), (9, (AV.v (TV.one (At.int IntKind.i64 t9)))), (10, (AV.v (TV.one (At.int IntKind.i64 t10'))))] [(Blk.mk Bool.false (Body.fl FloatKind.f32 b0)), (Blk.mk Bool.false (Body.fl FloatKind.f32 b1)), (Blk.mk Bool.false (Body.fl FloatKind.f32 b2)), (Blk.mk Bool.false (Body.cells [(At.vw 0 0 q0j 1), (At.vw 1 0 q0q 1), (At.vw 2 0 q0p 1)]))])) (fun c0_ c1_ => K (Ex.exit 0) (St.mk [(0, (AV.v (TV.one (At.ptr 3 0 3)))), (8, (AV.v (TV.one (At.flt FloatKind.f32 t8)))), (9, (AV.v (TV.one (At.int IntKind.i64 t9)))), (10, (AV.v (TV.one (At.int IntKind.i64 c0_)))), (36, (AV.v (TV.one (At.bool c1_))))] [(Blk.mk Bool.false (Body.fl FloatKind.f32 b0)), (Blk.mk Bool.false (Body.fl FloatKind.f32 b1)), (Blk.mk Bool.false (Body.fl FloatKind.f32 b2)), (Blk.mk Bool.false (Body.cells [(At.vw 0 0 q0j 1), (At.vw 1 0 q0q 1), (At.vw 2 0 q0p 1)]))])) := by kernel_rfl
theorem zcz (t8 : Nat) (t9 : Int) (b0 : List Nat) (b1 : List Nat) (b2 : List Nat) (q0j : Nat) (q0q : Nat) (q0p : Nat) : ∀ (n : Nat) (t10 : Int), iter 50 4 4 (evC (R := Ex × St) Γ8 (evFn Γ8 8 8) 50 4 fi50.nt fi50.live fi50.nl 8 (findL 4 (loopsIn fi50.code))) n (St.mk [(0, (AV.v (TV.one (At.ptr 3 0 3)))), (8, (AV.v (TV.one (At.flt FloatKind.f32 t8)))), (9, (AV.v (TV.one (At.int IntKind.i64 t9)))), (10, (AV.v (TV.one (At.int IntKind.i64 t10))))] [(Blk.mk Bool.false (Body.fl FloatKind.f32 b0)), (Blk.mk Bool.false (Body.fl FloatKind.f32 b1)), (Blk.mk Bool.false (Body.fl FloatKind.f32 b2)), (Blk.mk Bool.false (Body.cells [(At.vw 0 0 q0j 1), (At.vw 1 0 q0q 1), (At.vw 2 0 q0p 1)]))]) (fun e st => some (e, st)) = (z89 t8 t9 b0 b1 b2 q0j q0q q0p) (z3n t8 b0 q0j n t10) := by
  intro n
  induction n with
  | zero => intros; rfl
  | succ n ih =>
    intro t10
    refine Eq.trans (iter_succ ..) (Eq.trans (zco t8 t9 t10 b0 b1 b2 q0j q0q q0p (nextK 50 4 4 (evC (R := Ex × St) Γ8 (evFn Γ8 8 8) 50 4 fi50.nt fi50.live fi50.nl 8 (findL 4 (loopsIn fi50.code))) n (fun e st => some (e, st)))) (Eq.trans ?_ (zb8 (z89 t8 t9 b0 b1 b2 q0j q0q q0p) rfl t8 b0 q0j t10 (fun t10' => z3n t8 b0 q0j n t10') (fun c0_ c1_ => some (c0_, c1_)))))
    exact congrArg (fun kn_ => z4f t8 b0 q0j t10 kn_ (fun c0_ c1_ => (z89 t8 t9 b0 b1 b2 q0j q0q q0p) (some (c0_, c1_)))) (funext fun t10' => ih t10')
theorem z1z : LoopOne Try.prog fnTab 50 4 z2d := lp_of (Γ := Γ8) tyTab_ok (FnL.ok fnTab_ok _ _) (LpL.ok lt8_ok) (SumL.ok tb8_ok _) mixed (fi := fi50) (by kernel_rfl) (by kernel_rfl) (by
  intro lo st out hp
  obtain ⟨hs, e1, e2, e3⟩ := lpT_inv hp
  clear hp
  obtain rfl : st = (St.mk [(0, (AV.v (TV.one (At.ptr 3 0 3)))), (8, (AV.v (TV.one (At.flt FloatKind.f32 (hvN (hGet hs 0)))))), (9, (AV.v (TV.one (At.int IntKind.i64 (hvI (hGet hs 1)))))), (10, (AV.v (TV.one (At.int IntKind.i64 (hvI (hGet hs 2))))))] [(Blk.mk Bool.false (Body.fl FloatKind.f32 (hvLn (hGet hs 3)))), (Blk.mk Bool.false (Body.fl FloatKind.f32 (hvLn (hGet hs 4)))), (Blk.mk Bool.false (Body.fl FloatKind.f32 (hvLn (hGet hs 5)))), (Blk.mk Bool.false (Body.cells [(At.vw 0 0 (hvN (hGet hs 6)) 1), (At.vw 1 0 (hvN (hGet hs 7)) 1), (At.vw 2 0 (hvN (hGet hs 8)) 1)]))]) := e2.trans (by kernel_rfl)
  clear e2
  subst e1
  unfold za3 at e3
  injection e3 with h1 h2
  subst h2
  exact ⟨8, 8, big, Eq.trans (zcz (hvN (hGet hs 0)) (hvI (hGet hs 1)) (hvLn (hGet hs 3)) (hvLn (hGet hs 4)) (hvLn (hGet hs 5)) (hvN (hGet hs 6)) (hvN (hGet hs 7)) (hvN (hGet hs 8)) big (hvI (hGet hs 2))) (zcn (hvN (hGet hs 0)) (hvI (hGet hs 1)) (hvLn (hGet hs 3)) (hvLn (hGet hs 4)) (hvLn (hGet hs 5)) (hvN (hGet hs 6)) (hvN (hGet hs 7)) (hvN (hGet hs 8)) (z3n (hvN (hGet hs 0)) (hvLn (hGet hs 3)) (hvN (hGet hs 6)) big (hvI (hGet hs 2))) h1)⟩)
noncomputable def z4o (sn : Nat) (t7 : Int) (t8 : Int) (b0 : List Nat) (b1 : List Nat) (b2 : List Nat) (q0j : Nat) (q0q : Nat) (q0p : Nat) (b4 : Nat) : Bool × LO := ((z2y sn t7 b0 b4 t8), (LO.two (z2x sn t7 b0 b4 t8) (LO.one Ex.ret (St.mk [(4, (AV.v (TV.one (At.int IntKind.i64 (z1s sn t7 b0 b4 t8)))))] [(Blk.mk Bool.false (Body.fl FloatKind.f32 b0)), (Blk.mk Bool.false (Body.fl FloatKind.f32 b1)), (Blk.mk Bool.false (Body.fl FloatKind.f32 b2)), (Blk.mk Bool.true (Body.cells [(At.vw 0 0 q0j 1), (At.vw 1 0 q0q 1), (At.vw 2 0 q0p 1)])), (Blk.mk Bool.true (Body.cells [(At.flt FloatKind.f32 b4)]))])) (LO.one (Ex.exit 0) (St.mk [(0, (AV.v (TV.one (At.vw 0 0 sn 1)))), (1, (AV.v (TV.one (At.fn 100 [(At.ptr 4 0 1)])))), (7, (AV.v (TV.one (At.int IntKind.i64 t7)))), (8, (AV.v (TV.one (At.int IntKind.i64 (z41 sn t7 b0 b4 t8))))), (9, (AV.v (TV.one (At.bool (z42 sn t7 b0 b4 t8)))))] [(Blk.mk Bool.false (Body.fl FloatKind.f32 b0)), (Blk.mk Bool.false (Body.fl FloatKind.f32 b1)), (Blk.mk Bool.false (Body.fl FloatKind.f32 b2)), (Blk.mk Bool.true (Body.cells [(At.vw 0 0 q0j 1), (At.vw 1 0 q0q 1), (At.vw 2 0 q0p 1)])), (Blk.mk Bool.true (Body.cells [(At.flt FloatKind.f32 b4)]))]))))
noncomputable def z0d : Nat → St → Option (Bool × LO) := lpT 5 (pSt [(pTm 0 (pV (pOne (pVw 0 (liN 0) 1)))), (pTm 1 (pV (pOne (pFn 100 [(pPtr 4 (liN 0) 1)])))), (pTm 7 (pV (pOne (pInt IntKind.i64)))), (pTm 8 (pV (pOne (pInt IntKind.i64))))] [(pBlk Bool.false (pFl FloatKind.f32)), (pBlk Bool.false (pFl FloatKind.f32)), (pBlk Bool.false (pFl FloatKind.f32)), (pBlk Bool.true (pCells [(pVw 0 (liN 0) 1), (pVw 1 (liN 0) 1), (pVw 2 (liN 0) 1)])), (pBlk Bool.true (pCells [(pFlt FloatKind.f32)]))]) (fun hs => z4o (hvN (hGet hs 0)) (hvI (hGet hs 1)) (hvI (hGet hs 2)) (hvLn (hGet hs 3)) (hvLn (hGet hs 4)) (hvLn (hGet hs 5)) (hvN (hGet hs 6)) (hvN (hGet hs 7)) (hvN (hGet hs 8)) (hvN (hGet hs 9)))
def z3e (sn : Nat) (t7 : Int) (b0 : List Nat) (b1 : List Nat) (b2 : List Nat) (q0j : Nat) (q0q : Nat) (q0p : Nat) (b4 : Nat) : Option ((Int) ⊕ (Int × Bool)) → Option (Ex × St)
  | none => none
  | some (Sum.inl r) => some (Ex.ret, (St.mk [(4, (AV.v (TV.one (At.int IntKind.i64 r))))] [(Blk.mk Bool.false (Body.fl FloatKind.f32 b0)), (Blk.mk Bool.false (Body.fl FloatKind.f32 b1)), (Blk.mk Bool.false (Body.fl FloatKind.f32 b2)), (Blk.mk Bool.true (Body.cells [(At.vw 0 0 q0j 1), (At.vw 1 0 q0q 1), (At.vw 2 0 q0p 1)])), (Blk.mk Bool.true (Body.cells [(At.flt FloatKind.f32 b4)]))]))
  | some (Sum.inr r) => some ((Ex.exit 0), (St.mk [(0, (AV.v (TV.one (At.vw 0 0 sn 1)))), (1, (AV.v (TV.one (At.fn 100 [(At.ptr 4 0 1)])))), (7, (AV.v (TV.one (At.int IntKind.i64 t7)))), (8, (AV.v (TV.one (At.int IntKind.i64 r.1)))), (9, (AV.v (TV.one (At.bool r.2))))] [(Blk.mk Bool.false (Body.fl FloatKind.f32 b0)), (Blk.mk Bool.false (Body.fl FloatKind.f32 b1)), (Blk.mk Bool.false (Body.fl FloatKind.f32 b2)), (Blk.mk Bool.true (Body.cells [(At.vw 0 0 q0j 1), (At.vw 1 0 q0q 1), (At.vw 2 0 q0p 1)])), (Blk.mk Bool.true (Body.cells [(At.flt FloatKind.f32 b4)]))]))
def z7b (sn : Nat) (t7 : Int) (b0 : List Nat) (b1 : List Nat) (b2 : List Nat) (q0j : Nat) (q0q : Nat) (q0p : Nat) (b4 : Nat) (x : Option ((Int) ⊕ (Int × Bool))) : LO := (LO.two (oL x) (LO.one Ex.ret (St.mk [(4, (AV.v (TV.one (At.int IntKind.i64 ((tL x).getD default)))))] [(Blk.mk Bool.false (Body.fl FloatKind.f32 b0)), (Blk.mk Bool.false (Body.fl FloatKind.f32 b1)), (Blk.mk Bool.false (Body.fl FloatKind.f32 b2)), (Blk.mk Bool.true (Body.cells [(At.vw 0 0 q0j 1), (At.vw 1 0 q0q 1), (At.vw 2 0 q0p 1)])), (Blk.mk Bool.true (Body.cells [(At.flt FloatKind.f32 b4)]))])) (LO.one (Ex.exit 0) (St.mk [(0, (AV.v (TV.one (At.vw 0 0 sn 1)))), (1, (AV.v (TV.one (At.fn 100 [(At.ptr 4 0 1)])))), (7, (AV.v (TV.one (At.int IntKind.i64 t7)))), (8, (AV.v (TV.one (At.int IntKind.i64 ((tR x).getD default).1)))), (9, (AV.v (TV.one (At.bool ((tR x).getD default).2))))] [(Blk.mk Bool.false (Body.fl FloatKind.f32 b0)), (Blk.mk Bool.false (Body.fl FloatKind.f32 b1)), (Blk.mk Bool.false (Body.fl FloatKind.f32 b2)), (Blk.mk Bool.true (Body.cells [(At.vw 0 0 q0j 1), (At.vw 1 0 q0q 1), (At.vw 2 0 q0p 1)])), (Blk.mk Bool.true (Body.cells [(At.flt FloatKind.f32 b4)]))])))
theorem z7t (sn : Nat) (t7 : Int) (b0 : List Nat) (b1 : List Nat) (b2 : List Nat) (q0j : Nat) (q0q : Nat) (q0p : Nat) (b4 : Nat) : ∀ x : Option ((Int) ⊕ (Int × Bool)), x.isSome = true → (z3e sn t7 b0 b1 b2 q0j q0q q0p b4) x = some (pick (z7b sn t7 b0 b1 b2 q0j q0q q0p b4 x))
  | none, h => by cases h
  | some (Sum.inl r), _ => rfl
  | some (Sum.inr r), _ => rfl
theorem z7m (sn : Nat) (t7 : Int) (t8 : Int) (b0 : List Nat) (b1 : List Nat) (b2 : List Nat) (q0j : Nat) (q0q : Nat) (q0p : Nat) (b4 : Nat) (K : Ex → St → Option (Ex × St)) : evC (R := Ex × St) Γ8 (evFn Γ8 8 8) 99 5 fi99.nt fi99.live fi99.nl 8 (findL 2 (loopsIn fi99.code)) (St.mk [(0, (AV.v (TV.one (At.vw 0 0 sn 1)))), (1, (AV.v (TV.one (At.fn 100 [(At.ptr 4 0 1)])))), (7, (AV.v (TV.one (At.int IntKind.i64 t7)))), (8, (AV.v (TV.one (At.int IntKind.i64 t8))))] [(Blk.mk Bool.false (Body.fl FloatKind.f32 b0)), (Blk.mk Bool.false (Body.fl FloatKind.f32 b1)), (Blk.mk Bool.false (Body.fl FloatKind.f32 b2)), (Blk.mk Bool.true (Body.cells [(At.vw 0 0 q0j 1), (At.vw 1 0 q0q 1), (At.vw 2 0 q0p 1)])), (Blk.mk Bool.true (Body.cells [(At.flt FloatKind.f32 b4)]))]) K = z2k sn t7 b0 b4 t8 (fun t8' => K .normal (St.mk [(0, (AV.v (TV.one (At.vw 0 0 sn 1)))), (1, (AV.v (TV.one (At.fn 100 [(At.ptr 4 0 1)])))), (7, (AV.v (TV.one (At.int IntKind.i64 t7)))), (8, (AV.v (TV.one (At.int IntKind.i64 t8'))))] [(Blk.mk Bool.false (Body.fl FloatKind.f32 b0)), (Blk.mk Bool.false (Body.fl FloatKind.f32 b1)), (Blk.mk Bool.false (Body.fl FloatKind.f32 b2)), (Blk.mk Bool.true (Body.cells [(At.vw 0 0 q0j 1), (At.vw 1 0 q0q 1), (At.vw 2 0 q0p 1)])), (Blk.mk Bool.true (Body.cells [(At.flt FloatKind.f32 b4)]))])) (fun c0_ => K Ex.ret (St.mk [(4, (AV.v (TV.one (At.int IntKind.i64 c0_))))] [(Blk.mk Bool.false (Body.fl FloatKind.f32 b0)), (Blk.mk Bool.false (Body.fl FloatKind.f32 b1)), (Blk.mk Bool.false (Body.fl FloatKind.f32 b2)), (Blk.mk Bool.true (Body.cells [(At.vw 0 0 q0j 1), (At.vw 1 0 q0q 1), (At.vw 2 0 q0p 1)])), (Blk.mk Bool.true (Body.cells [(At.flt FloatKind.f32 b4)]))])) (fun c0_ c1_ => K (Ex.exit 0) (St.mk [(0, (AV.v (TV.one (At.vw 0 0 sn 1)))), (1, (AV.v (TV.one (At.fn 100 [(At.ptr 4 0 1)])))), (7, (AV.v (TV.one (At.int IntKind.i64 t7)))), (8, (AV.v (TV.one (At.int IntKind.i64 c0_)))), (9, (AV.v (TV.one (At.bool c1_))))] [(Blk.mk Bool.false (Body.fl FloatKind.f32 b0)), (Blk.mk Bool.false (Body.fl FloatKind.f32 b1)), (Blk.mk Bool.false (Body.fl FloatKind.f32 b2)), (Blk.mk Bool.true (Body.cells [(At.vw 0 0 q0j 1), (At.vw 1 0 q0q 1), (At.vw 2 0 q0p 1)])), (Blk.mk Bool.true (Body.cells [(At.flt FloatKind.f32 b4)]))])) := by kernel_rfl
theorem z7r (sn : Nat) (t7 : Int) (b0 : List Nat) (b1 : List Nat) (b2 : List Nat) (q0j : Nat) (q0q : Nat) (q0p : Nat) (b4 : Nat) : ∀ (n : Nat) (t8 : Int), iter 99 2 5 (evC (R := Ex × St) Γ8 (evFn Γ8 8 8) 99 5 fi99.nt fi99.live fi99.nl 8 (findL 2 (loopsIn fi99.code))) n (St.mk [(0, (AV.v (TV.one (At.vw 0 0 sn 1)))), (1, (AV.v (TV.one (At.fn 100 [(At.ptr 4 0 1)])))), (7, (AV.v (TV.one (At.int IntKind.i64 t7)))), (8, (AV.v (TV.one (At.int IntKind.i64 t8))))] [(Blk.mk Bool.false (Body.fl FloatKind.f32 b0)), (Blk.mk Bool.false (Body.fl FloatKind.f32 b1)), (Blk.mk Bool.false (Body.fl FloatKind.f32 b2)), (Blk.mk Bool.true (Body.cells [(At.vw 0 0 q0j 1), (At.vw 1 0 q0q 1), (At.vw 2 0 q0p 1)])), (Blk.mk Bool.true (Body.cells [(At.flt FloatKind.f32 b4)]))]) (fun e st => some (e, st)) = (z3e sn t7 b0 b1 b2 q0j q0q q0p b4) (z0l sn t7 b0 b4 n t8) := by
  intro n
  induction n with
  | zero => intros; rfl
  | succ n ih =>
    intro t8
    refine Eq.trans (iter_succ ..) (Eq.trans (z7m sn t7 t8 b0 b1 b2 q0j q0q q0p b4 (nextK 99 2 5 (evC (R := Ex × St) Γ8 (evFn Γ8 8 8) 99 5 fi99.nt fi99.live fi99.nl 8 (findL 2 (loopsIn fi99.code))) n (fun e st => some (e, st)))) (Eq.trans ?_ (z6u (z3e sn t7 b0 b1 b2 q0j q0q q0p b4) rfl sn t7 b0 b4 t8 (fun t8' => z0l sn t7 b0 b4 n t8') (fun c0_ => some (Sum.inl c0_)) (fun c0_ c1_ => some (Sum.inr (c0_, c1_))))))
    exact congrArg (fun kn_ => z2k sn t7 b0 b4 t8 kn_ (fun c0_ => (z3e sn t7 b0 b1 b2 q0j q0q q0p b4) (some (Sum.inl c0_))) (fun c0_ c1_ => (z3e sn t7 b0 b1 b2 q0j q0q q0p b4) (some (Sum.inr (c0_, c1_))))) (funext fun t8' => ih t8')
theorem z08 : LoopOne Try.prog fnTab 99 2 z0d := lp_of (Γ := Γ8) tyTab_ok (FnL.ok fnTab_ok _ _) (LpL.ok lt8_ok) (SumL.ok tb8_ok _) mixed (fi := fi99) (by kernel_rfl) (by kernel_rfl) (by
  intro lo st out hp
  obtain ⟨hs, e1, e2, e3⟩ := lpT_inv hp
  clear hp
  obtain rfl : st = (St.mk [(0, (AV.v (TV.one (At.vw 0 0 (hvN (hGet hs 0)) 1)))), (1, (AV.v (TV.one (At.fn 100 [(At.ptr 4 0 1)])))), (7, (AV.v (TV.one (At.int IntKind.i64 (hvI (hGet hs 1)))))), (8, (AV.v (TV.one (At.int IntKind.i64 (hvI (hGet hs 2))))))] [(Blk.mk Bool.false (Body.fl FloatKind.f32 (hvLn (hGet hs 3)))), (Blk.mk Bool.false (Body.fl FloatKind.f32 (hvLn (hGet hs 4)))), (Blk.mk Bool.false (Body.fl FloatKind.f32 (hvLn (hGet hs 5)))), (Blk.mk Bool.true (Body.cells [(At.vw 0 0 (hvN (hGet hs 6)) 1), (At.vw 1 0 (hvN (hGet hs 7)) 1), (At.vw 2 0 (hvN (hGet hs 8)) 1)])), (Blk.mk Bool.true (Body.cells [(At.flt FloatKind.f32 (hvN (hGet hs 9)))]))]) := e2.trans (by kernel_rfl)
  clear e2
  subst e1
  unfold z4o at e3
  injection e3 with h1 h2
  subst h2
  exact ⟨8, 8, big, Eq.trans (z7r (hvN (hGet hs 0)) (hvI (hGet hs 1)) (hvLn (hGet hs 3)) (hvLn (hGet hs 4)) (hvLn (hGet hs 5)) (hvN (hGet hs 6)) (hvN (hGet hs 7)) (hvN (hGet hs 8)) (hvN (hGet hs 9)) big (hvI (hGet hs 2))) (z7t (hvN (hGet hs 0)) (hvI (hGet hs 1)) (hvLn (hGet hs 3)) (hvLn (hGet hs 4)) (hvLn (hGet hs 5)) (hvN (hGet hs 6)) (hvN (hGet hs 7)) (hvN (hGet hs 8)) (hvN (hGet hs 9)) (z0l (hvN (hGet hs 0)) (hvI (hGet hs 1)) (hvLn (hGet hs 3)) (hvN (hGet hs 9)) big (hvI (hGet hs 2))) h1)⟩)
noncomputable def tb9 : List (Nat × (List PT → Option (Bool × AV × List Blk))) := [(125, z1b), (128, z0h), (134, z0r), (137, z1c), (18, z1k), (48, z16), (54, z1w), (61, z1h), (97, z1u), (109, z1j), (14, z1q), (51, z1r), (56, z25), (103, z20), (111, z26), (118, z10), (52, z1f), (119, z1g), (16, z1y), (57, z1o), (19, z22), (62, z2r), (99, z0a), (49, z2n), (99, z0f), (116, z2t), (94, z2l), (98, z27), (117, z07), (117, z0c), (95, z2b), (96, z2i)]
noncomputable def lt9 : List ((Nat × Nat) × (Nat → St → Option (Bool × LO))) := [((52, 3), z0n), ((57, 4), z0s), ((62, 5), z28), ((99, 2), z03), ((99, 2), z05), ((50, 4), z2d), ((99, 2), z0d)]
noncomputable def Γ9 : Ctx := ⟨tyTab, fnTab, tblSum tb9, tblLp lt9⟩
theorem tb9_ok : SumL Try.prog tb9 := SumL.cons z0p (SumL.cons z0g (SumL.cons z0k (SumL.cons z0q (SumL.cons z0t (SumL.cons z0o (SumL.cons z14 (SumL.cons z0v (SumL.cons z15 (SumL.cons z0u (SumL.cons z12 (SumL.cons z11 (SumL.cons z1n (SumL.cons z19 (SumL.cons z1m (SumL.cons z0m (SumL.cons z0x (SumL.cons z0w (SumL.cons z1a (SumL.cons z13 (SumL.cons z1i (SumL.cons z2g (SumL.cons z09 (SumL.cons z2a (SumL.cons z0e (SumL.cons z2h (SumL.cons z29 (SumL.cons z1v (SumL.cons z06 (SumL.cons z0b (SumL.cons z21 (SumL.cons z24 (SumL.nil))))))))))))))))))))))))))))))))
theorem lt9_ok : LpL Try.prog fnTab lt9 := LpL.cons z0i (LpL.cons z0j (LpL.cons z1p (LpL.cons z02 (LpL.cons z04 (LpL.cons z1z (LpL.cons z08 (LpL.nil)))))))
noncomputable def z2s : List PT → Option (Bool × AV × List Blk)
  | [.ptr [.row 1 q00 (.fl .f32 q01), .row 1 q05 (.fl .f32 q07), .row 1 q06 (.fl .f32 q08)], .one (.s (.flt .f32 x1))] => some ((z9o q00 q01 q05 q07 q06 q08 x1), ((AV.tup [(TV.one (At.int IntKind.i64 (z5f q00 q01 q05 q07 q06 q08 x1))), (TV.one (At.int IntKind.i64 (z5g q00 q01 q05 q07 q06 q08 x1))), (TV.one (At.flt FloatKind.f32 (z9z q00 q01 q05 q07 q06 q08 x1))), (TV.one (At.flt FloatKind.f32 (z6i q00 q01 q05 q07 q06 q08 x1)))]), []))
  | _ => none
def zbd (q00 : Nat) (q01 : List Nat) (q05 : Nat) (q07 : List Nat) (q06 : Nat) (q08 : List Nat) (x1 : Nat) : Option (Int × Int × Nat × Nat) → Option (AV × List Blk)
  | some r => some ((AV.tup [(TV.one (At.int IntKind.i64 r.1)), (TV.one (At.int IntKind.i64 r.2.1)), (TV.one (At.flt FloatKind.f32 r.2.2.1)), (TV.one (At.flt FloatKind.f32 r.2.2.2))]), [])
  | none => none
theorem zdy (q00 : Nat) (q01 : List Nat) (q05 : Nat) (q07 : List Nat) (q06 : Nat) (q08 : List Nat) (x1 : Nat) : evFn Γ9 8 8 50 (impTs 0 [.ptr [.row 1 q00 (.fl .f32 q01), .row 1 q05 (.fl .f32 q07), .row 1 q06 (.fl .f32 q08)], .one (.s (.flt .f32 x1))]).1 (impTs 0 [.ptr [.row 1 q00 (.fl .f32 q01), .row 1 q05 (.fl .f32 q07), .row 1 q06 (.fl .f32 q08)], .one (.s (.flt .f32 x1))]).2 (expo (impTs 0 [.ptr [.row 1 q00 (.fl .f32 q01), .row 1 q05 (.fl .f32 q07), .row 1 q06 (.fl .f32 q08)], .one (.s (.flt .f32 x1))]).2.length) = z5x q00 q01 q05 q07 q06 q08 x1 (fun c0_ c1_ c2_ c3_ => some ((AV.tup [(TV.one (At.int IntKind.i64 c0_)), (TV.one (At.int IntKind.i64 c1_)), (TV.one (At.flt FloatKind.f32 c2_)), (TV.one (At.flt FloatKind.f32 c3_))]), [])) := by kernel_rfl
theorem z2j : SumOne Try.prog 50 z2s := sum_of (Γ := Γ9) (fuel := 8) (d := 8) tyTab_ok (FnL.ok fnTab_ok _ _) (LpL.ok lt9_ok) (SumL.ok tb9_ok _) mixed (by
  intro pts v news hp hc
  clear hc
  unfold z2s at hp
  split at hp
  · rename_i q00 q01 q05 q07 q06 q08 x1
    exact Eq.trans (Eq.trans (zdy q00 q01 q05 q07 q06 q08 x1) (zca (zbd q00 q01 q05 q07 q06 q08 x1) rfl q00 q01 q05 q07 q06 q08 x1 (fun c0_ c1_ c2_ c3_ => some (c0_, c1_, c2_, c3_)))) (fin_out (o := (zbd q00 q01 q05 q07 q06 q08 x1)) (x := z4i q00 q01 q05 q07 q06 q08 x1) (d := default) (V := fun r => ((AV.tup [(TV.one (At.int IntKind.i64 r.1)), (TV.one (At.int IntKind.i64 r.2.1)), (TV.one (At.flt FloatKind.f32 r.2.2.1)), (TV.one (At.flt FloatKind.f32 r.2.2.2))]), [])) (fun r => rfl) hp)
  · cases hp)
noncomputable def z17 : List PT → Option (Bool × AV × List Blk)
  | [.agg [.row 1 q00 (.fl .f32 q01), .row 1 q05 (.fl .f32 q07), .row 1 q06 (.fl .f32 q08)], .one (.s (.flt .f32 x1))] => some ((z6b q00 q01 q05 q07 q06 q08 x1), ((AV.tup [(TV.one (At.int IntKind.i64 (z45 q00 q01 q05 q07 q06 q08 x1))), (TV.one (At.int IntKind.i64 (z46 q00 q01 q05 q07 q06 q08 x1))), (TV.one (At.flt FloatKind.f32 (z4g q00 q01 q05 q07 q06 q08 x1))), (TV.one (At.flt FloatKind.f32 (z4h q00 q01 q05 q07 q06 q08 x1))), (TV.one (At.flt FloatKind.f32 (z7f q00 q01 q05 q07 q06 q08 x1)))]), []))
  | _ => none
def z9r (q00 : Nat) (q01 : List Nat) (q05 : Nat) (q07 : List Nat) (q06 : Nat) (q08 : List Nat) (x1 : Nat) : Option (Int × Int × Nat × Nat × Nat) → Option (AV × List Blk)
  | some r => some ((AV.tup [(TV.one (At.int IntKind.i64 r.1)), (TV.one (At.int IntKind.i64 r.2.1)), (TV.one (At.flt FloatKind.f32 r.2.2.1)), (TV.one (At.flt FloatKind.f32 r.2.2.2.1)), (TV.one (At.flt FloatKind.f32 r.2.2.2.2))]), [])
  | none => none
theorem zb0 (q00 : Nat) (q01 : List Nat) (q05 : Nat) (q07 : List Nat) (q06 : Nat) (q08 : List Nat) (x1 : Nat) : evFn Γ9 8 8 55 (impTs 0 [.agg [.row 1 q00 (.fl .f32 q01), .row 1 q05 (.fl .f32 q07), .row 1 q06 (.fl .f32 q08)], .one (.s (.flt .f32 x1))]).1 (impTs 0 [.agg [.row 1 q00 (.fl .f32 q01), .row 1 q05 (.fl .f32 q07), .row 1 q06 (.fl .f32 q08)], .one (.s (.flt .f32 x1))]).2 (expo (impTs 0 [.agg [.row 1 q00 (.fl .f32 q01), .row 1 q05 (.fl .f32 q07), .row 1 q06 (.fl .f32 q08)], .one (.s (.flt .f32 x1))]).2.length) = z4a q00 q01 q05 q07 q06 q08 x1 (fun c0_ c1_ c2_ c3_ c4_ => some ((AV.tup [(TV.one (At.int IntKind.i64 c0_)), (TV.one (At.int IntKind.i64 c1_)), (TV.one (At.flt FloatKind.f32 c2_)), (TV.one (At.flt FloatKind.f32 c3_)), (TV.one (At.flt FloatKind.f32 c4_))]), [])) := by kernel_rfl
theorem z0z : SumOne Try.prog 55 z17 := sum_of (Γ := Γ9) (fuel := 8) (d := 8) tyTab_ok (FnL.ok fnTab_ok _ _) (LpL.ok lt9_ok) (SumL.ok tb9_ok _) mixed (by
  intro pts v news hp hc
  clear hc
  unfold z17 at hp
  split at hp
  · rename_i q00 q01 q05 q07 q06 q08 x1
    exact Eq.trans (Eq.trans (zb0 q00 q01 q05 q07 q06 q08 x1) (za6 (z9r q00 q01 q05 q07 q06 q08 x1) rfl q00 q01 q05 q07 q06 q08 x1 (fun c0_ c1_ c2_ c3_ c4_ => some (c0_, c1_, c2_, c3_, c4_)))) (fin_out (o := (z9r q00 q01 q05 q07 q06 q08 x1)) (x := z3h q00 q01 q05 q07 q06 q08 x1) (d := default) (V := fun r => ((AV.tup [(TV.one (At.int IntKind.i64 r.1)), (TV.one (At.int IntKind.i64 r.2.1)), (TV.one (At.flt FloatKind.f32 r.2.2.1)), (TV.one (At.flt FloatKind.f32 r.2.2.2.1)), (TV.one (At.flt FloatKind.f32 r.2.2.2.2))]), [])) (fun r => rfl) hp)
  · cases hp)
noncomputable def z9j (q0z : Nat) (t43 : Int) (t44 : Int) (b0 : List Nat) (b1 : List Nat) (b2 : List Nat) (q0j : Nat) (q0q : Nat) (q0p : Nat) : Bool × LO := ((z4b q0z t43 b0 q0j t44), (LO.two (z47 q0z t43 b0 q0j t44) (LO.one Ex.ret (St.mk [(2, (AV.v (TV.one (At.bool Bool.false))))] [(Blk.mk Bool.false (Body.fl FloatKind.f32 b0)), (Blk.mk Bool.false (Body.fl FloatKind.f32 b1)), (Blk.mk Bool.false (Body.fl FloatKind.f32 b2))])) (LO.one (Ex.exit 0) (St.mk [(1, (AV.v (TV.one (At.ptr 3 0 3)))), (42, (AV.v (TV.one (At.vw 0 0 q0z 1)))), (43, (AV.v (TV.one (At.int IntKind.i64 t43)))), (44, (AV.v (TV.one (At.int IntKind.i64 (z6o q0z t43 b0 q0j t44))))), (45, (AV.v (TV.one (At.bool (z6r q0z t43 b0 q0j t44)))))] [(Blk.mk Bool.false (Body.fl FloatKind.f32 b0)), (Blk.mk Bool.false (Body.fl FloatKind.f32 b1)), (Blk.mk Bool.false (Body.fl FloatKind.f32 b2)), (Blk.mk Bool.true (Body.cells [(At.vw 0 0 q0j 1), (At.vw 1 0 q0q 1), (At.vw 2 0 q0p 1)]))]))))
noncomputable def z1d : Nat → St → Option (Bool × LO) := lpT 3 (pSt [(pTm 1 (pV (pOne (pPtr 3 (liN 0) 3)))), (pTm 42 (pV (pOne (pVw 0 (liN 0) 1)))), (pTm 43 (pV (pOne (pInt IntKind.i64)))), (pTm 44 (pV (pOne (pInt IntKind.i64))))] [(pBlk Bool.false (pFl FloatKind.f32)), (pBlk Bool.false (pFl FloatKind.f32)), (pBlk Bool.false (pFl FloatKind.f32)), (pBlk Bool.true (pCells [(pVw 0 (liN 0) 1), (pVw 1 (liN 0) 1), (pVw 2 (liN 0) 1)]))]) (fun hs => z9j (hvN (hGet hs 0)) (hvI (hGet hs 1)) (hvI (hGet hs 2)) (hvLn (hGet hs 3)) (hvLn (hGet hs 4)) (hvLn (hGet hs 5)) (hvN (hGet hs 6)) (hvN (hGet hs 7)) (hvN (hGet hs 8)))
def z4w (q0z : Nat) (t43 : Int) (b0 : List Nat) (b1 : List Nat) (b2 : List Nat) (q0j : Nat) (q0q : Nat) (q0p : Nat) : Option ((Unit) ⊕ (Int × Bool)) → Option (Ex × St)
  | none => none
  | some (Sum.inl r) => some (Ex.ret, (St.mk [(2, (AV.v (TV.one (At.bool Bool.false))))] [(Blk.mk Bool.false (Body.fl FloatKind.f32 b0)), (Blk.mk Bool.false (Body.fl FloatKind.f32 b1)), (Blk.mk Bool.false (Body.fl FloatKind.f32 b2))]))
  | some (Sum.inr r) => some ((Ex.exit 0), (St.mk [(1, (AV.v (TV.one (At.ptr 3 0 3)))), (42, (AV.v (TV.one (At.vw 0 0 q0z 1)))), (43, (AV.v (TV.one (At.int IntKind.i64 t43)))), (44, (AV.v (TV.one (At.int IntKind.i64 r.1)))), (45, (AV.v (TV.one (At.bool r.2))))] [(Blk.mk Bool.false (Body.fl FloatKind.f32 b0)), (Blk.mk Bool.false (Body.fl FloatKind.f32 b1)), (Blk.mk Bool.false (Body.fl FloatKind.f32 b2)), (Blk.mk Bool.true (Body.cells [(At.vw 0 0 q0j 1), (At.vw 1 0 q0q 1), (At.vw 2 0 q0p 1)]))]))
def zat (q0z : Nat) (t43 : Int) (b0 : List Nat) (b1 : List Nat) (b2 : List Nat) (q0j : Nat) (q0q : Nat) (q0p : Nat) (x : Option ((Unit) ⊕ (Int × Bool))) : LO := (LO.two (oL x) (LO.one Ex.ret (St.mk [(2, (AV.v (TV.one (At.bool Bool.false))))] [(Blk.mk Bool.false (Body.fl FloatKind.f32 b0)), (Blk.mk Bool.false (Body.fl FloatKind.f32 b1)), (Blk.mk Bool.false (Body.fl FloatKind.f32 b2))])) (LO.one (Ex.exit 0) (St.mk [(1, (AV.v (TV.one (At.ptr 3 0 3)))), (42, (AV.v (TV.one (At.vw 0 0 q0z 1)))), (43, (AV.v (TV.one (At.int IntKind.i64 t43)))), (44, (AV.v (TV.one (At.int IntKind.i64 ((tR x).getD default).1)))), (45, (AV.v (TV.one (At.bool ((tR x).getD default).2))))] [(Blk.mk Bool.false (Body.fl FloatKind.f32 b0)), (Blk.mk Bool.false (Body.fl FloatKind.f32 b1)), (Blk.mk Bool.false (Body.fl FloatKind.f32 b2)), (Blk.mk Bool.true (Body.cells [(At.vw 0 0 q0j 1), (At.vw 1 0 q0q 1), (At.vw 2 0 q0p 1)]))])))
theorem zb1 (q0z : Nat) (t43 : Int) (b0 : List Nat) (b1 : List Nat) (b2 : List Nat) (q0j : Nat) (q0q : Nat) (q0p : Nat) : ∀ x : Option ((Unit) ⊕ (Int × Bool)), x.isSome = true → (z4w q0z t43 b0 b1 b2 q0j q0q q0p) x = some (pick (zat q0z t43 b0 b1 b2 q0j q0q q0p x))
  | none, h => by cases h
  | some (Sum.inl r), _ => rfl
  | some (Sum.inr r), _ => rfl
theorem zaz (q0z : Nat) (t43 : Int) (t44 : Int) (b0 : List Nat) (b1 : List Nat) (b2 : List Nat) (q0j : Nat) (q0q : Nat) (q0p : Nat) (K : Ex → St → Option (Ex × St)) : evC (R := Ex × St) Γ9 (evFn Γ9 8 8) 53 3 fi53.nt fi53.live fi53.nl 8 (findL 5 (loopsIn fi53.code)) (St.mk [(1, (AV.v (TV.one (At.ptr 3 0 3)))), (42, (AV.v (TV.one (At.vw 0 0 q0z 1)))), (43, (AV.v (TV.one (At.int IntKind.i64 t43)))), (44, (AV.v (TV.one (At.int IntKind.i64 t44))))] [(Blk.mk Bool.false (Body.fl FloatKind.f32 b0)), (Blk.mk Bool.false (Body.fl FloatKind.f32 b1)), (Blk.mk Bool.false (Body.fl FloatKind.f32 b2)), (Blk.mk Bool.true (Body.cells [(At.vw 0 0 q0j 1), (At.vw 1 0 q0q 1), (At.vw 2 0 q0p 1)]))]) K = z3p q0z t43 b0 q0j t44 (fun t44' => K .normal (St.mk [(1, (AV.v (TV.one (At.ptr 3 0 3)))), (42, (AV.v (TV.one (At.vw 0 0 q0z 1)))), (43, (AV.v (TV.one (At.int IntKind.i64 t43)))), (44, (AV.v (TV.one (At.int IntKind.i64 t44'))))] [(Blk.mk Bool.false (Body.fl FloatKind.f32 b0)), (Blk.mk Bool.false (Body.fl FloatKind.f32 b1)), (Blk.mk Bool.false (Body.fl FloatKind.f32 b2)), (Blk.mk Bool.true (Body.cells [(At.vw 0 0 q0j 1), (At.vw 1 0 q0q 1), (At.vw 2 0 q0p 1)]))])) (fun _ => K Ex.ret (St.mk [(2, (AV.v (TV.one (At.bool Bool.false))))] [(Blk.mk Bool.false (Body.fl FloatKind.f32 b0)), (Blk.mk Bool.false (Body.fl FloatKind.f32 b1)), (Blk.mk Bool.false (Body.fl FloatKind.f32 b2))])) (fun c0_ c1_ => K (Ex.exit 0) (St.mk [(1, (AV.v (TV.one (At.ptr 3 0 3)))), (42, (AV.v (TV.one (At.vw 0 0 q0z 1)))), (43, (AV.v (TV.one (At.int IntKind.i64 t43)))), (44, (AV.v (TV.one (At.int IntKind.i64 c0_)))), (45, (AV.v (TV.one (At.bool c1_))))] [(Blk.mk Bool.false (Body.fl FloatKind.f32 b0)), (Blk.mk Bool.false (Body.fl FloatKind.f32 b1)), (Blk.mk Bool.false (Body.fl FloatKind.f32 b2)), (Blk.mk Bool.true (Body.cells [(At.vw 0 0 q0j 1), (At.vw 1 0 q0q 1), (At.vw 2 0 q0p 1)]))])) := by kernel_rfl
theorem zb5 (q0z : Nat) (t43 : Int) (b0 : List Nat) (b1 : List Nat) (b2 : List Nat) (q0j : Nat) (q0q : Nat) (q0p : Nat) : ∀ (n : Nat) (t44 : Int), iter 53 5 3 (evC (R := Ex × St) Γ9 (evFn Γ9 8 8) 53 3 fi53.nt fi53.live fi53.nl 8 (findL 5 (loopsIn fi53.code))) n (St.mk [(1, (AV.v (TV.one (At.ptr 3 0 3)))), (42, (AV.v (TV.one (At.vw 0 0 q0z 1)))), (43, (AV.v (TV.one (At.int IntKind.i64 t43)))), (44, (AV.v (TV.one (At.int IntKind.i64 t44))))] [(Blk.mk Bool.false (Body.fl FloatKind.f32 b0)), (Blk.mk Bool.false (Body.fl FloatKind.f32 b1)), (Blk.mk Bool.false (Body.fl FloatKind.f32 b2)), (Blk.mk Bool.true (Body.cells [(At.vw 0 0 q0j 1), (At.vw 1 0 q0q 1), (At.vw 2 0 q0p 1)]))]) (fun e st => some (e, st)) = (z4w q0z t43 b0 b1 b2 q0j q0q q0p) (z2z q0z t43 b0 q0j n t44) := by
  intro n
  induction n with
  | zero => intros; rfl
  | succ n ih =>
    intro t44
    refine Eq.trans (iter_succ ..) (Eq.trans (zaz q0z t43 t44 b0 b1 b2 q0j q0q q0p (nextK 53 5 3 (evC (R := Ex × St) Γ9 (evFn Γ9 8 8) 53 3 fi53.nt fi53.live fi53.nl 8 (findL 5 (loopsIn fi53.code))) n (fun e st => some (e, st)))) (Eq.trans ?_ (za5 (z4w q0z t43 b0 b1 b2 q0j q0q q0p) rfl q0z t43 b0 q0j t44 (fun t44' => z2z q0z t43 b0 q0j n t44') (fun _ => some (Sum.inl ())) (fun c0_ c1_ => some (Sum.inr (c0_, c1_))))))
    exact congrArg (fun kn_ => z3p q0z t43 b0 q0j t44 kn_ (fun _ => (z4w q0z t43 b0 b1 b2 q0j q0q q0p) (some (Sum.inl ()))) (fun c0_ c1_ => (z4w q0z t43 b0 b1 b2 q0j q0q q0p) (some (Sum.inr (c0_, c1_))))) (funext fun t44' => ih t44')
theorem z0y : LoopOne Try.prog fnTab 53 5 z1d := lp_of (Γ := Γ9) tyTab_ok (FnL.ok fnTab_ok _ _) (LpL.ok lt9_ok) (SumL.ok tb9_ok _) mixed (fi := fi53) (by kernel_rfl) (by kernel_rfl) (by
  intro lo st out hp
  obtain ⟨hs, e1, e2, e3⟩ := lpT_inv hp
  clear hp
  obtain rfl : st = (St.mk [(1, (AV.v (TV.one (At.ptr 3 0 3)))), (42, (AV.v (TV.one (At.vw 0 0 (hvN (hGet hs 0)) 1)))), (43, (AV.v (TV.one (At.int IntKind.i64 (hvI (hGet hs 1)))))), (44, (AV.v (TV.one (At.int IntKind.i64 (hvI (hGet hs 2))))))] [(Blk.mk Bool.false (Body.fl FloatKind.f32 (hvLn (hGet hs 3)))), (Blk.mk Bool.false (Body.fl FloatKind.f32 (hvLn (hGet hs 4)))), (Blk.mk Bool.false (Body.fl FloatKind.f32 (hvLn (hGet hs 5)))), (Blk.mk Bool.true (Body.cells [(At.vw 0 0 (hvN (hGet hs 6)) 1), (At.vw 1 0 (hvN (hGet hs 7)) 1), (At.vw 2 0 (hvN (hGet hs 8)) 1)]))]) := e2.trans (by kernel_rfl)
  clear e2
  subst e1
  unfold z9j at e3
  injection e3 with h1 h2
  subst h2
  exact ⟨8, 8, big, Eq.trans (zb5 (hvN (hGet hs 0)) (hvI (hGet hs 1)) (hvLn (hGet hs 3)) (hvLn (hGet hs 4)) (hvLn (hGet hs 5)) (hvN (hGet hs 6)) (hvN (hGet hs 7)) (hvN (hGet hs 8)) big (hvI (hGet hs 2))) (zb1 (hvN (hGet hs 0)) (hvI (hGet hs 1)) (hvLn (hGet hs 3)) (hvLn (hGet hs 4)) (hvLn (hGet hs 5)) (hvN (hGet hs 6)) (hvN (hGet hs 7)) (hvN (hGet hs 8)) (z2z (hvN (hGet hs 0)) (hvI (hGet hs 1)) (hvLn (hGet hs 3)) (hvN (hGet hs 6)) big (hvI (hGet hs 2))) h1)⟩)
noncomputable def tb10 : List (Nat × (List PT → Option (Bool × AV × List Blk))) := [(125, z1b), (128, z0h), (134, z0r), (137, z1c), (18, z1k), (48, z16), (54, z1w), (61, z1h), (97, z1u), (109, z1j), (14, z1q), (51, z1r), (56, z25), (103, z20), (111, z26), (118, z10), (52, z1f), (119, z1g), (16, z1y), (57, z1o), (19, z22), (62, z2r), (99, z0a), (49, z2n), (99, z0f), (116, z2t), (94, z2l), (98, z27), (117, z07), (117, z0c), (95, z2b), (96, z2i), (50, z2s), (55, z17)]
noncomputable def lt10 : List ((Nat × Nat) × (Nat → St → Option (Bool × LO))) := [((52, 3), z0n), ((57, 4), z0s), ((62, 5), z28), ((99, 2), z03), ((99, 2), z05), ((50, 4), z2d), ((99, 2), z0d), ((53, 5), z1d)]
noncomputable def Γ10 : Ctx := ⟨tyTab, fnTab, tblSum tb10, tblLp lt10⟩
theorem tb10_ok : SumL Try.prog tb10 := SumL.cons z0p (SumL.cons z0g (SumL.cons z0k (SumL.cons z0q (SumL.cons z0t (SumL.cons z0o (SumL.cons z14 (SumL.cons z0v (SumL.cons z15 (SumL.cons z0u (SumL.cons z12 (SumL.cons z11 (SumL.cons z1n (SumL.cons z19 (SumL.cons z1m (SumL.cons z0m (SumL.cons z0x (SumL.cons z0w (SumL.cons z1a (SumL.cons z13 (SumL.cons z1i (SumL.cons z2g (SumL.cons z09 (SumL.cons z2a (SumL.cons z0e (SumL.cons z2h (SumL.cons z29 (SumL.cons z1v (SumL.cons z06 (SumL.cons z0b (SumL.cons z21 (SumL.cons z24 (SumL.cons z2j (SumL.cons z0z (SumL.nil))))))))))))))))))))))))))))))))))
theorem lt10_ok : LpL Try.prog fnTab lt10 := LpL.cons z0i (LpL.cons z0j (LpL.cons z1p (LpL.cons z02 (LpL.cons z04 (LpL.cons z1z (LpL.cons z08 (LpL.cons z0y (LpL.nil))))))))
noncomputable def z2u : List PT → Option (Bool × AV × List Blk)
  | [.agg [.row 1 q09 (.fl .f32 q0i), .row 1 q0a (.fl .f32 q0k), .row 1 q0b (.fl .f32 q0m)], .one (.s (.flt .f32 q0r))] => some ((z9m q09 q0i q0a q0k q0b q0m q0r), ((AV.tup [(TV.one (At.flt FloatKind.f32 (z7u q09 q0i q0a q0k q0b q0m q0r))), (TV.one (At.bool (z9a q09 q0i q0a q0k q0b q0m q0r)))]), []))
  | _ => none
def zba (q09 : Nat) (q0i : List Nat) (q0a : Nat) (q0k : List Nat) (q0b : Nat) (q0m : List Nat) (q0r : Nat) : Option (Nat × Bool) → Option (AV × List Blk)
  | some r => some ((AV.tup [(TV.one (At.flt FloatKind.f32 r.1)), (TV.one (At.bool r.2))]), [])
  | none => none
theorem zdw (q09 : Nat) (q0i : List Nat) (q0a : Nat) (q0k : List Nat) (q0b : Nat) (q0m : List Nat) (q0r : Nat) : evFn Γ10 8 8 15 (impTs 0 [.agg [.row 1 q09 (.fl .f32 q0i), .row 1 q0a (.fl .f32 q0k), .row 1 q0b (.fl .f32 q0m)], .one (.s (.flt .f32 q0r))]).1 (impTs 0 [.agg [.row 1 q09 (.fl .f32 q0i), .row 1 q0a (.fl .f32 q0k), .row 1 q0b (.fl .f32 q0m)], .one (.s (.flt .f32 q0r))]).2 (expo (impTs 0 [.agg [.row 1 q09 (.fl .f32 q0i), .row 1 q0a (.fl .f32 q0k), .row 1 q0b (.fl .f32 q0m)], .one (.s (.flt .f32 q0r))]).2.length) = z6w q09 q0i q0a q0k q0b q0m q0r (fun c0_ c1_ => some ((AV.tup [(TV.one (At.flt FloatKind.f32 c0_)), (TV.one (At.bool c1_))]), [])) := by kernel_rfl
theorem z2m : SumOne Try.prog 15 z2u := sum_of (Γ := Γ10) (fuel := 8) (d := 8) tyTab_ok (FnL.ok fnTab_ok _ _) (LpL.ok lt10_ok) (SumL.ok tb10_ok _) mixed (by
  intro pts v news hp hc
  clear hc
  unfold z2u at hp
  split at hp
  · rename_i q09 q0i q0a q0k q0b q0m q0r
    exact Eq.trans (Eq.trans (zdw q09 q0i q0a q0k q0b q0m q0r) (zcc (zba q09 q0i q0a q0k q0b q0m q0r) rfl q09 q0i q0a q0k q0b q0m q0r (fun c0_ c1_ => some (c0_, c1_)))) (fin_out (o := (zba q09 q0i q0a q0k q0b q0m q0r)) (x := z6a q09 q0i q0a q0k q0b q0m q0r) (d := default) (V := fun r => ((AV.tup [(TV.one (At.flt FloatKind.f32 r.1)), (TV.one (At.bool r.2))]), [])) (fun r => rfl) hp)
  · cases hp)
noncomputable def z23 : List PT → Option (Bool × AV × List Blk)
  | [.agg [.row 1 q00 (.fl .f32 q01), .row 1 q05 (.fl .f32 q07), .row 1 q06 (.fl .f32 q08)]] => some ((z76 q00 q01 q05 q07 q06 q08), ((AV.v (TV.one (At.bool (z6p q00 q01 q05 q07 q06 q08)))), []))
  | _ => none
def za2 (q00 : Nat) (q01 : List Nat) (q05 : Nat) (q07 : List Nat) (q06 : Nat) (q08 : List Nat) : Option (Bool) → Option (AV × List Blk)
  | some r => some ((AV.v (TV.one (At.bool r))), [])
  | none => none
theorem zc6 (q00 : Nat) (q01 : List Nat) (q05 : Nat) (q07 : List Nat) (q06 : Nat) (q08 : List Nat) : evFn Γ10 8 8 53 (impTs 0 [.agg [.row 1 q00 (.fl .f32 q01), .row 1 q05 (.fl .f32 q07), .row 1 q06 (.fl .f32 q08)]]).1 (impTs 0 [.agg [.row 1 q00 (.fl .f32 q01), .row 1 q05 (.fl .f32 q07), .row 1 q06 (.fl .f32 q08)]]).2 (expo (impTs 0 [.agg [.row 1 q00 (.fl .f32 q01), .row 1 q05 (.fl .f32 q07), .row 1 q06 (.fl .f32 q08)]]).2.length) = z4v q00 q01 q05 q07 q06 q08 (fun c0_ => some ((AV.v (TV.one (At.bool c0_))), [])) := by kernel_rfl
theorem z1t : SumOne Try.prog 53 z23 := sum_of (Γ := Γ10) (fuel := 8) (d := 8) tyTab_ok (FnL.ok fnTab_ok _ _) (LpL.ok lt10_ok) (SumL.ok tb10_ok _) mixed (by
  intro pts v news hp hc
  clear hc
  unfold z23 at hp
  split at hp
  · rename_i q00 q01 q05 q07 q06 q08
    exact Eq.trans (Eq.trans (zc6 q00 q01 q05 q07 q06 q08) (zar (za2 q00 q01 q05 q07 q06 q08) rfl q00 q01 q05 q07 q06 q08 (fun c0_ => some c0_))) (fin_out (o := (za2 q00 q01 q05 q07 q06 q08)) (x := z4u q00 q01 q05 q07 q06 q08) (d := default) (V := fun r => ((AV.v (TV.one (At.bool r))), [])) (fun r => rfl) hp)
  · cases hp)
noncomputable def tb11 : List (Nat × (List PT → Option (Bool × AV × List Blk))) := [(125, z1b), (128, z0h), (134, z0r), (137, z1c), (18, z1k), (48, z16), (54, z1w), (61, z1h), (97, z1u), (109, z1j), (14, z1q), (51, z1r), (56, z25), (103, z20), (111, z26), (118, z10), (52, z1f), (119, z1g), (16, z1y), (57, z1o), (19, z22), (62, z2r), (99, z0a), (49, z2n), (99, z0f), (116, z2t), (94, z2l), (98, z27), (117, z07), (117, z0c), (95, z2b), (96, z2i), (50, z2s), (55, z17), (15, z2u), (53, z23)]
noncomputable def lt11 : List ((Nat × Nat) × (Nat → St → Option (Bool × LO))) := [((52, 3), z0n), ((57, 4), z0s), ((62, 5), z28), ((99, 2), z03), ((99, 2), z05), ((50, 4), z2d), ((99, 2), z0d), ((53, 5), z1d)]
noncomputable def Γ11 : Ctx := ⟨tyTab, fnTab, tblSum tb11, tblLp lt11⟩
theorem tb11_ok : SumL Try.prog tb11 := SumL.cons z0p (SumL.cons z0g (SumL.cons z0k (SumL.cons z0q (SumL.cons z0t (SumL.cons z0o (SumL.cons z14 (SumL.cons z0v (SumL.cons z15 (SumL.cons z0u (SumL.cons z12 (SumL.cons z11 (SumL.cons z1n (SumL.cons z19 (SumL.cons z1m (SumL.cons z0m (SumL.cons z0x (SumL.cons z0w (SumL.cons z1a (SumL.cons z13 (SumL.cons z1i (SumL.cons z2g (SumL.cons z09 (SumL.cons z2a (SumL.cons z0e (SumL.cons z2h (SumL.cons z29 (SumL.cons z1v (SumL.cons z06 (SumL.cons z0b (SumL.cons z21 (SumL.cons z24 (SumL.cons z2j (SumL.cons z0z (SumL.cons z2m (SumL.cons z1t (SumL.nil))))))))))))))))))))))))))))))))))))
theorem lt11_ok : LpL Try.prog fnTab lt11 := LpL.cons z0i (LpL.cons z0j (LpL.cons z1p (LpL.cons z02 (LpL.cons z04 (LpL.cons z1z (LpL.cons z08 (LpL.cons z0y (LpL.nil))))))))
noncomputable def z2v : List PT → Option (Bool × AV × List Blk)
  | [.agg [.row 1 q09 (.fl .f32 q0i), .row 1 q0a (.fl .f32 q0k), .row 1 q0b (.fl .f32 q0m)], .one (.s (.flt .f32 q0r))] => some ((z9n q09 q0i q0a q0k q0b q0m q0r), ((AV.tup [(TV.one (At.flt FloatKind.f32 (z7k q09 q0i q0a q0k q0b q0m q0r))), (TV.one (At.bool (z97 q09 q0i q0a q0k q0b q0m q0r)))]), []))
  | _ => none
def zbc (q09 : Nat) (q0i : List Nat) (q0a : Nat) (q0k : List Nat) (q0b : Nat) (q0m : List Nat) (q0r : Nat) : Option (Nat × Bool) → Option (AV × List Blk)
  | some r => some ((AV.tup [(TV.one (At.flt FloatKind.f32 r.1)), (TV.one (At.bool r.2))]), [])
  | none => none
theorem zdv (q09 : Nat) (q0i : List Nat) (q0a : Nat) (q0k : List Nat) (q0b : Nat) (q0m : List Nat) (q0r : Nat) : evFn Γ11 8 8 17 (impTs 0 [.agg [.row 1 q09 (.fl .f32 q0i), .row 1 q0a (.fl .f32 q0k), .row 1 q0b (.fl .f32 q0m)], .one (.s (.flt .f32 q0r))]).1 (impTs 0 [.agg [.row 1 q09 (.fl .f32 q0i), .row 1 q0a (.fl .f32 q0k), .row 1 q0b (.fl .f32 q0m)], .one (.s (.flt .f32 q0r))]).2 (expo (impTs 0 [.agg [.row 1 q09 (.fl .f32 q0i), .row 1 q0a (.fl .f32 q0k), .row 1 q0b (.fl .f32 q0m)], .one (.s (.flt .f32 q0r))]).2.length) = z6y q09 q0i q0a q0k q0b q0m q0r (fun c0_ c1_ => some ((AV.tup [(TV.one (At.flt FloatKind.f32 c0_)), (TV.one (At.bool c1_))]), [])) := by kernel_rfl
theorem z2o : SumOne Try.prog 17 z2v := sum_of (Γ := Γ11) (fuel := 8) (d := 8) tyTab_ok (FnL.ok fnTab_ok _ _) (LpL.ok lt11_ok) (SumL.ok tb11_ok _) mixed (by
  intro pts v news hp hc
  clear hc
  unfold z2v at hp
  split at hp
  · rename_i q09 q0i q0a q0k q0b q0m q0r
    exact Eq.trans (Eq.trans (zdv q09 q0i q0a q0k q0b q0m q0r) (zce (zbc q09 q0i q0a q0k q0b q0m q0r) rfl q09 q0i q0a q0k q0b q0m q0r (fun c0_ c1_ => some (c0_, c1_)))) (fin_out (o := (zbc q09 q0i q0a q0k q0b q0m q0r)) (x := z63 q09 q0i q0a q0k q0b q0m q0r) (d := default) (V := fun r => ((AV.tup [(TV.one (At.flt FloatKind.f32 r.1)), (TV.one (At.bool r.2))]), [])) (fun r => rfl) hp)
  · cases hp)
noncomputable def tb12 : List (Nat × (List PT → Option (Bool × AV × List Blk))) := [(125, z1b), (128, z0h), (134, z0r), (137, z1c), (18, z1k), (48, z16), (54, z1w), (61, z1h), (97, z1u), (109, z1j), (14, z1q), (51, z1r), (56, z25), (103, z20), (111, z26), (118, z10), (52, z1f), (119, z1g), (16, z1y), (57, z1o), (19, z22), (62, z2r), (99, z0a), (49, z2n), (99, z0f), (116, z2t), (94, z2l), (98, z27), (117, z07), (117, z0c), (95, z2b), (96, z2i), (50, z2s), (55, z17), (15, z2u), (53, z23), (17, z2v)]
noncomputable def lt12 : List ((Nat × Nat) × (Nat → St → Option (Bool × LO))) := [((52, 3), z0n), ((57, 4), z0s), ((62, 5), z28), ((99, 2), z03), ((99, 2), z05), ((50, 4), z2d), ((99, 2), z0d), ((53, 5), z1d)]
noncomputable def Γ12 : Ctx := ⟨tyTab, fnTab, tblSum tb12, tblLp lt12⟩
theorem tb12_ok : SumL Try.prog tb12 := SumL.cons z0p (SumL.cons z0g (SumL.cons z0k (SumL.cons z0q (SumL.cons z0t (SumL.cons z0o (SumL.cons z14 (SumL.cons z0v (SumL.cons z15 (SumL.cons z0u (SumL.cons z12 (SumL.cons z11 (SumL.cons z1n (SumL.cons z19 (SumL.cons z1m (SumL.cons z0m (SumL.cons z0x (SumL.cons z0w (SumL.cons z1a (SumL.cons z13 (SumL.cons z1i (SumL.cons z2g (SumL.cons z09 (SumL.cons z2a (SumL.cons z0e (SumL.cons z2h (SumL.cons z29 (SumL.cons z1v (SumL.cons z06 (SumL.cons z0b (SumL.cons z21 (SumL.cons z24 (SumL.cons z2j (SumL.cons z0z (SumL.cons z2m (SumL.cons z1t (SumL.cons z2o (SumL.nil)))))))))))))))))))))))))))))))))))))
theorem lt12_ok : LpL Try.prog fnTab lt12 := LpL.cons z0i (LpL.cons z0j (LpL.cons z1p (LpL.cons z02 (LpL.cons z04 (LpL.cons z1z (LpL.cons z08 (LpL.cons z0y (LpL.nil))))))))
noncomputable def z1x : List PT → Option (Bool × AV × List Blk)
  | [.agg [.row 1 q02 (.fl .f32 q0d), .row 1 q04 (.fl .f32 q0g), .row 1 q03 (.fl .f32 q0f)], .one (.s (.flt .f32 q10))] => some ((z8j q02 q0d q04 q0g q03 q0f q10), ((AV.v (TV.one (At.bool (z7w q02 q0d q04 q0g q03 q0f q10)))), []))
  | _ => none
def z9x (q02 : Nat) (q0d : List Nat) (q04 : Nat) (q0g : List Nat) (q03 : Nat) (q0f : List Nat) (q10 : Nat) : Option (Bool) → Option (AV × List Blk)
  | some r => some ((AV.v (TV.one (At.bool r))), [])
  | none => none
theorem zbh (q02 : Nat) (q0d : List Nat) (q04 : Nat) (q0g : List Nat) (q03 : Nat) (q0f : List Nat) (q10 : Nat) : evFn Γ12 8 8 3 (impTs 0 [.agg [.row 1 q02 (.fl .f32 q0d), .row 1 q04 (.fl .f32 q0g), .row 1 q03 (.fl .f32 q0f)], .one (.s (.flt .f32 q10))]).1 (impTs 0 [.agg [.row 1 q02 (.fl .f32 q0d), .row 1 q04 (.fl .f32 q0g), .row 1 q03 (.fl .f32 q0f)], .one (.s (.flt .f32 q10))]).2 (expo (impTs 0 [.agg [.row 1 q02 (.fl .f32 q0d), .row 1 q04 (.fl .f32 q0g), .row 1 q03 (.fl .f32 q0f)], .one (.s (.flt .f32 q10))]).2.length) = z4m q02 q0d q04 q0g q03 q0f q10 (fun c0_ => some ((AV.v (TV.one (At.bool c0_))), [])) := by kernel_rfl
theorem z1l : SumOne Try.prog 3 z1x := sum_of (Γ := Γ12) (fuel := 8) (d := 8) tyTab_ok (FnL.ok fnTab_ok _ _) (LpL.ok lt12_ok) (SumL.ok tb12_ok _) mixed (by
  intro pts v news hp hc
  clear hc
  unfold z1x at hp
  split at hp
  · rename_i q02 q0d q04 q0g q03 q0f q10
    exact Eq.trans (Eq.trans (zbh q02 q0d q04 q0g q03 q0f q10) (zad (z9x q02 q0d q04 q0g q03 q0f q10) rfl q02 q0d q04 q0g q03 q0f q10 (fun c0_ => some c0_))) (fin_out (o := (z9x q02 q0d q04 q0g q03 q0f q10)) (x := z4l q02 q0d q04 q0g q03 q0f q10) (d := default) (V := fun r => ((AV.v (TV.one (At.bool r))), [])) (fun r => rfl) hp)
  · cases hp)
noncomputable def tb13 : List (Nat × (List PT → Option (Bool × AV × List Blk))) := [(125, z1b), (128, z0h), (134, z0r), (137, z1c), (18, z1k), (48, z16), (54, z1w), (61, z1h), (97, z1u), (109, z1j), (14, z1q), (51, z1r), (56, z25), (103, z20), (111, z26), (118, z10), (52, z1f), (119, z1g), (16, z1y), (57, z1o), (19, z22), (62, z2r), (99, z0a), (49, z2n), (99, z0f), (116, z2t), (94, z2l), (98, z27), (117, z07), (117, z0c), (95, z2b), (96, z2i), (50, z2s), (55, z17), (15, z2u), (53, z23), (17, z2v), (3, z1x)]
noncomputable def lt13 : List ((Nat × Nat) × (Nat → St → Option (Bool × LO))) := [((52, 3), z0n), ((57, 4), z0s), ((62, 5), z28), ((99, 2), z03), ((99, 2), z05), ((50, 4), z2d), ((99, 2), z0d), ((53, 5), z1d)]
noncomputable def Γ13 : Ctx := ⟨tyTab, fnTab, tblSum tb13, tblLp lt13⟩
theorem tb13_ok : SumL Try.prog tb13 := SumL.cons z0p (SumL.cons z0g (SumL.cons z0k (SumL.cons z0q (SumL.cons z0t (SumL.cons z0o (SumL.cons z14 (SumL.cons z0v (SumL.cons z15 (SumL.cons z0u (SumL.cons z12 (SumL.cons z11 (SumL.cons z1n (SumL.cons z19 (SumL.cons z1m (SumL.cons z0m (SumL.cons z0x (SumL.cons z0w (SumL.cons z1a (SumL.cons z13 (SumL.cons z1i (SumL.cons z2g (SumL.cons z09 (SumL.cons z2a (SumL.cons z0e (SumL.cons z2h (SumL.cons z29 (SumL.cons z1v (SumL.cons z06 (SumL.cons z0b (SumL.cons z21 (SumL.cons z24 (SumL.cons z2j (SumL.cons z0z (SumL.cons z2m (SumL.cons z1t (SumL.cons z2o (SumL.cons z1l (SumL.nil))))))))))))))))))))))))))))))))))))))
theorem lt13_ok : LpL Try.prog fnTab lt13 := LpL.cons z0i (LpL.cons z0j (LpL.cons z1p (LpL.cons z02 (LpL.cons z04 (LpL.cons z1z (LpL.cons z08 (LpL.cons z0y (LpL.nil))))))))
noncomputable def tb14 : List (Nat × (List PT → Option (Bool × AV × List Blk))) := [(125, z1b), (128, z0h), (134, z0r), (137, z1c), (18, z1k), (48, z16), (54, z1w), (61, z1h), (97, z1u), (109, z1j), (14, z1q), (51, z1r), (56, z25), (103, z20), (111, z26), (118, z10), (52, z1f), (119, z1g), (16, z1y), (57, z1o), (19, z22), (62, z2r), (99, z0a), (49, z2n), (99, z0f), (116, z2t), (94, z2l), (98, z27), (117, z07), (117, z0c), (95, z2b), (96, z2i), (50, z2s), (55, z17), (15, z2u), (53, z23), (17, z2v), (3, z1x)]
noncomputable def lt14 : List ((Nat × Nat) × (Nat → St → Option (Bool × LO))) := [((52, 3), z0n), ((57, 4), z0s), ((62, 5), z28), ((99, 2), z03), ((99, 2), z05), ((50, 4), z2d), ((99, 2), z0d), ((53, 5), z1d)]
noncomputable def Γ14 : Ctx := ⟨tyTab, fnTab, tblSum tb14, tblLp lt14⟩
theorem tb14_ok : SumL Try.prog tb14 := SumL.cons z0p (SumL.cons z0g (SumL.cons z0k (SumL.cons z0q (SumL.cons z0t (SumL.cons z0o (SumL.cons z14 (SumL.cons z0v (SumL.cons z15 (SumL.cons z0u (SumL.cons z12 (SumL.cons z11 (SumL.cons z1n (SumL.cons z19 (SumL.cons z1m (SumL.cons z0m (SumL.cons z0x (SumL.cons z0w (SumL.cons z1a (SumL.cons z13 (SumL.cons z1i (SumL.cons z2g (SumL.cons z09 (SumL.cons z2a (SumL.cons z0e (SumL.cons z2h (SumL.cons z29 (SumL.cons z1v (SumL.cons z06 (SumL.cons z0b (SumL.cons z21 (SumL.cons z24 (SumL.cons z2j (SumL.cons z0z (SumL.cons z2m (SumL.cons z1t (SumL.cons z2o (SumL.cons z1l (SumL.nil))))))))))))))))))))))))))))))))))))))
theorem lt14_ok : LpL Try.prog fnTab lt14 := LpL.cons z0i (LpL.cons z0j (LpL.cons z1p (LpL.cons z02 (LpL.cons z04 (LpL.cons z1z (LpL.cons z08 (LpL.cons z0y (LpL.nil))))))))
noncomputable def tb15 : List (Nat × (List PT → Option (Bool × AV × List Blk))) := [(125, z1b), (128, z0h), (134, z0r), (137, z1c), (18, z1k), (48, z16), (54, z1w), (61, z1h), (97, z1u), (109, z1j), (14, z1q), (51, z1r), (56, z25), (103, z20), (111, z26), (118, z10), (52, z1f), (119, z1g), (16, z1y), (57, z1o), (19, z22), (62, z2r), (99, z0a), (49, z2n), (99, z0f), (116, z2t), (94, z2l), (98, z27), (117, z07), (117, z0c), (95, z2b), (96, z2i), (50, z2s), (55, z17), (15, z2u), (53, z23), (17, z2v), (3, z1x)]
noncomputable def lt15 : List ((Nat × Nat) × (Nat → St → Option (Bool × LO))) := [((52, 3), z0n), ((57, 4), z0s), ((62, 5), z28), ((99, 2), z03), ((99, 2), z05), ((50, 4), z2d), ((99, 2), z0d), ((53, 5), z1d)]
noncomputable def Γ15 : Ctx := ⟨tyTab, fnTab, tblSum tb15, tblLp lt15⟩
theorem tb15_ok : SumL Try.prog tb15 := SumL.cons z0p (SumL.cons z0g (SumL.cons z0k (SumL.cons z0q (SumL.cons z0t (SumL.cons z0o (SumL.cons z14 (SumL.cons z0v (SumL.cons z15 (SumL.cons z0u (SumL.cons z12 (SumL.cons z11 (SumL.cons z1n (SumL.cons z19 (SumL.cons z1m (SumL.cons z0m (SumL.cons z0x (SumL.cons z0w (SumL.cons z1a (SumL.cons z13 (SumL.cons z1i (SumL.cons z2g (SumL.cons z09 (SumL.cons z2a (SumL.cons z0e (SumL.cons z2h (SumL.cons z29 (SumL.cons z1v (SumL.cons z06 (SumL.cons z0b (SumL.cons z21 (SumL.cons z24 (SumL.cons z2j (SumL.cons z0z (SumL.cons z2m (SumL.cons z1t (SumL.cons z2o (SumL.cons z1l (SumL.nil))))))))))))))))))))))))))))))))))))))
theorem lt15_ok : LpL Try.prog fnTab lt15 := LpL.cons z0i (LpL.cons z0j (LpL.cons z1p (LpL.cons z02 (LpL.cons z04 (LpL.cons z1z (LpL.cons z08 (LpL.cons z0y (LpL.nil))))))))
noncomputable def tb16 : List (Nat × (List PT → Option (Bool × AV × List Blk))) := [(125, z1b), (128, z0h), (134, z0r), (137, z1c), (18, z1k), (48, z16), (54, z1w), (61, z1h), (97, z1u), (109, z1j), (14, z1q), (51, z1r), (56, z25), (103, z20), (111, z26), (118, z10), (52, z1f), (119, z1g), (16, z1y), (57, z1o), (19, z22), (62, z2r), (99, z0a), (49, z2n), (99, z0f), (116, z2t), (94, z2l), (98, z27), (117, z07), (117, z0c), (95, z2b), (96, z2i), (50, z2s), (55, z17), (15, z2u), (53, z23), (17, z2v), (3, z1x)]
noncomputable def lt16 : List ((Nat × Nat) × (Nat → St → Option (Bool × LO))) := [((52, 3), z0n), ((57, 4), z0s), ((62, 5), z28), ((99, 2), z03), ((99, 2), z05), ((50, 4), z2d), ((99, 2), z0d), ((53, 5), z1d)]
noncomputable def Γ16 : Ctx := ⟨tyTab, fnTab, tblSum tb16, tblLp lt16⟩
theorem tb16_ok : SumL Try.prog tb16 := SumL.cons z0p (SumL.cons z0g (SumL.cons z0k (SumL.cons z0q (SumL.cons z0t (SumL.cons z0o (SumL.cons z14 (SumL.cons z0v (SumL.cons z15 (SumL.cons z0u (SumL.cons z12 (SumL.cons z11 (SumL.cons z1n (SumL.cons z19 (SumL.cons z1m (SumL.cons z0m (SumL.cons z0x (SumL.cons z0w (SumL.cons z1a (SumL.cons z13 (SumL.cons z1i (SumL.cons z2g (SumL.cons z09 (SumL.cons z2a (SumL.cons z0e (SumL.cons z2h (SumL.cons z29 (SumL.cons z1v (SumL.cons z06 (SumL.cons z0b (SumL.cons z21 (SumL.cons z24 (SumL.cons z2j (SumL.cons z0z (SumL.cons z2m (SumL.cons z1t (SumL.cons z2o (SumL.cons z1l (SumL.nil))))))))))))))))))))))))))))))))))))))
theorem lt16_ok : LpL Try.prog fnTab lt16 := LpL.cons z0i (LpL.cons z0j (LpL.cons z1p (LpL.cons z02 (LpL.cons z04 (LpL.cons z1z (LpL.cons z08 (LpL.cons z0y (LpL.nil))))))))
noncomputable def tb17 : List (Nat × (List PT → Option (Bool × AV × List Blk))) := [(125, z1b), (128, z0h), (134, z0r), (137, z1c), (18, z1k), (48, z16), (54, z1w), (61, z1h), (97, z1u), (109, z1j), (14, z1q), (51, z1r), (56, z25), (103, z20), (111, z26), (118, z10), (52, z1f), (119, z1g), (16, z1y), (57, z1o), (19, z22), (62, z2r), (99, z0a), (49, z2n), (99, z0f), (116, z2t), (94, z2l), (98, z27), (117, z07), (117, z0c), (95, z2b), (96, z2i), (50, z2s), (55, z17), (15, z2u), (53, z23), (17, z2v), (3, z1x)]
noncomputable def lt17 : List ((Nat × Nat) × (Nat → St → Option (Bool × LO))) := [((52, 3), z0n), ((57, 4), z0s), ((62, 5), z28), ((99, 2), z03), ((99, 2), z05), ((50, 4), z2d), ((99, 2), z0d), ((53, 5), z1d)]
noncomputable def Γ17 : Ctx := ⟨tyTab, fnTab, tblSum tb17, tblLp lt17⟩
theorem tb17_ok : SumL Try.prog tb17 := SumL.cons z0p (SumL.cons z0g (SumL.cons z0k (SumL.cons z0q (SumL.cons z0t (SumL.cons z0o (SumL.cons z14 (SumL.cons z0v (SumL.cons z15 (SumL.cons z0u (SumL.cons z12 (SumL.cons z11 (SumL.cons z1n (SumL.cons z19 (SumL.cons z1m (SumL.cons z0m (SumL.cons z0x (SumL.cons z0w (SumL.cons z1a (SumL.cons z13 (SumL.cons z1i (SumL.cons z2g (SumL.cons z09 (SumL.cons z2a (SumL.cons z0e (SumL.cons z2h (SumL.cons z29 (SumL.cons z1v (SumL.cons z06 (SumL.cons z0b (SumL.cons z21 (SumL.cons z24 (SumL.cons z2j (SumL.cons z0z (SumL.cons z2m (SumL.cons z1t (SumL.cons z2o (SumL.cons z1l (SumL.nil))))))))))))))))))))))))))))))))))))))
theorem lt17_ok : LpL Try.prog fnTab lt17 := LpL.cons z0i (LpL.cons z0j (LpL.cons z1p (LpL.cons z02 (LpL.cons z04 (LpL.cons z1z (LpL.cons z08 (LpL.cons z0y (LpL.nil))))))))
noncomputable def tb18 : List (Nat × (List PT → Option (Bool × AV × List Blk))) := [(125, z1b), (128, z0h), (134, z0r), (137, z1c), (18, z1k), (48, z16), (54, z1w), (61, z1h), (97, z1u), (109, z1j), (14, z1q), (51, z1r), (56, z25), (103, z20), (111, z26), (118, z10), (52, z1f), (119, z1g), (16, z1y), (57, z1o), (19, z22), (62, z2r), (99, z0a), (49, z2n), (99, z0f), (116, z2t), (94, z2l), (98, z27), (117, z07), (117, z0c), (95, z2b), (96, z2i), (50, z2s), (55, z17), (15, z2u), (53, z23), (17, z2v), (3, z1x)]
noncomputable def lt18 : List ((Nat × Nat) × (Nat → St → Option (Bool × LO))) := [((52, 3), z0n), ((57, 4), z0s), ((62, 5), z28), ((99, 2), z03), ((99, 2), z05), ((50, 4), z2d), ((99, 2), z0d), ((53, 5), z1d)]
noncomputable def Γ18 : Ctx := ⟨tyTab, fnTab, tblSum tb18, tblLp lt18⟩
theorem tb18_ok : SumL Try.prog tb18 := SumL.cons z0p (SumL.cons z0g (SumL.cons z0k (SumL.cons z0q (SumL.cons z0t (SumL.cons z0o (SumL.cons z14 (SumL.cons z0v (SumL.cons z15 (SumL.cons z0u (SumL.cons z12 (SumL.cons z11 (SumL.cons z1n (SumL.cons z19 (SumL.cons z1m (SumL.cons z0m (SumL.cons z0x (SumL.cons z0w (SumL.cons z1a (SumL.cons z13 (SumL.cons z1i (SumL.cons z2g (SumL.cons z09 (SumL.cons z2a (SumL.cons z0e (SumL.cons z2h (SumL.cons z29 (SumL.cons z1v (SumL.cons z06 (SumL.cons z0b (SumL.cons z21 (SumL.cons z24 (SumL.cons z2j (SumL.cons z0z (SumL.cons z2m (SumL.cons z1t (SumL.cons z2o (SumL.cons z1l (SumL.nil))))))))))))))))))))))))))))))))))))))
theorem lt18_ok : LpL Try.prog fnTab lt18 := LpL.cons z0i (LpL.cons z0j (LpL.cons z1p (LpL.cons z02 (LpL.cons z04 (LpL.cons z1z (LpL.cons z08 (LpL.cons z0y (LpL.nil))))))))
noncomputable def tb19 : List (Nat × (List PT → Option (Bool × AV × List Blk))) := [(125, z1b), (128, z0h), (134, z0r), (137, z1c), (18, z1k), (48, z16), (54, z1w), (61, z1h), (97, z1u), (109, z1j), (14, z1q), (51, z1r), (56, z25), (103, z20), (111, z26), (118, z10), (52, z1f), (119, z1g), (16, z1y), (57, z1o), (19, z22), (62, z2r), (99, z0a), (49, z2n), (99, z0f), (116, z2t), (94, z2l), (98, z27), (117, z07), (117, z0c), (95, z2b), (96, z2i), (50, z2s), (55, z17), (15, z2u), (53, z23), (17, z2v), (3, z1x)]
noncomputable def lt19 : List ((Nat × Nat) × (Nat → St → Option (Bool × LO))) := [((52, 3), z0n), ((57, 4), z0s), ((62, 5), z28), ((99, 2), z03), ((99, 2), z05), ((50, 4), z2d), ((99, 2), z0d), ((53, 5), z1d)]
noncomputable def Γ19 : Ctx := ⟨tyTab, fnTab, tblSum tb19, tblLp lt19⟩
theorem tb19_ok : SumL Try.prog tb19 := SumL.cons z0p (SumL.cons z0g (SumL.cons z0k (SumL.cons z0q (SumL.cons z0t (SumL.cons z0o (SumL.cons z14 (SumL.cons z0v (SumL.cons z15 (SumL.cons z0u (SumL.cons z12 (SumL.cons z11 (SumL.cons z1n (SumL.cons z19 (SumL.cons z1m (SumL.cons z0m (SumL.cons z0x (SumL.cons z0w (SumL.cons z1a (SumL.cons z13 (SumL.cons z1i (SumL.cons z2g (SumL.cons z09 (SumL.cons z2a (SumL.cons z0e (SumL.cons z2h (SumL.cons z29 (SumL.cons z1v (SumL.cons z06 (SumL.cons z0b (SumL.cons z21 (SumL.cons z24 (SumL.cons z2j (SumL.cons z0z (SumL.cons z2m (SumL.cons z1t (SumL.cons z2o (SumL.cons z1l (SumL.nil))))))))))))))))))))))))))))))))))))))
theorem lt19_ok : LpL Try.prog fnTab lt19 := LpL.cons z0i (LpL.cons z0j (LpL.cons z1p (LpL.cons z02 (LpL.cons z04 (LpL.cons z1z (LpL.cons z08 (LpL.cons z0y (LpL.nil))))))))
noncomputable def tb20 : List (Nat × (List PT → Option (Bool × AV × List Blk))) := [(125, z1b), (128, z0h), (134, z0r), (137, z1c), (18, z1k), (48, z16), (54, z1w), (61, z1h), (97, z1u), (109, z1j), (14, z1q), (51, z1r), (56, z25), (103, z20), (111, z26), (118, z10), (52, z1f), (119, z1g), (16, z1y), (57, z1o), (19, z22), (62, z2r), (99, z0a), (49, z2n), (99, z0f), (116, z2t), (94, z2l), (98, z27), (117, z07), (117, z0c), (95, z2b), (96, z2i), (50, z2s), (55, z17), (15, z2u), (53, z23), (17, z2v), (3, z1x)]
noncomputable def lt20 : List ((Nat × Nat) × (Nat → St → Option (Bool × LO))) := [((52, 3), z0n), ((57, 4), z0s), ((62, 5), z28), ((99, 2), z03), ((99, 2), z05), ((50, 4), z2d), ((99, 2), z0d), ((53, 5), z1d)]
noncomputable def Γ20 : Ctx := ⟨tyTab, fnTab, tblSum tb20, tblLp lt20⟩
theorem tb20_ok : SumL Try.prog tb20 := SumL.cons z0p (SumL.cons z0g (SumL.cons z0k (SumL.cons z0q (SumL.cons z0t (SumL.cons z0o (SumL.cons z14 (SumL.cons z0v (SumL.cons z15 (SumL.cons z0u (SumL.cons z12 (SumL.cons z11 (SumL.cons z1n (SumL.cons z19 (SumL.cons z1m (SumL.cons z0m (SumL.cons z0x (SumL.cons z0w (SumL.cons z1a (SumL.cons z13 (SumL.cons z1i (SumL.cons z2g (SumL.cons z09 (SumL.cons z2a (SumL.cons z0e (SumL.cons z2h (SumL.cons z29 (SumL.cons z1v (SumL.cons z06 (SumL.cons z0b (SumL.cons z21 (SumL.cons z24 (SumL.cons z2j (SumL.cons z0z (SumL.cons z2m (SumL.cons z1t (SumL.cons z2o (SumL.cons z1l (SumL.nil))))))))))))))))))))))))))))))))))))))
theorem lt20_ok : LpL Try.prog fnTab lt20 := LpL.cons z0i (LpL.cons z0j (LpL.cons z1p (LpL.cons z02 (LpL.cons z04 (LpL.cons z1z (LpL.cons z08 (LpL.cons z0y (LpL.nil))))))))
noncomputable def tb21 : List (Nat × (List PT → Option (Bool × AV × List Blk))) := [(125, z1b), (128, z0h), (134, z0r), (137, z1c), (18, z1k), (48, z16), (54, z1w), (61, z1h), (97, z1u), (109, z1j), (14, z1q), (51, z1r), (56, z25), (103, z20), (111, z26), (118, z10), (52, z1f), (119, z1g), (16, z1y), (57, z1o), (19, z22), (62, z2r), (99, z0a), (49, z2n), (99, z0f), (116, z2t), (94, z2l), (98, z27), (117, z07), (117, z0c), (95, z2b), (96, z2i), (50, z2s), (55, z17), (15, z2u), (53, z23), (17, z2v), (3, z1x)]
noncomputable def lt21 : List ((Nat × Nat) × (Nat → St → Option (Bool × LO))) := [((52, 3), z0n), ((57, 4), z0s), ((62, 5), z28), ((99, 2), z03), ((99, 2), z05), ((50, 4), z2d), ((99, 2), z0d), ((53, 5), z1d)]
noncomputable def Γ21 : Ctx := ⟨tyTab, fnTab, tblSum tb21, tblLp lt21⟩
theorem tb21_ok : SumL Try.prog tb21 := SumL.cons z0p (SumL.cons z0g (SumL.cons z0k (SumL.cons z0q (SumL.cons z0t (SumL.cons z0o (SumL.cons z14 (SumL.cons z0v (SumL.cons z15 (SumL.cons z0u (SumL.cons z12 (SumL.cons z11 (SumL.cons z1n (SumL.cons z19 (SumL.cons z1m (SumL.cons z0m (SumL.cons z0x (SumL.cons z0w (SumL.cons z1a (SumL.cons z13 (SumL.cons z1i (SumL.cons z2g (SumL.cons z09 (SumL.cons z2a (SumL.cons z0e (SumL.cons z2h (SumL.cons z29 (SumL.cons z1v (SumL.cons z06 (SumL.cons z0b (SumL.cons z21 (SumL.cons z24 (SumL.cons z2j (SumL.cons z0z (SumL.cons z2m (SumL.cons z1t (SumL.cons z2o (SumL.cons z1l (SumL.nil))))))))))))))))))))))))))))))))))))))
theorem lt21_ok : LpL Try.prog fnTab lt21 := LpL.cons z0i (LpL.cons z0j (LpL.cons z1p (LpL.cons z02 (LpL.cons z04 (LpL.cons z1z (LpL.cons z08 (LpL.cons z0y (LpL.nil))))))))
noncomputable def tb22 : List (Nat × (List PT → Option (Bool × AV × List Blk))) := [(125, z1b), (128, z0h), (134, z0r), (137, z1c), (18, z1k), (48, z16), (54, z1w), (61, z1h), (97, z1u), (109, z1j), (14, z1q), (51, z1r), (56, z25), (103, z20), (111, z26), (118, z10), (52, z1f), (119, z1g), (16, z1y), (57, z1o), (19, z22), (62, z2r), (99, z0a), (49, z2n), (99, z0f), (116, z2t), (94, z2l), (98, z27), (117, z07), (117, z0c), (95, z2b), (96, z2i), (50, z2s), (55, z17), (15, z2u), (53, z23), (17, z2v), (3, z1x)]
noncomputable def lt22 : List ((Nat × Nat) × (Nat → St → Option (Bool × LO))) := [((52, 3), z0n), ((57, 4), z0s), ((62, 5), z28), ((99, 2), z03), ((99, 2), z05), ((50, 4), z2d), ((99, 2), z0d), ((53, 5), z1d)]
noncomputable def Γ22 : Ctx := ⟨tyTab, fnTab, tblSum tb22, tblLp lt22⟩
theorem tb22_ok : SumL Try.prog tb22 := SumL.cons z0p (SumL.cons z0g (SumL.cons z0k (SumL.cons z0q (SumL.cons z0t (SumL.cons z0o (SumL.cons z14 (SumL.cons z0v (SumL.cons z15 (SumL.cons z0u (SumL.cons z12 (SumL.cons z11 (SumL.cons z1n (SumL.cons z19 (SumL.cons z1m (SumL.cons z0m (SumL.cons z0x (SumL.cons z0w (SumL.cons z1a (SumL.cons z13 (SumL.cons z1i (SumL.cons z2g (SumL.cons z09 (SumL.cons z2a (SumL.cons z0e (SumL.cons z2h (SumL.cons z29 (SumL.cons z1v (SumL.cons z06 (SumL.cons z0b (SumL.cons z21 (SumL.cons z24 (SumL.cons z2j (SumL.cons z0z (SumL.cons z2m (SumL.cons z1t (SumL.cons z2o (SumL.cons z1l (SumL.nil))))))))))))))))))))))))))))))))))))))
theorem lt22_ok : LpL Try.prog fnTab lt22 := LpL.cons z0i (LpL.cons z0j (LpL.cons z1p (LpL.cons z02 (LpL.cons z04 (LpL.cons z1z (LpL.cons z08 (LpL.cons z0y (LpL.nil))))))))
noncomputable def tb23 : List (Nat × (List PT → Option (Bool × AV × List Blk))) := [(125, z1b), (128, z0h), (134, z0r), (137, z1c), (18, z1k), (48, z16), (54, z1w), (61, z1h), (97, z1u), (109, z1j), (14, z1q), (51, z1r), (56, z25), (103, z20), (111, z26), (118, z10), (52, z1f), (119, z1g), (16, z1y), (57, z1o), (19, z22), (62, z2r), (99, z0a), (49, z2n), (99, z0f), (116, z2t), (94, z2l), (98, z27), (117, z07), (117, z0c), (95, z2b), (96, z2i), (50, z2s), (55, z17), (15, z2u), (53, z23), (17, z2v), (3, z1x)]
noncomputable def lt23 : List ((Nat × Nat) × (Nat → St → Option (Bool × LO))) := [((52, 3), z0n), ((57, 4), z0s), ((62, 5), z28), ((99, 2), z03), ((99, 2), z05), ((50, 4), z2d), ((99, 2), z0d), ((53, 5), z1d)]
noncomputable def Γ23 : Ctx := ⟨tyTab, fnTab, tblSum tb23, tblLp lt23⟩
theorem tb23_ok : SumL Try.prog tb23 := SumL.cons z0p (SumL.cons z0g (SumL.cons z0k (SumL.cons z0q (SumL.cons z0t (SumL.cons z0o (SumL.cons z14 (SumL.cons z0v (SumL.cons z15 (SumL.cons z0u (SumL.cons z12 (SumL.cons z11 (SumL.cons z1n (SumL.cons z19 (SumL.cons z1m (SumL.cons z0m (SumL.cons z0x (SumL.cons z0w (SumL.cons z1a (SumL.cons z13 (SumL.cons z1i (SumL.cons z2g (SumL.cons z09 (SumL.cons z2a (SumL.cons z0e (SumL.cons z2h (SumL.cons z29 (SumL.cons z1v (SumL.cons z06 (SumL.cons z0b (SumL.cons z21 (SumL.cons z24 (SumL.cons z2j (SumL.cons z0z (SumL.cons z2m (SumL.cons z1t (SumL.cons z2o (SumL.cons z1l (SumL.nil))))))))))))))))))))))))))))))))))))))
theorem lt23_ok : LpL Try.prog fnTab lt23 := LpL.cons z0i (LpL.cons z0j (LpL.cons z1p (LpL.cons z02 (LpL.cons z04 (LpL.cons z1z (LpL.cons z08 (LpL.cons z0y (LpL.nil))))))))
noncomputable def tb24 : List (Nat × (List PT → Option (Bool × AV × List Blk))) := [(125, z1b), (128, z0h), (134, z0r), (137, z1c), (18, z1k), (48, z16), (54, z1w), (61, z1h), (97, z1u), (109, z1j), (14, z1q), (51, z1r), (56, z25), (103, z20), (111, z26), (118, z10), (52, z1f), (119, z1g), (16, z1y), (57, z1o), (19, z22), (62, z2r), (99, z0a), (49, z2n), (99, z0f), (116, z2t), (94, z2l), (98, z27), (117, z07), (117, z0c), (95, z2b), (96, z2i), (50, z2s), (55, z17), (15, z2u), (53, z23), (17, z2v), (3, z1x)]
noncomputable def lt24 : List ((Nat × Nat) × (Nat → St → Option (Bool × LO))) := [((52, 3), z0n), ((57, 4), z0s), ((62, 5), z28), ((99, 2), z03), ((99, 2), z05), ((50, 4), z2d), ((99, 2), z0d), ((53, 5), z1d)]
noncomputable def Γ24 : Ctx := ⟨tyTab, fnTab, tblSum tb24, tblLp lt24⟩
theorem tb24_ok : SumL Try.prog tb24 := SumL.cons z0p (SumL.cons z0g (SumL.cons z0k (SumL.cons z0q (SumL.cons z0t (SumL.cons z0o (SumL.cons z14 (SumL.cons z0v (SumL.cons z15 (SumL.cons z0u (SumL.cons z12 (SumL.cons z11 (SumL.cons z1n (SumL.cons z19 (SumL.cons z1m (SumL.cons z0m (SumL.cons z0x (SumL.cons z0w (SumL.cons z1a (SumL.cons z13 (SumL.cons z1i (SumL.cons z2g (SumL.cons z09 (SumL.cons z2a (SumL.cons z0e (SumL.cons z2h (SumL.cons z29 (SumL.cons z1v (SumL.cons z06 (SumL.cons z0b (SumL.cons z21 (SumL.cons z24 (SumL.cons z2j (SumL.cons z0z (SumL.cons z2m (SumL.cons z1t (SumL.cons z2o (SumL.cons z1l (SumL.nil))))))))))))))))))))))))))))))))))))))
theorem lt24_ok : LpL Try.prog fnTab lt24 := LpL.cons z0i (LpL.cons z0j (LpL.cons z1p (LpL.cons z02 (LpL.cons z04 (LpL.cons z1z (LpL.cons z08 (LpL.cons z0y (LpL.nil))))))))
noncomputable def tb25 : List (Nat × (List PT → Option (Bool × AV × List Blk))) := [(125, z1b), (128, z0h), (134, z0r), (137, z1c), (18, z1k), (48, z16), (54, z1w), (61, z1h), (97, z1u), (109, z1j), (14, z1q), (51, z1r), (56, z25), (103, z20), (111, z26), (118, z10), (52, z1f), (119, z1g), (16, z1y), (57, z1o), (19, z22), (62, z2r), (99, z0a), (49, z2n), (99, z0f), (116, z2t), (94, z2l), (98, z27), (117, z07), (117, z0c), (95, z2b), (96, z2i), (50, z2s), (55, z17), (15, z2u), (53, z23), (17, z2v), (3, z1x)]
noncomputable def lt25 : List ((Nat × Nat) × (Nat → St → Option (Bool × LO))) := [((52, 3), z0n), ((57, 4), z0s), ((62, 5), z28), ((99, 2), z03), ((99, 2), z05), ((50, 4), z2d), ((99, 2), z0d), ((53, 5), z1d)]
noncomputable def Γ25 : Ctx := ⟨tyTab, fnTab, tblSum tb25, tblLp lt25⟩
theorem tb25_ok : SumL Try.prog tb25 := SumL.cons z0p (SumL.cons z0g (SumL.cons z0k (SumL.cons z0q (SumL.cons z0t (SumL.cons z0o (SumL.cons z14 (SumL.cons z0v (SumL.cons z15 (SumL.cons z0u (SumL.cons z12 (SumL.cons z11 (SumL.cons z1n (SumL.cons z19 (SumL.cons z1m (SumL.cons z0m (SumL.cons z0x (SumL.cons z0w (SumL.cons z1a (SumL.cons z13 (SumL.cons z1i (SumL.cons z2g (SumL.cons z09 (SumL.cons z2a (SumL.cons z0e (SumL.cons z2h (SumL.cons z29 (SumL.cons z1v (SumL.cons z06 (SumL.cons z0b (SumL.cons z21 (SumL.cons z24 (SumL.cons z2j (SumL.cons z0z (SumL.cons z2m (SumL.cons z1t (SumL.cons z2o (SumL.cons z1l (SumL.nil))))))))))))))))))))))))))))))))))))))
theorem lt25_ok : LpL Try.prog fnTab lt25 := LpL.cons z0i (LpL.cons z0j (LpL.cons z1p (LpL.cons z02 (LpL.cons z04 (LpL.cons z1z (LpL.cons z08 (LpL.cons z0y (LpL.nil))))))))
noncomputable def tb26 : List (Nat × (List PT → Option (Bool × AV × List Blk))) := [(125, z1b), (128, z0h), (134, z0r), (137, z1c), (18, z1k), (48, z16), (54, z1w), (61, z1h), (97, z1u), (109, z1j), (14, z1q), (51, z1r), (56, z25), (103, z20), (111, z26), (118, z10), (52, z1f), (119, z1g), (16, z1y), (57, z1o), (19, z22), (62, z2r), (99, z0a), (49, z2n), (99, z0f), (116, z2t), (94, z2l), (98, z27), (117, z07), (117, z0c), (95, z2b), (96, z2i), (50, z2s), (55, z17), (15, z2u), (53, z23), (17, z2v), (3, z1x)]
noncomputable def lt26 : List ((Nat × Nat) × (Nat → St → Option (Bool × LO))) := [((52, 3), z0n), ((57, 4), z0s), ((62, 5), z28), ((99, 2), z03), ((99, 2), z05), ((50, 4), z2d), ((99, 2), z0d), ((53, 5), z1d)]
noncomputable def Γ26 : Ctx := ⟨tyTab, fnTab, tblSum tb26, tblLp lt26⟩
theorem tb26_ok : SumL Try.prog tb26 := SumL.cons z0p (SumL.cons z0g (SumL.cons z0k (SumL.cons z0q (SumL.cons z0t (SumL.cons z0o (SumL.cons z14 (SumL.cons z0v (SumL.cons z15 (SumL.cons z0u (SumL.cons z12 (SumL.cons z11 (SumL.cons z1n (SumL.cons z19 (SumL.cons z1m (SumL.cons z0m (SumL.cons z0x (SumL.cons z0w (SumL.cons z1a (SumL.cons z13 (SumL.cons z1i (SumL.cons z2g (SumL.cons z09 (SumL.cons z2a (SumL.cons z0e (SumL.cons z2h (SumL.cons z29 (SumL.cons z1v (SumL.cons z06 (SumL.cons z0b (SumL.cons z21 (SumL.cons z24 (SumL.cons z2j (SumL.cons z0z (SumL.cons z2m (SumL.cons z1t (SumL.cons z2o (SumL.cons z1l (SumL.nil))))))))))))))))))))))))))))))))))))))
theorem lt26_ok : LpL Try.prog fnTab lt26 := LpL.cons z0i (LpL.cons z0j (LpL.cons z1p (LpL.cons z02 (LpL.cons z04 (LpL.cons z1z (LpL.cons z08 (LpL.cons z0y (LpL.nil))))))))
noncomputable def tb27 : List (Nat × (List PT → Option (Bool × AV × List Blk))) := [(125, z1b), (128, z0h), (134, z0r), (137, z1c), (18, z1k), (48, z16), (54, z1w), (61, z1h), (97, z1u), (109, z1j), (14, z1q), (51, z1r), (56, z25), (103, z20), (111, z26), (118, z10), (52, z1f), (119, z1g), (16, z1y), (57, z1o), (19, z22), (62, z2r), (99, z0a), (49, z2n), (99, z0f), (116, z2t), (94, z2l), (98, z27), (117, z07), (117, z0c), (95, z2b), (96, z2i), (50, z2s), (55, z17), (15, z2u), (53, z23), (17, z2v), (3, z1x)]
noncomputable def lt27 : List ((Nat × Nat) × (Nat → St → Option (Bool × LO))) := [((52, 3), z0n), ((57, 4), z0s), ((62, 5), z28), ((99, 2), z03), ((99, 2), z05), ((50, 4), z2d), ((99, 2), z0d), ((53, 5), z1d)]
noncomputable def Γ27 : Ctx := ⟨tyTab, fnTab, tblSum tb27, tblLp lt27⟩
theorem tb27_ok : SumL Try.prog tb27 := SumL.cons z0p (SumL.cons z0g (SumL.cons z0k (SumL.cons z0q (SumL.cons z0t (SumL.cons z0o (SumL.cons z14 (SumL.cons z0v (SumL.cons z15 (SumL.cons z0u (SumL.cons z12 (SumL.cons z11 (SumL.cons z1n (SumL.cons z19 (SumL.cons z1m (SumL.cons z0m (SumL.cons z0x (SumL.cons z0w (SumL.cons z1a (SumL.cons z13 (SumL.cons z1i (SumL.cons z2g (SumL.cons z09 (SumL.cons z2a (SumL.cons z0e (SumL.cons z2h (SumL.cons z29 (SumL.cons z1v (SumL.cons z06 (SumL.cons z0b (SumL.cons z21 (SumL.cons z24 (SumL.cons z2j (SumL.cons z0z (SumL.cons z2m (SumL.cons z1t (SumL.cons z2o (SumL.cons z1l (SumL.nil))))))))))))))))))))))))))))))))))))))
theorem lt27_ok : LpL Try.prog fnTab lt27 := LpL.cons z0i (LpL.cons z0j (LpL.cons z1p (LpL.cons z02 (LpL.cons z04 (LpL.cons z1z (LpL.cons z08 (LpL.cons z0y (LpL.nil))))))))
noncomputable def tb28 : List (Nat × (List PT → Option (Bool × AV × List Blk))) := [(125, z1b), (128, z0h), (134, z0r), (137, z1c), (18, z1k), (48, z16), (54, z1w), (61, z1h), (97, z1u), (109, z1j), (14, z1q), (51, z1r), (56, z25), (103, z20), (111, z26), (118, z10), (52, z1f), (119, z1g), (16, z1y), (57, z1o), (19, z22), (62, z2r), (99, z0a), (49, z2n), (99, z0f), (116, z2t), (94, z2l), (98, z27), (117, z07), (117, z0c), (95, z2b), (96, z2i), (50, z2s), (55, z17), (15, z2u), (53, z23), (17, z2v), (3, z1x)]
noncomputable def lt28 : List ((Nat × Nat) × (Nat → St → Option (Bool × LO))) := [((52, 3), z0n), ((57, 4), z0s), ((62, 5), z28), ((99, 2), z03), ((99, 2), z05), ((50, 4), z2d), ((99, 2), z0d), ((53, 5), z1d)]
noncomputable def Γ28 : Ctx := ⟨tyTab, fnTab, tblSum tb28, tblLp lt28⟩
theorem tb28_ok : SumL Try.prog tb28 := SumL.cons z0p (SumL.cons z0g (SumL.cons z0k (SumL.cons z0q (SumL.cons z0t (SumL.cons z0o (SumL.cons z14 (SumL.cons z0v (SumL.cons z15 (SumL.cons z0u (SumL.cons z12 (SumL.cons z11 (SumL.cons z1n (SumL.cons z19 (SumL.cons z1m (SumL.cons z0m (SumL.cons z0x (SumL.cons z0w (SumL.cons z1a (SumL.cons z13 (SumL.cons z1i (SumL.cons z2g (SumL.cons z09 (SumL.cons z2a (SumL.cons z0e (SumL.cons z2h (SumL.cons z29 (SumL.cons z1v (SumL.cons z06 (SumL.cons z0b (SumL.cons z21 (SumL.cons z24 (SumL.cons z2j (SumL.cons z0z (SumL.cons z2m (SumL.cons z1t (SumL.cons z2o (SumL.cons z1l (SumL.nil))))))))))))))))))))))))))))))))))))))
theorem lt28_ok : LpL Try.prog fnTab lt28 := LpL.cons z0i (LpL.cons z0j (LpL.cons z1p (LpL.cons z02 (LpL.cons z04 (LpL.cons z1z (LpL.cons z08 (LpL.cons z0y (LpL.nil))))))))
noncomputable def tb29 : List (Nat × (List PT → Option (Bool × AV × List Blk))) := [(125, z1b), (128, z0h), (134, z0r), (137, z1c), (18, z1k), (48, z16), (54, z1w), (61, z1h), (97, z1u), (109, z1j), (14, z1q), (51, z1r), (56, z25), (103, z20), (111, z26), (118, z10), (52, z1f), (119, z1g), (16, z1y), (57, z1o), (19, z22), (62, z2r), (99, z0a), (49, z2n), (99, z0f), (116, z2t), (94, z2l), (98, z27), (117, z07), (117, z0c), (95, z2b), (96, z2i), (50, z2s), (55, z17), (15, z2u), (53, z23), (17, z2v), (3, z1x)]
noncomputable def lt29 : List ((Nat × Nat) × (Nat → St → Option (Bool × LO))) := [((52, 3), z0n), ((57, 4), z0s), ((62, 5), z28), ((99, 2), z03), ((99, 2), z05), ((50, 4), z2d), ((99, 2), z0d), ((53, 5), z1d)]
noncomputable def Γ29 : Ctx := ⟨tyTab, fnTab, tblSum tb29, tblLp lt29⟩
theorem tb29_ok : SumL Try.prog tb29 := SumL.cons z0p (SumL.cons z0g (SumL.cons z0k (SumL.cons z0q (SumL.cons z0t (SumL.cons z0o (SumL.cons z14 (SumL.cons z0v (SumL.cons z15 (SumL.cons z0u (SumL.cons z12 (SumL.cons z11 (SumL.cons z1n (SumL.cons z19 (SumL.cons z1m (SumL.cons z0m (SumL.cons z0x (SumL.cons z0w (SumL.cons z1a (SumL.cons z13 (SumL.cons z1i (SumL.cons z2g (SumL.cons z09 (SumL.cons z2a (SumL.cons z0e (SumL.cons z2h (SumL.cons z29 (SumL.cons z1v (SumL.cons z06 (SumL.cons z0b (SumL.cons z21 (SumL.cons z24 (SumL.cons z2j (SumL.cons z0z (SumL.cons z2m (SumL.cons z1t (SumL.cons z2o (SumL.cons z1l (SumL.nil))))))))))))))))))))))))))))))))))))))
theorem lt29_ok : LpL Try.prog fnTab lt29 := LpL.cons z0i (LpL.cons z0j (LpL.cons z1p (LpL.cons z02 (LpL.cons z04 (LpL.cons z1z (LpL.cons z08 (LpL.cons z0y (LpL.nil))))))))
noncomputable def tb30 : List (Nat × (List PT → Option (Bool × AV × List Blk))) := [(125, z1b), (128, z0h), (134, z0r), (137, z1c), (18, z1k), (48, z16), (54, z1w), (61, z1h), (97, z1u), (109, z1j), (14, z1q), (51, z1r), (56, z25), (103, z20), (111, z26), (118, z10), (52, z1f), (119, z1g), (16, z1y), (57, z1o), (19, z22), (62, z2r), (99, z0a), (49, z2n), (99, z0f), (116, z2t), (94, z2l), (98, z27), (117, z07), (117, z0c), (95, z2b), (96, z2i), (50, z2s), (55, z17), (15, z2u), (53, z23), (17, z2v), (3, z1x)]
noncomputable def lt30 : List ((Nat × Nat) × (Nat → St → Option (Bool × LO))) := [((52, 3), z0n), ((57, 4), z0s), ((62, 5), z28), ((99, 2), z03), ((99, 2), z05), ((50, 4), z2d), ((99, 2), z0d), ((53, 5), z1d)]
noncomputable def Γ30 : Ctx := ⟨tyTab, fnTab, tblSum tb30, tblLp lt30⟩
theorem tb30_ok : SumL Try.prog tb30 := SumL.cons z0p (SumL.cons z0g (SumL.cons z0k (SumL.cons z0q (SumL.cons z0t (SumL.cons z0o (SumL.cons z14 (SumL.cons z0v (SumL.cons z15 (SumL.cons z0u (SumL.cons z12 (SumL.cons z11 (SumL.cons z1n (SumL.cons z19 (SumL.cons z1m (SumL.cons z0m (SumL.cons z0x (SumL.cons z0w (SumL.cons z1a (SumL.cons z13 (SumL.cons z1i (SumL.cons z2g (SumL.cons z09 (SumL.cons z2a (SumL.cons z0e (SumL.cons z2h (SumL.cons z29 (SumL.cons z1v (SumL.cons z06 (SumL.cons z0b (SumL.cons z21 (SumL.cons z24 (SumL.cons z2j (SumL.cons z0z (SumL.cons z2m (SumL.cons z1t (SumL.cons z2o (SumL.cons z1l (SumL.nil))))))))))))))))))))))))))))))))))))))
theorem lt30_ok : LpL Try.prog fnTab lt30 := LpL.cons z0i (LpL.cons z0j (LpL.cons z1p (LpL.cons z02 (LpL.cons z04 (LpL.cons z1z (LpL.cons z08 (LpL.cons z0y (LpL.nil))))))))
noncomputable def tb31 : List (Nat × (List PT → Option (Bool × AV × List Blk))) := [(125, z1b), (128, z0h), (134, z0r), (137, z1c), (18, z1k), (48, z16), (54, z1w), (61, z1h), (97, z1u), (109, z1j), (14, z1q), (51, z1r), (56, z25), (103, z20), (111, z26), (118, z10), (52, z1f), (119, z1g), (16, z1y), (57, z1o), (19, z22), (62, z2r), (99, z0a), (49, z2n), (99, z0f), (116, z2t), (94, z2l), (98, z27), (117, z07), (117, z0c), (95, z2b), (96, z2i), (50, z2s), (55, z17), (15, z2u), (53, z23), (17, z2v), (3, z1x)]
noncomputable def lt31 : List ((Nat × Nat) × (Nat → St → Option (Bool × LO))) := [((52, 3), z0n), ((57, 4), z0s), ((62, 5), z28), ((99, 2), z03), ((99, 2), z05), ((50, 4), z2d), ((99, 2), z0d), ((53, 5), z1d)]
noncomputable def Γ31 : Ctx := ⟨tyTab, fnTab, tblSum tb31, tblLp lt31⟩
theorem tb31_ok : SumL Try.prog tb31 := SumL.cons z0p (SumL.cons z0g (SumL.cons z0k (SumL.cons z0q (SumL.cons z0t (SumL.cons z0o (SumL.cons z14 (SumL.cons z0v (SumL.cons z15 (SumL.cons z0u (SumL.cons z12 (SumL.cons z11 (SumL.cons z1n (SumL.cons z19 (SumL.cons z1m (SumL.cons z0m (SumL.cons z0x (SumL.cons z0w (SumL.cons z1a (SumL.cons z13 (SumL.cons z1i (SumL.cons z2g (SumL.cons z09 (SumL.cons z2a (SumL.cons z0e (SumL.cons z2h (SumL.cons z29 (SumL.cons z1v (SumL.cons z06 (SumL.cons z0b (SumL.cons z21 (SumL.cons z24 (SumL.cons z2j (SumL.cons z0z (SumL.cons z2m (SumL.cons z1t (SumL.cons z2o (SumL.cons z1l (SumL.nil))))))))))))))))))))))))))))))))))))))
theorem lt31_ok : LpL Try.prog fnTab lt31 := LpL.cons z0i (LpL.cons z0j (LpL.cons z1p (LpL.cons z02 (LpL.cons z04 (LpL.cons z1z (LpL.cons z08 (LpL.cons z0y (LpL.nil))))))))
noncomputable def tb32 : List (Nat × (List PT → Option (Bool × AV × List Blk))) := [(125, z1b), (128, z0h), (134, z0r), (137, z1c), (18, z1k), (48, z16), (54, z1w), (61, z1h), (97, z1u), (109, z1j), (14, z1q), (51, z1r), (56, z25), (103, z20), (111, z26), (118, z10), (52, z1f), (119, z1g), (16, z1y), (57, z1o), (19, z22), (62, z2r), (99, z0a), (49, z2n), (99, z0f), (116, z2t), (94, z2l), (98, z27), (117, z07), (117, z0c), (95, z2b), (96, z2i), (50, z2s), (55, z17), (15, z2u), (53, z23), (17, z2v), (3, z1x)]
noncomputable def lt32 : List ((Nat × Nat) × (Nat → St → Option (Bool × LO))) := [((52, 3), z0n), ((57, 4), z0s), ((62, 5), z28), ((99, 2), z03), ((99, 2), z05), ((50, 4), z2d), ((99, 2), z0d), ((53, 5), z1d)]
noncomputable def Γ32 : Ctx := ⟨tyTab, fnTab, tblSum tb32, tblLp lt32⟩
theorem tb32_ok : SumL Try.prog tb32 := SumL.cons z0p (SumL.cons z0g (SumL.cons z0k (SumL.cons z0q (SumL.cons z0t (SumL.cons z0o (SumL.cons z14 (SumL.cons z0v (SumL.cons z15 (SumL.cons z0u (SumL.cons z12 (SumL.cons z11 (SumL.cons z1n (SumL.cons z19 (SumL.cons z1m (SumL.cons z0m (SumL.cons z0x (SumL.cons z0w (SumL.cons z1a (SumL.cons z13 (SumL.cons z1i (SumL.cons z2g (SumL.cons z09 (SumL.cons z2a (SumL.cons z0e (SumL.cons z2h (SumL.cons z29 (SumL.cons z1v (SumL.cons z06 (SumL.cons z0b (SumL.cons z21 (SumL.cons z24 (SumL.cons z2j (SumL.cons z0z (SumL.cons z2m (SumL.cons z1t (SumL.cons z2o (SumL.cons z1l (SumL.nil))))))))))))))))))))))))))))))))))))))
theorem lt32_ok : LpL Try.prog fnTab lt32 := LpL.cons z0i (LpL.cons z0j (LpL.cons z1p (LpL.cons z02 (LpL.cons z04 (LpL.cons z1z (LpL.cons z08 (LpL.cons z0y (LpL.nil))))))))
noncomputable def tb33 : List (Nat × (List PT → Option (Bool × AV × List Blk))) := [(125, z1b), (128, z0h), (134, z0r), (137, z1c), (18, z1k), (48, z16), (54, z1w), (61, z1h), (97, z1u), (109, z1j), (14, z1q), (51, z1r), (56, z25), (103, z20), (111, z26), (118, z10), (52, z1f), (119, z1g), (16, z1y), (57, z1o), (19, z22), (62, z2r), (99, z0a), (49, z2n), (99, z0f), (116, z2t), (94, z2l), (98, z27), (117, z07), (117, z0c), (95, z2b), (96, z2i), (50, z2s), (55, z17), (15, z2u), (53, z23), (17, z2v), (3, z1x)]
noncomputable def lt33 : List ((Nat × Nat) × (Nat → St → Option (Bool × LO))) := [((52, 3), z0n), ((57, 4), z0s), ((62, 5), z28), ((99, 2), z03), ((99, 2), z05), ((50, 4), z2d), ((99, 2), z0d), ((53, 5), z1d)]
noncomputable def Γ33 : Ctx := ⟨tyTab, fnTab, tblSum tb33, tblLp lt33⟩
theorem tb33_ok : SumL Try.prog tb33 := SumL.cons z0p (SumL.cons z0g (SumL.cons z0k (SumL.cons z0q (SumL.cons z0t (SumL.cons z0o (SumL.cons z14 (SumL.cons z0v (SumL.cons z15 (SumL.cons z0u (SumL.cons z12 (SumL.cons z11 (SumL.cons z1n (SumL.cons z19 (SumL.cons z1m (SumL.cons z0m (SumL.cons z0x (SumL.cons z0w (SumL.cons z1a (SumL.cons z13 (SumL.cons z1i (SumL.cons z2g (SumL.cons z09 (SumL.cons z2a (SumL.cons z0e (SumL.cons z2h (SumL.cons z29 (SumL.cons z1v (SumL.cons z06 (SumL.cons z0b (SumL.cons z21 (SumL.cons z24 (SumL.cons z2j (SumL.cons z0z (SumL.cons z2m (SumL.cons z1t (SumL.cons z2o (SumL.cons z1l (SumL.nil))))))))))))))))))))))))))))))))))))))
theorem lt33_ok : LpL Try.prog fnTab lt33 := LpL.cons z0i (LpL.cons z0j (LpL.cons z1p (LpL.cons z02 (LpL.cons z04 (LpL.cons z1z (LpL.cons z08 (LpL.cons z0y (LpL.nil))))))))
noncomputable def tb34 : List (Nat × (List PT → Option (Bool × AV × List Blk))) := [(125, z1b), (128, z0h), (134, z0r), (137, z1c), (18, z1k), (48, z16), (54, z1w), (61, z1h), (97, z1u), (109, z1j), (14, z1q), (51, z1r), (56, z25), (103, z20), (111, z26), (118, z10), (52, z1f), (119, z1g), (16, z1y), (57, z1o), (19, z22), (62, z2r), (99, z0a), (49, z2n), (99, z0f), (116, z2t), (94, z2l), (98, z27), (117, z07), (117, z0c), (95, z2b), (96, z2i), (50, z2s), (55, z17), (15, z2u), (53, z23), (17, z2v), (3, z1x)]
noncomputable def lt34 : List ((Nat × Nat) × (Nat → St → Option (Bool × LO))) := [((52, 3), z0n), ((57, 4), z0s), ((62, 5), z28), ((99, 2), z03), ((99, 2), z05), ((50, 4), z2d), ((99, 2), z0d), ((53, 5), z1d)]
noncomputable def Γ34 : Ctx := ⟨tyTab, fnTab, tblSum tb34, tblLp lt34⟩
theorem tb34_ok : SumL Try.prog tb34 := SumL.cons z0p (SumL.cons z0g (SumL.cons z0k (SumL.cons z0q (SumL.cons z0t (SumL.cons z0o (SumL.cons z14 (SumL.cons z0v (SumL.cons z15 (SumL.cons z0u (SumL.cons z12 (SumL.cons z11 (SumL.cons z1n (SumL.cons z19 (SumL.cons z1m (SumL.cons z0m (SumL.cons z0x (SumL.cons z0w (SumL.cons z1a (SumL.cons z13 (SumL.cons z1i (SumL.cons z2g (SumL.cons z09 (SumL.cons z2a (SumL.cons z0e (SumL.cons z2h (SumL.cons z29 (SumL.cons z1v (SumL.cons z06 (SumL.cons z0b (SumL.cons z21 (SumL.cons z24 (SumL.cons z2j (SumL.cons z0z (SumL.cons z2m (SumL.cons z1t (SumL.cons z2o (SumL.cons z1l (SumL.nil))))))))))))))))))))))))))))))))))))))
theorem lt34_ok : LpL Try.prog fnTab lt34 := LpL.cons z0i (LpL.cons z0j (LpL.cons z1p (LpL.cons z02 (LpL.cons z04 (LpL.cons z1z (LpL.cons z08 (LpL.cons z0y (LpL.nil))))))))
noncomputable def tb35 : List (Nat × (List PT → Option (Bool × AV × List Blk))) := [(125, z1b), (128, z0h), (134, z0r), (137, z1c), (18, z1k), (48, z16), (54, z1w), (61, z1h), (97, z1u), (109, z1j), (14, z1q), (51, z1r), (56, z25), (103, z20), (111, z26), (118, z10), (52, z1f), (119, z1g), (16, z1y), (57, z1o), (19, z22), (62, z2r), (99, z0a), (49, z2n), (99, z0f), (116, z2t), (94, z2l), (98, z27), (117, z07), (117, z0c), (95, z2b), (96, z2i), (50, z2s), (55, z17), (15, z2u), (53, z23), (17, z2v), (3, z1x)]
noncomputable def lt35 : List ((Nat × Nat) × (Nat → St → Option (Bool × LO))) := [((52, 3), z0n), ((57, 4), z0s), ((62, 5), z28), ((99, 2), z03), ((99, 2), z05), ((50, 4), z2d), ((99, 2), z0d), ((53, 5), z1d)]
noncomputable def Γ35 : Ctx := ⟨tyTab, fnTab, tblSum tb35, tblLp lt35⟩
theorem tb35_ok : SumL Try.prog tb35 := SumL.cons z0p (SumL.cons z0g (SumL.cons z0k (SumL.cons z0q (SumL.cons z0t (SumL.cons z0o (SumL.cons z14 (SumL.cons z0v (SumL.cons z15 (SumL.cons z0u (SumL.cons z12 (SumL.cons z11 (SumL.cons z1n (SumL.cons z19 (SumL.cons z1m (SumL.cons z0m (SumL.cons z0x (SumL.cons z0w (SumL.cons z1a (SumL.cons z13 (SumL.cons z1i (SumL.cons z2g (SumL.cons z09 (SumL.cons z2a (SumL.cons z0e (SumL.cons z2h (SumL.cons z29 (SumL.cons z1v (SumL.cons z06 (SumL.cons z0b (SumL.cons z21 (SumL.cons z24 (SumL.cons z2j (SumL.cons z0z (SumL.cons z2m (SumL.cons z1t (SumL.cons z2o (SumL.cons z1l (SumL.nil))))))))))))))))))))))))))))))))))))))
theorem lt35_ok : LpL Try.prog fnTab lt35 := LpL.cons z0i (LpL.cons z0j (LpL.cons z1p (LpL.cons z02 (LpL.cons z04 (LpL.cons z1z (LpL.cons z08 (LpL.cons z0y (LpL.nil))))))))
end Go.Proofs.Ytihlcjjbenkokaa
