/-
  What functions answer: that the evaluator answers so. Printed by a program.
-/
import Derived.Test.YtihlcjjbenkokaaEvenRotorC
set_option linter.unusedVariables false
set_option linter.unusedSimpArgs false
set_option maxRecDepth 100000
set_option maxHeartbeats 4000000
namespace Go.Proofs.Ytihlcjjbenkokaa
open Go Go.Rf
def z25 : List PT → Option (Bool × AV × List Blk)
  | [.one (.s (.flt .f64 x))] => some (bnot (nanQ .f64 x), A1 (.flt .f64 (fint .down x)), [])
  | _ => none
theorem z1b : SumOne Try.prog 125 z25 := by
  intro pts v news hp w vals hv
  unfold z25 at hp
  split at hp
  · rename_i x
    injection hp with hp
    injection hp with h1 hp
    injection hp with h2 h3
    subst h2
    subst h3
    obtain ⟨l, hl⟩ : ∃ l, l = vals.toList := ⟨_, rfl⟩
    rw [← hl] at hv
    cases hv with
    | cons a1 a2 =>
      cases a2
      obtain ⟨b, hb1, hb2, hb3⟩ := a1
      subst hb1
      rename_i hx
      have hvals : vals = #[.float .f64 b] := by rw [← Array.toList_inj, ← hl]
      subst hvals
      have hn : nanB .f64 b = false := by rw [← nanB_cn, hb3]; simpa [bnot, nanQ] using h1
      rw [cn_of_not hn] at hb3
      subst hb3
      refine .inl ⟨_, w, by (simp only [callFunc, Sem.run_bind, run_program, Result.andThen_ok, Try.func125]; change (do let v ← Extern.MathFloor.toIntegral "math.archFloor" .down #[.float .f64 b]; pure (.value v) : Sem Next).run Try.prog w = _; rw [Sem.run_bind, run_fint hn]; rfl), NoB, ⟨⟨(fun t b' h => by cases t <;> cases h), (fun t t' b1 b2 x x' _ h => by cases t <;> cases h)⟩, (fun t x h => by cases h), Fr.refl _ w⟩, fint_rel hn⟩
  · cases hp
def z0q : List PT → Option (Bool × AV × List Blk)
  | [.one (.s (.int .u64 x))] => some (okU .f64 x, A1 (.flt .f64 (cnI .f64 x)), [])
  | _ => none
theorem z0j : SumOne Try.prog 128 z0q := by
  intro pts v news hp w vals hv
  unfold z0q at hp
  split at hp
  · rename_i x
    injection hp with hp
    injection hp with h1 hp
    injection hp with h2 h3
    subst h2
    subst h3
    obtain ⟨l, hl⟩ : ∃ l, l = vals.toList := ⟨_, rfl⟩
    rw [← hl] at hv
    cases hv with
    | cons a1 a2 =>
      cases a2
      have hb1 : _ = Value.int .u64 x := a1
      subst hb1
      rename_i hx
      have hvals : vals = #[.int .u64 x] := by rw [← Array.toList_inj, ← hl]
      subst hvals
      have hw := okU_lt h1
      refine .inl ⟨_, w, by (simp only [callFunc, Sem.run_bind, run_program, Result.andThen_ok, Try.func128]; rfl), NoB, ⟨⟨(fun t b' h => by cases t <;> cases h), (fun t t' b1 b2 x x' _ h => by cases t <;> cases h)⟩, (fun t x h => by cases h), Fr.refl _ w⟩, ⟨_, rfl, hw, rfl⟩⟩
  · cases hp
def z1c : List PT → Option (Bool × AV × List Blk)
  | [.one (.s (.flt .f64 x))] => some (bnot (nanQ .f64 x), A1 (.int .u64 x), [])
  | _ => none
theorem z0z : SumOne Try.prog 134 z1c := by
  intro pts v news hp w vals hv
  unfold z1c at hp
  split at hp
  · rename_i x
    injection hp with hp
    injection hp with h1 hp
    injection hp with h2 h3
    subst h2
    subst h3
    obtain ⟨l, hl⟩ : ∃ l, l = vals.toList := ⟨_, rfl⟩
    rw [← hl] at hv
    cases hv with
    | cons a1 a2 =>
      cases a2
      obtain ⟨b, hb1, hb2, hb3⟩ := a1
      subst hb1
      rename_i hx
      have hvals : vals = #[.float .f64 b] := by rw [← Array.toList_inj, ← hl]
      subst hvals
      have hn : nanB .f64 b = false := by rw [← nanB_cn, hb3]; simpa [bnot, nanQ] using h1
      rw [cn_of_not hn] at hb3
      subst hb3
      refine .inl ⟨_, w, by (simp only [callFunc, Sem.run_bind, run_program, Result.andThen_ok, Try.func134]; rfl), NoB, ⟨⟨(fun t b' h => by cases t <;> cases h), (fun t t' b1 b2 x x' _ h => by cases t <;> cases h)⟩, (fun t x h => by cases h), Fr.refl _ w⟩, rfl⟩
  · cases hp
def z24 : List PT → Option (Bool × AV × List Blk)
  | [.one (.s (.flt .f64 x))] => some (bnot (nanQ .f64 x), A1 (.flt .f64 (fint .zero x)), [])
  | _ => none
theorem z1a : SumOne Try.prog 137 z24 := by
  intro pts v news hp w vals hv
  unfold z24 at hp
  split at hp
  · rename_i x
    injection hp with hp
    injection hp with h1 hp
    injection hp with h2 h3
    subst h2
    subst h3
    obtain ⟨l, hl⟩ : ∃ l, l = vals.toList := ⟨_, rfl⟩
    rw [← hl] at hv
    cases hv with
    | cons a1 a2 =>
      cases a2
      obtain ⟨b, hb1, hb2, hb3⟩ := a1
      subst hb1
      rename_i hx
      have hvals : vals = #[.float .f64 b] := by rw [← Array.toList_inj, ← hl]
      subst hvals
      have hn : nanB .f64 b = false := by rw [← nanB_cn, hb3]; simpa [bnot, nanQ] using h1
      rw [cn_of_not hn] at hb3
      subst hb3
      refine .inl ⟨_, w, by (simp only [callFunc, Sem.run_bind, run_program, Result.andThen_ok, Try.func137]; change (do let v ← Extern.MathFloor.toIntegral "math.archTrunc" .zero #[.float .f64 b]; pure (.value v) : Sem Next).run Try.prog w = _; rw [Sem.run_bind, run_fint hn]; rfl), NoB, ⟨⟨(fun t b' h => by cases t <;> cases h), (fun t t' b1 b2 x x' _ h => by cases t <;> cases h)⟩, (fun t x h => by cases h), Fr.refl _ w⟩, fint_rel hn⟩
  · cases hp
noncomputable def tb0 : List (Nat × (List PT → Option (Bool × AV × List Blk))) := [(125, z25), (128, z0q), (134, z1c), (137, z24)]
noncomputable def lt0 : List ((Nat × Nat) × (Nat → St → Option (Bool × LO))) := []
noncomputable def Γ0 : Ctx := ⟨tyTab, fnTab, tblSum tb0, tblLp lt0⟩
theorem tb0_ok : SumL Try.prog tb0 := SumL.cons z1b (SumL.cons z0j (SumL.cons z0z (SumL.cons z1a (SumL.nil))))
theorem lt0_ok : LpL Try.prog fnTab lt0 := LpL.nil
noncomputable def z2e : List PT → Option (Bool × AV × List Blk)
  | [.one (.s (.flt .f64 a)), .one (.s (.flt .f64 b))] => some ((z8h a b), ((AV.v (TV.one (At.bool (z85 a b)))), []))
  | _ => none
def zkt (a : Nat) (b : Nat) : Option (Bool) → Option (AV × List Blk)
  | some r => some ((AV.v (TV.one (At.bool r))), [])
  | none => none
theorem zoo (a : Nat) (b : Nat) : evFn Γ0 8 8 18 (impTs 0 [.one (.s (.flt .f64 a)), .one (.s (.flt .f64 b))]).1 (impTs 0 [.one (.s (.flt .f64 a)), .one (.s (.flt .f64 b))]).2 (expo (impTs 0 [.one (.s (.flt .f64 a)), .one (.s (.flt .f64 b))]).2.length) = zcf a b (fun c0_ => some ((AV.v (TV.one (At.bool c0_))), [])) := by kernel_rfl
theorem z1f : SumOne Try.prog 18 z2e := sum_of (Γ := Γ0) (fuel := 8) (d := 8) tyTab_ok (FnL.ok fnTab_ok _ _) (LpL.ok lt0_ok) (SumL.ok tb0_ok _) mixed (by
  intro pts v news hp hc
  clear hc
  unfold z2e at hp
  split at hp
  · rename_i a b
    exact Eq.trans (Eq.trans (zoo a b) (zmq (zkt a b) rfl a b (fun c0_ => some c0_))) (fin_out (o := (zkt a b)) (x := zci a b) (d := default) (V := fun r => ((AV.v (TV.one (At.bool r))), [])) (fun r => rfl) hp)
  · cases hp)
noncomputable def z1x : List PT → Option (Bool × AV × List Blk)
  | [.one (.row 1 a_n (.fl .f32 a)), .one (.s (.int .i64 q2o))] => some ((zbu a_n a q2o), ((AV.v (TV.one (At.int IntKind.i64 (z4w a_n a q2o)))), []))
  | _ => none
def zk9 (a_n : Nat) (a : List Nat) (q2o : Int) : Option (Int) → Option (AV × List Blk)
  | some r => some ((AV.v (TV.one (At.int IntKind.i64 r))), [])
  | none => none
theorem zoh (a_n : Nat) (a : List Nat) (q2o : Int) : evFn Γ0 8 8 48 (impTs 0 [.one (.row 1 a_n (.fl .f32 a)), .one (.s (.int .i64 q2o))]).1 (impTs 0 [.one (.row 1 a_n (.fl .f32 a)), .one (.s (.int .i64 q2o))]).2 (expo (impTs 0 [.one (.row 1 a_n (.fl .f32 a)), .one (.s (.int .i64 q2o))]).2.length) = zbq a_n a q2o (fun c0_ => some ((AV.v (TV.one (At.int IntKind.i64 c0_))), [])) := by kernel_rfl
theorem z17 : SumOne Try.prog 48 z1x := sum_of (Γ := Γ0) (fuel := 8) (d := 8) tyTab_ok (FnL.ok fnTab_ok _ _) (LpL.ok lt0_ok) (SumL.ok tb0_ok _) mixed (by
  intro pts v news hp hc
  clear hc
  unfold z1x at hp
  split at hp
  · rename_i a_n a q2o
    exact Eq.trans (Eq.trans (zoh a_n a q2o) (zlw (zk9 a_n a q2o) rfl a_n a q2o (fun c0_ => some c0_))) (fin_out (o := (zk9 a_n a q2o)) (x := zbt a_n a q2o) (d := default) (V := fun r => ((AV.v (TV.one (At.int IntKind.i64 r))), [])) (fun r => rfl) hp)
  · cases hp)
noncomputable def z2x : List PT → Option (Bool × AV × List Blk)
  | [.one (.s (.flt .f32 x))] => some ((z8t x), ((AV.v (TV.one (At.bool (z8f x)))), []))
  | _ => none
def zla (x : Nat) : Option (Bool) → Option (AV × List Blk)
  | some r => some ((AV.v (TV.one (At.bool r))), [])
  | none => none
theorem zp5 (x : Nat) : evFn Γ0 8 8 54 (impTs 0 [.one (.s (.flt .f32 x))]).1 (impTs 0 [.one (.s (.flt .f32 x))]).2 (expo (impTs 0 [.one (.s (.flt .f32 x))]).2.length) = zf3 x (fun c0_ => some ((AV.v (TV.one (At.bool c0_))), [])) := by kernel_rfl
theorem z1w : SumOne Try.prog 54 z2x := sum_of (Γ := Γ0) (fuel := 8) (d := 8) tyTab_ok (FnL.ok fnTab_ok _ _) (LpL.ok lt0_ok) (SumL.ok tb0_ok _) mixed (by
  intro pts v news hp hc
  clear hc
  unfold z2x at hp
  split at hp
  · rename_i x
    exact Eq.trans (Eq.trans (zp5 x) (znp (zla x) rfl x (fun c0_ => some c0_))) (fin_out (o := (zla x)) (x := zf9 x) (d := default) (V := fun r => ((AV.v (TV.one (At.bool r))), [])) (fun r => rfl) hp)
  · cases hp)
noncomputable def z2c : List PT → Option (Bool × AV × List Blk)
  | [.one (.s (.flt .f32 x))] => some ((z71 x), ((AV.v (TV.one (At.bool (z6m x)))), []))
  | _ => none
def zke (x : Nat) : Option (Bool) → Option (AV × List Blk)
  | some r => some ((AV.v (TV.one (At.bool r))), [])
  | none => none
theorem zon (x : Nat) : evFn Γ0 8 8 61 (impTs 0 [.one (.s (.flt .f32 x))]).1 (impTs 0 [.one (.s (.flt .f32 x))]).2 (expo (impTs 0 [.one (.s (.flt .f32 x))]).2.length) = zdv x (fun c0_ => some ((AV.v (TV.one (At.bool c0_))), [])) := by kernel_rfl
theorem z1h : SumOne Try.prog 61 z2c := sum_of (Γ := Γ0) (fuel := 8) (d := 8) tyTab_ok (FnL.ok fnTab_ok _ _) (LpL.ok lt0_ok) (SumL.ok tb0_ok _) mixed (by
  intro pts v news hp hc
  clear hc
  unfold z2c at hp
  split at hp
  · rename_i x
    exact Eq.trans (Eq.trans (zon x) (zmr (zke x) rfl x (fun c0_ => some c0_))) (fin_out (o := (zke x)) (x := zdq x) (d := default) (V := fun r => ((AV.v (TV.one (At.bool r))), [])) (fun r => rfl) hp)
  · cases hp)
noncomputable def z3s : List PT → Option (Bool × AV × List Blk)
  | [.one (.s (.int .i64 n_)), .one (.s (.int .i64 low)), .one (.s (.int .i64 q21))] => some ((zj1 n_ low q21), ((AV.v (TV.one (At.bool (zik n_ low q21)))), []))
  | _ => none
def zny (n_ : Int) (low : Int) (q21 : Int) : Option (Bool) → Option (AV × List Blk)
  | some r => some ((AV.v (TV.one (At.bool r))), [])
  | none => none
theorem zpm (n_ : Int) (low : Int) (q21 : Int) : evFn Γ0 8 8 63 (impTs 0 [.one (.s (.int .i64 n_)), .one (.s (.int .i64 low)), .one (.s (.int .i64 q21))]).1 (impTs 0 [.one (.s (.int .i64 n_)), .one (.s (.int .i64 low)), .one (.s (.int .i64 q21))]).2 (expo (impTs 0 [.one (.s (.int .i64 n_)), .one (.s (.int .i64 low)), .one (.s (.int .i64 q21))]).2.length) = zgx n_ low q21 (fun c0_ => some ((AV.v (TV.one (At.bool c0_))), [])) := by kernel_rfl
theorem z39 : SumOne Try.prog 63 z3s := sum_of (Γ := Γ0) (fuel := 8) (d := 8) tyTab_ok (FnL.ok fnTab_ok _ _) (LpL.ok lt0_ok) (SumL.ok tb0_ok _) mixed (by
  intro pts v news hp hc
  clear hc
  unfold z3s at hp
  split at hp
  · rename_i n_ low q21
    exact Eq.trans (Eq.trans (zpm n_ low q21) (zow (zny n_ low q21) rfl n_ low q21 (fun c0_ => some c0_))) (fin_out (o := (zny n_ low q21)) (x := zgy n_ low q21) (d := default) (V := fun r => ((AV.v (TV.one (At.bool r))), [])) (fun r => rfl) hp)
  · cases hp)
noncomputable def z3l : List PT → Option (Bool × AV × List Blk)
  | [.ptr [.row 1 q06 (.fl .f32 q09), .row 1 q08 (.fl .f32 q0c), .row 1 q07 (.fl .f32 q0b)]] => some ((zjj q06 q09 q08 q0c q07 q0b), ((AV.v (TV.agg [(At.sl 0 0 (zae q06 q09 q08 q0c q07 q0b) 1), (At.sl 1 0 (zah q06 q09 q08 q0c q07 q0b) 1), (At.sl 2 0 (za7 q06 q09 q08 q0c q07 q0b) 1)])), [(Blk.mk Bool.true (Body.fl FloatKind.f32 (zdk q06 q09 q08 q0c q07 q0b))), (Blk.mk Bool.true (Body.fl FloatKind.f32 (zdi q06 q09 q08 q0c q07 q0b))), (Blk.mk Bool.true (Body.fl FloatKind.f32 (zdm q06 q09 q08 q0c q07 q0b)))]))
  | _ => none
def zn4 (q06 : Nat) (q09 : List Nat) (q08 : Nat) (q0c : List Nat) (q07 : Nat) (q0b : List Nat) : Option (Nat × Nat × Nat × (List Nat) × (List Nat) × (List Nat)) → Option (AV × List Blk)
  | some r => some ((AV.v (TV.agg [(At.sl 0 0 r.1 1), (At.sl 1 0 r.2.1 1), (At.sl 2 0 r.2.2.1 1)])), [(Blk.mk Bool.true (Body.fl FloatKind.f32 r.2.2.2.1)), (Blk.mk Bool.true (Body.fl FloatKind.f32 r.2.2.2.2.1)), (Blk.mk Bool.true (Body.fl FloatKind.f32 r.2.2.2.2.2))])
  | none => none
theorem zpl (q06 : Nat) (q09 : List Nat) (q08 : Nat) (q0c : List Nat) (q07 : Nat) (q0b : List Nat) : evFn Γ0 8 8 64 (impTs 0 [.ptr [.row 1 q06 (.fl .f32 q09), .row 1 q08 (.fl .f32 q0c), .row 1 q07 (.fl .f32 q0b)]]).1 (impTs 0 [.ptr [.row 1 q06 (.fl .f32 q09), .row 1 q08 (.fl .f32 q0c), .row 1 q07 (.fl .f32 q0b)]]).2 (expo (impTs 0 [.ptr [.row 1 q06 (.fl .f32 q09), .row 1 q08 (.fl .f32 q0c), .row 1 q07 (.fl .f32 q0b)]]).2.length) = zes q06 q09 q08 q0c q07 q0b (fun c0_ c1_ c2_ c3_ c4_ c5_ => some ((AV.v (TV.agg [(At.sl 0 0 c0_ 1), (At.sl 1 0 c1_ 1), (At.sl 2 0 c2_ 1)])), [(Blk.mk Bool.true (Body.fl FloatKind.f32 c3_)), (Blk.mk Bool.true (Body.fl FloatKind.f32 c4_)), (Blk.mk Bool.true (Body.fl FloatKind.f32 c5_))])) := by kernel_rfl
theorem z2t : SumOne Try.prog 64 z3l := sum_of (Γ := Γ0) (fuel := 8) (d := 8) tyTab_ok (FnL.ok fnTab_ok _ _) (LpL.ok lt0_ok) (SumL.ok tb0_ok _) mixed (by
  intro pts v news hp hc
  clear hc
  unfold z3l at hp
  split at hp
  · rename_i q06 q09 q08 q0c q07 q0b
    exact Eq.trans (Eq.trans (zpl q06 q09 q08 q0c q07 q0b) (zok (zn4 q06 q09 q08 q0c q07 q0b) rfl q06 q09 q08 q0c q07 q0b (fun c0_ c1_ c2_ c3_ c4_ c5_ => some (c0_, c1_, c2_, c3_, c4_, c5_)))) (fin_out (o := (zn4 q06 q09 q08 q0c q07 q0b)) (x := z8i q06 q09 q08 q0c q07 q0b) (d := default) (V := fun r => ((AV.v (TV.agg [(At.sl 0 0 r.1 1), (At.sl 1 0 r.2.1 1), (At.sl 2 0 r.2.2.1 1)])), [(Blk.mk Bool.true (Body.fl FloatKind.f32 r.2.2.2.1)), (Blk.mk Bool.true (Body.fl FloatKind.f32 r.2.2.2.2.1)), (Blk.mk Bool.true (Body.fl FloatKind.f32 r.2.2.2.2.2))])) (fun r => rfl) hp)
  · cases hp)
noncomputable def z3k : List PT → Option (Bool × AV × List Blk)
  | [.one (.s (.int .i64 n_)), .one (.s (.int .i64 low)), .one (.s (.int .i64 q21))] => some ((zin n_ low q21), ((AV.v (TV.one (At.bool (zhq n_ low q21)))), []))
  | _ => none
def zn5 (n_ : Int) (low : Int) (q21 : Int) : Option (Bool) → Option (AV × List Blk)
  | some r => some ((AV.v (TV.one (At.bool r))), [])
  | none => none
theorem zpk (n_ : Int) (low : Int) (q21 : Int) : evFn Γ0 8 8 66 (impTs 0 [.one (.s (.int .i64 n_)), .one (.s (.int .i64 low)), .one (.s (.int .i64 q21))]).1 (impTs 0 [.one (.s (.int .i64 n_)), .one (.s (.int .i64 low)), .one (.s (.int .i64 q21))]).2 (expo (impTs 0 [.one (.s (.int .i64 n_)), .one (.s (.int .i64 low)), .one (.s (.int .i64 q21))]).2.length) = zet n_ low q21 (fun c0_ => some ((AV.v (TV.one (At.bool c0_))), [])) := by kernel_rfl
theorem z2s : SumOne Try.prog 66 z3k := sum_of (Γ := Γ0) (fuel := 8) (d := 8) tyTab_ok (FnL.ok fnTab_ok _ _) (LpL.ok lt0_ok) (SumL.ok tb0_ok _) mixed (by
  intro pts v news hp hc
  clear hc
  unfold z3k at hp
  split at hp
  · rename_i n_ low q21
    exact Eq.trans (Eq.trans (zpk n_ low q21) (zob (zn5 n_ low q21) rfl n_ low q21 (fun c0_ => some c0_))) (fin_out (o := (zn5 n_ low q21)) (x := zeu n_ low q21) (d := default) (V := fun r => ((AV.v (TV.one (At.bool r))), [])) (fun r => rfl) hp)
  · cases hp)
noncomputable def z2w : List PT → Option (Bool × AV × List Blk)
  | [.one (.s (.flt .f32 x)), .one (.s (.flt .f32 low)), .one (.s (.flt .f32 q21))] => some ((zir x low q21), ((AV.v (TV.one (At.bool (zid x low q21)))), []))
  | _ => none
def zl8 (x : Nat) (low : Nat) (q21 : Nat) : Option (Bool) → Option (AV × List Blk)
  | some r => some ((AV.v (TV.one (At.bool r))), [])
  | none => none
theorem zpa (x : Nat) (low : Nat) (q21 : Nat) : evFn Γ0 8 8 97 (impTs 0 [.one (.s (.flt .f32 x)), .one (.s (.flt .f32 low)), .one (.s (.flt .f32 q21))]).1 (impTs 0 [.one (.s (.flt .f32 x)), .one (.s (.flt .f32 low)), .one (.s (.flt .f32 q21))]).2 (expo (impTs 0 [.one (.s (.flt .f32 x)), .one (.s (.flt .f32 low)), .one (.s (.flt .f32 q21))]).2.length) = zcu x low q21 (fun c0_ => some ((AV.v (TV.one (At.bool c0_))), [])) := by kernel_rfl
theorem z1v : SumOne Try.prog 97 z2w := sum_of (Γ := Γ0) (fuel := 8) (d := 8) tyTab_ok (FnL.ok fnTab_ok _ _) (LpL.ok lt0_ok) (SumL.ok tb0_ok _) mixed (by
  intro pts v news hp hc
  clear hc
  unfold z2w at hp
  split at hp
  · rename_i x low q21
    exact Eq.trans (Eq.trans (zpa x low q21) (znm (zl8 x low q21) rfl x low q21 (fun c0_ => some c0_))) (fin_out (o := (zl8 x low q21)) (x := zcp x low q21) (d := default) (V := fun r => ((AV.v (TV.one (At.bool r))), [])) (fun r => rfl) hp)
  · cases hp)
noncomputable def z0m : List PT → Option (Bool × AV × List Blk)
  | [.one (.row 1 s_n (.fl .f32 s))] => some ((z8e s_n s), ((AV.v (TV.one (At.sl 0 0 (z87 s_n s) 1))), [(Blk.mk Bool.true (Body.fl FloatKind.f32 (z89 s_n s)))]))
  | _ => none
def z9b (s_n : Nat) (s : List Nat) : Option (Nat × (List Nat)) → Option (AV × List Blk)
  | some r => some ((AV.v (TV.one (At.sl 0 0 r.1 1))), [(Blk.mk Bool.true (Body.fl FloatKind.f32 r.2))])
  | none => none
theorem zkc (s_n : Nat) (s : List Nat) : ∀ a b, (z9b s_n s) a = (z9b s_n s) b → a = b := by
  intro a b h
  cases a <;> cases b <;> simp_all [z9b, Prod.ext_iff]
theorem zkz (s_n : Nat) (s : List Nat) : evFn Γ0 8 8 104 (impTs 0 [.one (.row 1 s_n (.fl .f32 s))]).1 (impTs 0 [.one (.row 1 s_n (.fl .f32 s))]).2 (expo (impTs 0 [.one (.row 1 s_n (.fl .f32 s))]).2.length) = z8a s_n s (fun c0_ c1_ => some ((AV.v (TV.one (At.sl 0 0 c0_ 1))), [(Blk.mk Bool.true (Body.fl FloatKind.f32 c1_))])) := by kernel_rfl
theorem z0i : SumOne Try.prog 104 z0m := sum_of (Γ := Γ0) (fuel := 8) (d := 8) tyTab_ok (FnL.ok fnTab_ok _ _) (LpL.ok lt0_ok) (SumL.ok tb0_ok _) mixed (by
  intro pts v news hp hc
  clear hc
  unfold z0m at hp
  split at hp
  · rename_i s_n s
    exact Eq.trans (Eq.trans (zkz s_n s) (zjv (z9b s_n s) rfl (zkc s_n s) s_n s (fun c0_ c1_ => some (c0_, c1_)))) (fin_out (o := (z9b s_n s)) (x := z78 s_n s) (d := default) (V := fun r => ((AV.v (TV.one (At.sl 0 0 r.1 1))), [(Blk.mk Bool.true (Body.fl FloatKind.f32 r.2))])) (fun r => rfl) hp)
  · cases hp)
noncomputable def tb1 : List (Nat × (List PT → Option (Bool × AV × List Blk))) := [(125, z25), (128, z0q), (134, z1c), (137, z24), (18, z2e), (48, z1x), (54, z2x), (61, z2c), (63, z3s), (64, z3l), (66, z3k), (97, z2w), (104, z0m)]
noncomputable def lt1 : List ((Nat × Nat) × (Nat → St → Option (Bool × LO))) := []
noncomputable def Γ1 : Ctx := ⟨tyTab, fnTab, tblSum tb1, tblLp lt1⟩
theorem tb1_ok : SumL Try.prog tb1 := SumL.cons z1b (SumL.cons z0j (SumL.cons z0z (SumL.cons z1a (SumL.cons z1f (SumL.cons z17 (SumL.cons z1w (SumL.cons z1h (SumL.cons z39 (SumL.cons z2t (SumL.cons z2s (SumL.cons z1v (SumL.cons z0i (SumL.nil)))))))))))))
theorem lt1_ok : LpL Try.prog fnTab lt1 := LpL.nil
noncomputable def z2j : List PT → Option (Bool × AV × List Blk)
  | [.agg [.row 1 q0d (.fl .f32 q0t), .row 1 q0h (.fl .f32 q0x), .row 1 q0j (.fl .f32 q10)], .one (.s (.int .i64 q2o))] => some ((zdo q0d q0t q0h q0x q0j q10 q2o), ((AV.v (TV.one (At.int IntKind.i64 (zd2 q0d q0t q0h q0x q0j q10 q2o)))), []))
  | _ => none
def zkd (q0d : Nat) (q0t : List Nat) (q0h : Nat) (q0x : List Nat) (q0j : Nat) (q10 : List Nat) (q2o : Int) : Option (Int) → Option (AV × List Blk)
  | some r => some ((AV.v (TV.one (At.int IntKind.i64 r))), [])
  | none => none
theorem zp3 (q0d : Nat) (q0t : List Nat) (q0h : Nat) (q0x : List Nat) (q0j : Nat) (q10 : List Nat) (q2o : Int) : evFn Γ1 8 8 14 (impTs 0 [.agg [.row 1 q0d (.fl .f32 q0t), .row 1 q0h (.fl .f32 q0x), .row 1 q0j (.fl .f32 q10)], .one (.s (.int .i64 q2o))]).1 (impTs 0 [.agg [.row 1 q0d (.fl .f32 q0t), .row 1 q0h (.fl .f32 q0x), .row 1 q0j (.fl .f32 q10)], .one (.s (.int .i64 q2o))]).2 (expo (impTs 0 [.agg [.row 1 q0d (.fl .f32 q0t), .row 1 q0h (.fl .f32 q0x), .row 1 q0j (.fl .f32 q10)], .one (.s (.int .i64 q2o))]).2.length) = zcd q0d q0t q0h q0x q0j q10 q2o (fun c0_ => some ((AV.v (TV.one (At.int IntKind.i64 c0_))), [])) := by kernel_rfl
theorem z1r : SumOne Try.prog 14 z2j := sum_of (Γ := Γ1) (fuel := 8) (d := 8) tyTab_ok (FnL.ok fnTab_ok _ _) (LpL.ok lt1_ok) (SumL.ok tb1_ok _) mixed (by
  intro pts v news hp hc
  clear hc
  unfold z2j at hp
  split at hp
  · rename_i q0d q0t q0h q0x q0j q10 q2o
    exact Eq.trans (Eq.trans (zp3 q0d q0t q0h q0x q0j q10 q2o) (zn1 (zkd q0d q0t q0h q0x q0j q10 q2o) rfl q0d q0t q0h q0x q0j q10 q2o (fun c0_ => some c0_))) (fin_out (o := (zkd q0d q0t q0h q0x q0j q10 q2o)) (x := zcc q0d q0t q0h q0x q0j q10 q2o) (d := default) (V := fun r => ((AV.v (TV.one (At.int IntKind.i64 r))), [])) (fun r => rfl) hp)
  · cases hp)
noncomputable def z1q : List PT → Option (Bool × AV × List Blk)
  | [.agg [.row 1 q06 (.fl .f32 q09), .row 1 q08 (.fl .f32 q0c), .row 1 q07 (.fl .f32 q0b)]] => some ((zfd q06 q09 q08 q0c q07 q0b), ((AV.v (TV.agg [(At.sl 0 0 (z82 q06 q09 q08 q0c q07 q0b) 1), (At.sl 1 0 (z83 q06 q09 q08 q0c q07 q0b) 1), (At.sl 2 0 (z84 q06 q09 q08 q0c q07 q0b) 1)])), [(Blk.mk Bool.true (Body.fl FloatKind.f32 (z9n q06 q09 q08 q0c q07 q0b))), (Blk.mk Bool.true (Body.fl FloatKind.f32 (z9h q06 q09 q08 q0c q07 q0b))), (Blk.mk Bool.true (Body.fl FloatKind.f32 (z9j q06 q09 q08 q0c q07 q0b)))]))
  | _ => none
def zju (q06 : Nat) (q09 : List Nat) (q08 : Nat) (q0c : List Nat) (q07 : Nat) (q0b : List Nat) : Option (Nat × Nat × Nat × (List Nat) × (List Nat) × (List Nat)) → Option (AV × List Blk)
  | some r => some ((AV.v (TV.agg [(At.sl 0 0 r.1 1), (At.sl 1 0 r.2.1 1), (At.sl 2 0 r.2.2.1 1)])), [(Blk.mk Bool.true (Body.fl FloatKind.f32 r.2.2.2.1)), (Blk.mk Bool.true (Body.fl FloatKind.f32 r.2.2.2.2.1)), (Blk.mk Bool.true (Body.fl FloatKind.f32 r.2.2.2.2.2))])
  | none => none
theorem znw (q06 : Nat) (q09 : List Nat) (q08 : Nat) (q0c : List Nat) (q07 : Nat) (q0b : List Nat) : evFn Γ1 8 8 67 (impTs 0 [.agg [.row 1 q06 (.fl .f32 q09), .row 1 q08 (.fl .f32 q0c), .row 1 q07 (.fl .f32 q0b)]]).1 (impTs 0 [.agg [.row 1 q06 (.fl .f32 q09), .row 1 q08 (.fl .f32 q0c), .row 1 q07 (.fl .f32 q0b)]]).2 (expo (impTs 0 [.agg [.row 1 q06 (.fl .f32 q09), .row 1 q08 (.fl .f32 q0c), .row 1 q07 (.fl .f32 q0b)]]).2.length) = zac q06 q09 q08 q0c q07 q0b (fun c0_ c1_ c2_ c3_ c4_ c5_ => some ((AV.v (TV.agg [(At.sl 0 0 c0_ 1), (At.sl 1 0 c1_ 1), (At.sl 2 0 c2_ 1)])), [(Blk.mk Bool.true (Body.fl FloatKind.f32 c3_)), (Blk.mk Bool.true (Body.fl FloatKind.f32 c4_)), (Blk.mk Bool.true (Body.fl FloatKind.f32 c5_))])) := by kernel_rfl
theorem z15 : SumOne Try.prog 67 z1q := sum_of (Γ := Γ1) (fuel := 8) (d := 8) tyTab_ok (FnL.ok fnTab_ok _ _) (LpL.ok lt1_ok) (SumL.ok tb1_ok _) mixed (by
  intro pts v news hp hc
  clear hc
  unfold z1q at hp
  split at hp
  · rename_i q06 q09 q08 q0c q07 q0b
    exact Eq.trans (Eq.trans (znw q06 q09 q08 q0c q07 q0b) (zlj (zju q06 q09 q08 q0c q07 q0b) rfl q06 q09 q08 q0c q07 q0b (fun c0_ c1_ c2_ c3_ c4_ c5_ => some (c0_, c1_, c2_, c3_, c4_, c5_)))) (fin_out (o := (zju q06 q09 q08 q0c q07 q0b)) (x := z60 q06 q09 q08 q0c q07 q0b) (d := default) (V := fun r => ((AV.v (TV.agg [(At.sl 0 0 r.1 1), (At.sl 1 0 r.2.1 1), (At.sl 2 0 r.2.2.1 1)])), [(Blk.mk Bool.true (Body.fl FloatKind.f32 r.2.2.2.1)), (Blk.mk Bool.true (Body.fl FloatKind.f32 r.2.2.2.2.1)), (Blk.mk Bool.true (Body.fl FloatKind.f32 r.2.2.2.2.2))])) (fun r => rfl) hp)
  · cases hp)
noncomputable def z32 : List PT → Option (Bool × AV × List Blk)
  | [.one (.s (.flt .f32 x))] => some ((z9e x), ((AV.v (TV.one (At.bool (z92 x)))), []))
  | _ => none
def zlc (x : Nat) : Option (Bool) → Option (AV × List Blk)
  | some r => some ((AV.v (TV.one (At.bool r))), [])
  | none => none
theorem zp9 (x : Nat) : evFn Γ1 8 8 103 (impTs 0 [.one (.s (.flt .f32 x))]).1 (impTs 0 [.one (.s (.flt .f32 x))]).2 (expo (impTs 0 [.one (.s (.flt .f32 x))]).2.length) = zcs x (fun c0_ => some ((AV.v (TV.one (At.bool c0_))), [])) := by kernel_rfl
theorem z22 : SumOne Try.prog 103 z32 := sum_of (Γ := Γ1) (fuel := 8) (d := 8) tyTab_ok (FnL.ok fnTab_ok _ _) (LpL.ok lt1_ok) (SumL.ok tb1_ok _) mixed (by
  intro pts v news hp hc
  clear hc
  unfold z32 at hp
  split at hp
  · rename_i x
    exact Eq.trans (Eq.trans (zp9 x) (znc (zlc x) rfl x (fun c0_ => some c0_))) (fin_out (o := (zlc x)) (x := zct x) (d := default) (V := fun r => ((AV.v (TV.one (At.bool r))), [])) (fun r => rfl) hp)
  · cases hp)
noncomputable def z2i : List PT → Option (Bool × AV × List Blk)
  | [.agg [.s (.flt .f32 q2r), .s (.flt .f32 q2w), .s (.flt .f32 q2v)], .agg [.s (.flt .f32 q2s), .s (.flt .f32 q2u), .s (.flt .f32 q2y)]] => some ((zi5 q2r q2w q2v q2s q2u q2y), ((AV.v (TV.one (At.bool (zgk q2r q2w q2v q2s q2u q2y)))), []))
  | _ => none
def zks (q2r : Nat) (q2w : Nat) (q2v : Nat) (q2s : Nat) (q2u : Nat) (q2y : Nat) : Option (Bool) → Option (AV × List Blk)
  | some r => some ((AV.v (TV.one (At.bool r))), [])
  | none => none
theorem zox (q2r : Nat) (q2w : Nat) (q2v : Nat) (q2s : Nat) (q2u : Nat) (q2y : Nat) : evFn Γ1 8 8 105 (impTs 0 [.agg [.s (.flt .f32 q2r), .s (.flt .f32 q2w), .s (.flt .f32 q2v)], .agg [.s (.flt .f32 q2s), .s (.flt .f32 q2u), .s (.flt .f32 q2y)]]).1 (impTs 0 [.agg [.s (.flt .f32 q2r), .s (.flt .f32 q2w), .s (.flt .f32 q2v)], .agg [.s (.flt .f32 q2s), .s (.flt .f32 q2u), .s (.flt .f32 q2y)]]).2 (expo (impTs 0 [.agg [.s (.flt .f32 q2r), .s (.flt .f32 q2w), .s (.flt .f32 q2v)], .agg [.s (.flt .f32 q2s), .s (.flt .f32 q2u), .s (.flt .f32 q2y)]]).2.length) = zca q2r q2w q2v q2s q2u q2y (fun c0_ => some ((AV.v (TV.one (At.bool c0_))), [])) := by kernel_rfl
theorem z1s : SumOne Try.prog 105 z2i := sum_of (Γ := Γ1) (fuel := 8) (d := 8) tyTab_ok (FnL.ok fnTab_ok _ _) (LpL.ok lt1_ok) (SumL.ok tb1_ok _) mixed (by
  intro pts v news hp hc
  clear hc
  unfold z2i at hp
  split at hp
  · rename_i q2r q2w q2v q2s q2u q2y
    exact Eq.trans (Eq.trans (zox q2r q2w q2v q2s q2u q2y) (zmp (zks q2r q2w q2v q2s q2u q2y) rfl q2r q2w q2v q2s q2u q2y (fun c0_ => some c0_))) (fin_out (o := (zks q2r q2w q2v q2s q2u q2y)) (x := zch q2r q2w q2v q2s q2u q2y) (d := default) (V := fun r => ((AV.v (TV.one (At.bool r))), [])) (fun r => rfl) hp)
  · cases hp)
noncomputable def z3d : List PT → Option (Bool × AV × List Blk)
  | [.one (.s (.flt .f32 x))] => some ((zh6 x), ((AV.v (TV.one (At.bool (zex x)))), []))
  | _ => none
def zmb (x : Nat) : Option (Bool) → Option (AV × List Blk)
  | some r => some ((AV.v (TV.one (At.bool r))), [])
  | none => none
theorem zpg (x : Nat) : evFn Γ1 8 8 111 (impTs 0 [.one (.s (.flt .f32 x))]).1 (impTs 0 [.one (.s (.flt .f32 x))]).2 (expo (impTs 0 [.one (.s (.flt .f32 x))]).2.length) = zdl x (fun c0_ => some ((AV.v (TV.one (At.bool c0_))), [])) := by kernel_rfl
theorem z2f : SumOne Try.prog 111 z3d := sum_of (Γ := Γ1) (fuel := 8) (d := 8) tyTab_ok (FnL.ok fnTab_ok _ _) (LpL.ok lt1_ok) (SumL.ok tb1_ok _) mixed (by
  intro pts v news hp hc
  clear hc
  unfold z3d at hp
  split at hp
  · rename_i x
    exact Eq.trans (Eq.trans (zpg x) (znr (zmb x) rfl x (fun c0_ => some c0_))) (fin_out (o := (zmb x)) (x := zdn x) (d := default) (V := fun r => ((AV.v (TV.one (At.bool r))), [])) (fun r => rfl) hp)
  · cases hp)
noncomputable def z33 : List PT → Option (Bool × AV × List Blk)
  | [.one (.s (.flt .f32 x))] => some ((ziv x), ((AV.v (TV.one (At.bool (zia x)))), []))
  | _ => none
def zld (x : Nat) : Option (Bool) → Option (AV × List Blk)
  | some r => some ((AV.v (TV.one (At.bool r))), [])
  | none => none
theorem zp6 (x : Nat) : evFn Γ1 8 8 114 (impTs 0 [.one (.s (.flt .f32 x))]).1 (impTs 0 [.one (.s (.flt .f32 x))]).2 (expo (impTs 0 [.one (.s (.flt .f32 x))]).2.length) = zcr x (fun c0_ => some ((AV.v (TV.one (At.bool c0_))), [])) := by kernel_rfl
theorem z21 : SumOne Try.prog 114 z33 := sum_of (Γ := Γ1) (fuel := 8) (d := 8) tyTab_ok (FnL.ok fnTab_ok _ _) (LpL.ok lt1_ok) (SumL.ok tb1_ok _) mixed (by
  intro pts v news hp hc
  clear hc
  unfold z33 at hp
  split at hp
  · rename_i x
    exact Eq.trans (Eq.trans (zp6 x) (zn8 (zld x) rfl x (fun c0_ => some c0_))) (fin_out (o := (zld x)) (x := zcv x) (d := default) (V := fun r => ((AV.v (TV.one (At.bool r))), [])) (fun r => rfl) hp)
  · cases hp)
noncomputable def z1p : List PT → Option (Bool × AV × List Blk)
  | [.one (.s (.flt .f32 x))] => some ((zf1 x), ((AV.v (TV.one (At.bool (zdy x)))), []))
  | _ => none
def zjx (x : Nat) : Option (Bool) → Option (AV × List Blk)
  | some r => some ((AV.v (TV.one (At.bool r))), [])
  | none => none
theorem zo2 (x : Nat) : evFn Γ1 8 8 118 (impTs 0 [.one (.s (.flt .f32 x))]).1 (impTs 0 [.one (.s (.flt .f32 x))]).2 (expo (impTs 0 [.one (.s (.flt .f32 x))]).2.length) = zaa x (fun c0_ => some ((AV.v (TV.one (At.bool c0_))), [])) := by kernel_rfl
theorem z14 : SumOne Try.prog 118 z1p := sum_of (Γ := Γ1) (fuel := 8) (d := 8) tyTab_ok (FnL.ok fnTab_ok _ _) (LpL.ok lt1_ok) (SumL.ok tb1_ok _) mixed (by
  intro pts v news hp hc
  clear hc
  unfold z1p at hp
  split at hp
  · rename_i x
    exact Eq.trans (Eq.trans (zo2 x) (zlv (zjx x) rfl x (fun c0_ => some c0_))) (fin_out (o := (zjx x)) (x := zab x) (d := default) (V := fun r => ((AV.v (TV.one (At.bool r))), [])) (fun r => rfl) hp)
  · cases hp)
noncomputable def z13 : List PT → Option (Bool × AV × List Blk)
  | [.one (.s (.flt .f32 x))] => some ((zdc x), ((AV.v (TV.one (At.bool (zcw x)))), []))
  | _ => none
def zjo (x : Nat) : Option (Bool) → Option (AV × List Blk)
  | some r => some ((AV.v (TV.one (At.bool r))), [])
  | none => none
theorem zmz (x : Nat) : evFn Γ1 8 8 122 (impTs 0 [.one (.s (.flt .f32 x))]).1 (impTs 0 [.one (.s (.flt .f32 x))]).2 (expo (impTs 0 [.one (.s (.flt .f32 x))]).2.length) = z98 x (fun c0_ => some ((AV.v (TV.one (At.bool c0_))), [])) := by kernel_rfl
theorem z0s : SumOne Try.prog 122 z13 := sum_of (Γ := Γ1) (fuel := 8) (d := 8) tyTab_ok (FnL.ok fnTab_ok _ _) (LpL.ok lt1_ok) (SumL.ok tb1_ok _) mixed (by
  intro pts v news hp hc
  clear hc
  unfold z13 at hp
  split at hp
  · rename_i x
    exact Eq.trans (Eq.trans (zmz x) (zku (zjo x) rfl x (fun c0_ => some c0_))) (fin_out (o := (zjo x)) (x := z97 x) (d := default) (V := fun r => ((AV.v (TV.one (At.bool r))), [])) (fun r => rfl) hp)
  · cases hp)
noncomputable def zji (an : Nat) (q30 : Nat) (i : Int) (b0 : List Nat) (b1 : List Nat) : Bool × LO := ((zbj an q30 b0 i b1), (LO.one (Ex.exit 0) (St.mk [(0, (AV.v (TV.one (At.vw 0 0 an 1)))), (3, (AV.v (TV.one (At.sl 1 0 q30 1)))), (4, (AV.v (TV.one (At.int IntKind.i64 (zee an q30 b0 i b1))))), (11, (AV.v (TV.one (At.bool (zep an q30 b0 i b1)))))] [(Blk.mk Bool.false (Body.fl FloatKind.f32 b0)), (Blk.mk Bool.true (Body.fl FloatKind.f32 (z9c an q30 b0 i b1)))])))
noncomputable def z18 : Nat → St → Option (Bool × LO) := lpT 1 (pSt [(pTm 0 (pV (pOne (pVw 0 (liN 0) 1)))), (pTm 3 (pV (pOne (pSl 1 (liN 0) 1)))), (pTm 4 (pV (pOne (pInt IntKind.i64))))] [(pBlk Bool.false (pFl FloatKind.f32)), (pBlk Bool.true (pFl FloatKind.f32))]) (fun hs => zji (hvN (hGet hs 0)) (hvN (hGet hs 1)) (hvI (hGet hs 2)) (hvLn (hGet hs 3)) (hvLn (hGet hs 4)))
def zd8 (an : Nat) (q30 : Nat) (b0 : List Nat) : Option ((Int × Bool × (List Nat))) → Option (Ex × St)
  | none => none
  | some r => some ((Ex.exit 0), (St.mk [(0, (AV.v (TV.one (At.vw 0 0 an 1)))), (3, (AV.v (TV.one (At.sl 1 0 q30 1)))), (4, (AV.v (TV.one (At.int IntKind.i64 r.1)))), (11, (AV.v (TV.one (At.bool r.2.1))))] [(Blk.mk Bool.false (Body.fl FloatKind.f32 b0)), (Blk.mk Bool.true (Body.fl FloatKind.f32 r.2.2))]))
def zlz (an : Nat) (q30 : Nat) (b0 : List Nat) (x : Option ((Int × Bool × (List Nat)))) : LO := (LO.one (Ex.exit 0) (St.mk [(0, (AV.v (TV.one (At.vw 0 0 an 1)))), (3, (AV.v (TV.one (At.sl 1 0 q30 1)))), (4, (AV.v (TV.one (At.int IntKind.i64 (x.getD default).1)))), (11, (AV.v (TV.one (At.bool (x.getD default).2.1))))] [(Blk.mk Bool.false (Body.fl FloatKind.f32 b0)), (Blk.mk Bool.true (Body.fl FloatKind.f32 (x.getD default).2.2))]))
theorem zmv (an : Nat) (q30 : Nat) (b0 : List Nat) : ∀ x : Option ((Int × Bool × (List Nat))), x.isSome = true → (zd8 an q30 b0) x = some (pick (zlz an q30 b0 x))
  | none, h => by cases h
  | some r, _ => rfl
theorem zmy (an : Nat) (q30 : Nat) (i : Int) (b0 : List Nat) (b1 : List Nat) (K : Ex → St → Option (Ex × St)) : evC (R := Ex × St) Γ1 (evFn Γ1 8 8) 52 1 fi52.nt fi52.live fi52.nl 8 (findL 3 (loopsIn fi52.code)) (St.mk [(0, (AV.v (TV.one (At.vw 0 0 an 1)))), (3, (AV.v (TV.one (At.sl 1 0 q30 1)))), (4, (AV.v (TV.one (At.int IntKind.i64 i))))] [(Blk.mk Bool.false (Body.fl FloatKind.f32 b0)), (Blk.mk Bool.true (Body.fl FloatKind.f32 b1))]) K = z6n an q30 b0 i b1 (fun i' b1' => K .normal (St.mk [(0, (AV.v (TV.one (At.vw 0 0 an 1)))), (3, (AV.v (TV.one (At.sl 1 0 q30 1)))), (4, (AV.v (TV.one (At.int IntKind.i64 i'))))] [(Blk.mk Bool.false (Body.fl FloatKind.f32 b0)), (Blk.mk Bool.true (Body.fl FloatKind.f32 b1'))])) (fun c0_ c1_ c2_ => K (Ex.exit 0) (St.mk [(0, (AV.v (TV.one (At.vw 0 0 an 1)))), (3, (AV.v (TV.one (At.sl 1 0 q30 1)))), (4, (AV.v (TV.one (At.int IntKind.i64 c0_)))), (11, (AV.v (TV.one (At.bool c1_))))] [(Blk.mk Bool.false (Body.fl FloatKind.f32 b0)), (Blk.mk Bool.true (Body.fl FloatKind.f32 c2_))])) := by kernel_rfl
theorem zmo (an : Nat) (q30 : Nat) (b0 : List Nat) : ∀ (n : Nat) (i : Int) (b1 : List Nat), iter 52 3 1 (evC (R := Ex × St) Γ1 (evFn Γ1 8 8) 52 1 fi52.nt fi52.live fi52.nl 8 (findL 3 (loopsIn fi52.code))) n (St.mk [(0, (AV.v (TV.one (At.vw 0 0 an 1)))), (3, (AV.v (TV.one (At.sl 1 0 q30 1)))), (4, (AV.v (TV.one (At.int IntKind.i64 i))))] [(Blk.mk Bool.false (Body.fl FloatKind.f32 b0)), (Blk.mk Bool.true (Body.fl FloatKind.f32 b1))]) (fun e st => some (e, st)) = (zd8 an q30 b0) (z5g an q30 b0 n i b1) := by
  intro n
  induction n with
  | zero => intros; rfl
  | succ n ih =>
    intro i b1
    refine Eq.trans (iter_succ ..) (Eq.trans (zmy an q30 i b0 b1 (nextK 52 3 1 (evC (R := Ex × St) Γ1 (evFn Γ1 8 8) 52 1 fi52.nt fi52.live fi52.nl 8 (findL 3 (loopsIn fi52.code))) n (fun e st => some (e, st)))) (Eq.trans ?_ (zki (zd8 an q30 b0) rfl an q30 b0 i b1 (fun i' b1' => z5g an q30 b0 n i' b1') (fun c0_ c1_ c2_ => some (c0_, c1_, c2_)))))
    exact congrArg (fun kn_ => z6n an q30 b0 i b1 kn_ (fun c0_ c1_ c2_ => (zd8 an q30 b0) (some (c0_, c1_, c2_)))) (funext fun i' => funext fun b1' => ih i' b1')
theorem z0t : LoopOne Try.prog fnTab 52 3 z18 := lp_of (Γ := Γ1) tyTab_ok (FnL.ok fnTab_ok _ _) (LpL.ok lt1_ok) (SumL.ok tb1_ok _) mixed (fi := fi52) (by kernel_rfl) (by kernel_rfl) (by
  intro lo st out hp
  obtain ⟨hs, e1, e2, e3⟩ := lpT_inv hp
  clear hp
  obtain rfl : st = (St.mk [(0, (AV.v (TV.one (At.vw 0 0 (hvN (hGet hs 0)) 1)))), (3, (AV.v (TV.one (At.sl 1 0 (hvN (hGet hs 1)) 1)))), (4, (AV.v (TV.one (At.int IntKind.i64 (hvI (hGet hs 2))))))] [(Blk.mk Bool.false (Body.fl FloatKind.f32 (hvLn (hGet hs 3)))), (Blk.mk Bool.true (Body.fl FloatKind.f32 (hvLn (hGet hs 4))))]) := e2.trans (by kernel_rfl)
  clear e2
  subst e1
  unfold zji at e3
  injection e3 with h1 h2
  subst h2
  exact ⟨8, 8, big, Eq.trans (zmo (hvN (hGet hs 0)) (hvN (hGet hs 1)) (hvLn (hGet hs 3)) big (hvI (hGet hs 2)) (hvLn (hGet hs 4))) (zmv (hvN (hGet hs 0)) (hvN (hGet hs 1)) (hvLn (hGet hs 3)) (z5g (hvN (hGet hs 0)) (hvN (hGet hs 1)) (hvLn (hGet hs 3)) big (hvI (hGet hs 2)) (hvLn (hGet hs 4))) h1)⟩)
noncomputable def zj6 (an : Nat) (k : Int) (i : Int) (b0 : List Nat) : Bool × LO := ((zcn an b0 k i), (LO.two (zc3 an b0 k i) (LO.one Ex.ret (St.mk [(4, (AV.v (TV.one (At.int IntKind.i64 (Int.negSucc 0)))))] [(Blk.mk Bool.false (Body.fl FloatKind.f32 b0))])) (LO.one (Ex.exit 0) (St.mk [(0, (AV.v (TV.one (At.vw 0 0 an 3)))), (1, (AV.v (TV.one (At.int IntKind.i64 (zaz an b0 k i))))), (5, (AV.v (TV.one (At.int IntKind.i64 (zdd an b0 k i))))), (9, (AV.v (TV.one (At.bool (zdg an b0 k i)))))] [(Blk.mk Bool.false (Body.fl FloatKind.f32 b0))]))))
noncomputable def z0x : Nat → St → Option (Bool × LO) := lpT 1 (pSt [(pTm 0 (pV (pOne (pVw 0 (liN 0) 3)))), (pTm 1 (pV (pOne (pInt IntKind.i64)))), (pTm 5 (pV (pOne (pInt IntKind.i64))))] [(pBlk Bool.false (pFl FloatKind.f32))]) (fun hs => zj6 (hvN (hGet hs 0)) (hvI (hGet hs 1)) (hvI (hGet hs 2)) (hvLn (hGet hs 3)))
def z9s (an : Nat) (b0 : List Nat) : Option ((Unit) ⊕ (Int × Int × Bool)) → Option (Ex × St)
  | none => none
  | some (Sum.inl r) => some (Ex.ret, (St.mk [(4, (AV.v (TV.one (At.int IntKind.i64 (Int.negSucc 0)))))] [(Blk.mk Bool.false (Body.fl FloatKind.f32 b0))]))
  | some (Sum.inr r) => some ((Ex.exit 0), (St.mk [(0, (AV.v (TV.one (At.vw 0 0 an 3)))), (1, (AV.v (TV.one (At.int IntKind.i64 r.1)))), (5, (AV.v (TV.one (At.int IntKind.i64 r.2.1)))), (9, (AV.v (TV.one (At.bool r.2.2))))] [(Blk.mk Bool.false (Body.fl FloatKind.f32 b0))]))
def zl4 (an : Nat) (b0 : List Nat) (x : Option ((Unit) ⊕ (Int × Int × Bool))) : LO := (LO.two (oL x) (LO.one Ex.ret (St.mk [(4, (AV.v (TV.one (At.int IntKind.i64 (Int.negSucc 0)))))] [(Blk.mk Bool.false (Body.fl FloatKind.f32 b0))])) (LO.one (Ex.exit 0) (St.mk [(0, (AV.v (TV.one (At.vw 0 0 an 3)))), (1, (AV.v (TV.one (At.int IntKind.i64 ((tR x).getD default).1)))), (5, (AV.v (TV.one (At.int IntKind.i64 ((tR x).getD default).2.1)))), (9, (AV.v (TV.one (At.bool ((tR x).getD default).2.2))))] [(Blk.mk Bool.false (Body.fl FloatKind.f32 b0))])))
theorem zll (an : Nat) (b0 : List Nat) : ∀ x : Option ((Unit) ⊕ (Int × Int × Bool)), x.isSome = true → (z9s an b0) x = some (pick (zl4 an b0 x))
  | none, h => by cases h
  | some (Sum.inl r), _ => rfl
  | some (Sum.inr r), _ => rfl
theorem zlu (an : Nat) (k : Int) (i : Int) (b0 : List Nat) (K : Ex → St → Option (Ex × St)) : evC (R := Ex × St) Γ1 (evFn Γ1 8 8) 72 1 fi72.nt fi72.live fi72.nl 8 (findL 2 (loopsIn fi72.code)) (St.mk [(0, (AV.v (TV.one (At.vw 0 0 an 3)))), (1, (AV.v (TV.one (At.int IntKind.i64 k)))), (5, (AV.v (TV.one (At.int IntKind.i64 i))))] [(Blk.mk Bool.false (Body.fl FloatKind.f32 b0))]) K = z5y an b0 k i (fun k' i' => K .normal (St.mk [(0, (AV.v (TV.one (At.vw 0 0 an 3)))), (1, (AV.v (TV.one (At.int IntKind.i64 k')))), (5, (AV.v (TV.one (At.int IntKind.i64 i'))))] [(Blk.mk Bool.false (Body.fl FloatKind.f32 b0))])) (fun _ => K Ex.ret (St.mk [(4, (AV.v (TV.one (At.int IntKind.i64 (Int.negSucc 0)))))] [(Blk.mk Bool.false (Body.fl FloatKind.f32 b0))])) (fun c0_ c1_ c2_ => K (Ex.exit 0) (St.mk [(0, (AV.v (TV.one (At.vw 0 0 an 3)))), (1, (AV.v (TV.one (At.int IntKind.i64 c0_)))), (5, (AV.v (TV.one (At.int IntKind.i64 c1_)))), (9, (AV.v (TV.one (At.bool c2_))))] [(Blk.mk Bool.false (Body.fl FloatKind.f32 b0))])) := by kernel_rfl
theorem zln (an : Nat) (b0 : List Nat) : ∀ (n : Nat) (k : Int) (i : Int), iter 72 2 1 (evC (R := Ex × St) Γ1 (evFn Γ1 8 8) 72 1 fi72.nt fi72.live fi72.nl 8 (findL 2 (loopsIn fi72.code))) n (St.mk [(0, (AV.v (TV.one (At.vw 0 0 an 3)))), (1, (AV.v (TV.one (At.int IntKind.i64 k)))), (5, (AV.v (TV.one (At.int IntKind.i64 i))))] [(Blk.mk Bool.false (Body.fl FloatKind.f32 b0))]) (fun e st => some (e, st)) = (z9s an b0) (z45 an b0 n k i) := by
  intro n
  induction n with
  | zero => intros; rfl
  | succ n ih =>
    intro k i
    refine Eq.trans (iter_succ ..) (Eq.trans (zlu an k i b0 (nextK 72 2 1 (evC (R := Ex × St) Γ1 (evFn Γ1 8 8) 72 1 fi72.nt fi72.live fi72.nl 8 (findL 2 (loopsIn fi72.code))) n (fun e st => some (e, st)))) (Eq.trans ?_ (zk2 (z9s an b0) rfl an b0 k i (fun k' i' => z45 an b0 n k' i') (fun _ => some (Sum.inl ())) (fun c0_ c1_ c2_ => some (Sum.inr (c0_, c1_, c2_))))))
    exact congrArg (fun kn_ => z5y an b0 k i kn_ (fun _ => (z9s an b0) (some (Sum.inl ()))) (fun c0_ c1_ c2_ => (z9s an b0) (some (Sum.inr (c0_, c1_, c2_))))) (funext fun k' => funext fun i' => ih k' i')
theorem z0k : LoopOne Try.prog fnTab 72 2 z0x := lp_of (Γ := Γ1) tyTab_ok (FnL.ok fnTab_ok _ _) (LpL.ok lt1_ok) (SumL.ok tb1_ok _) mixed (fi := fi72) (by kernel_rfl) (by kernel_rfl) (by
  intro lo st out hp
  obtain ⟨hs, e1, e2, e3⟩ := lpT_inv hp
  clear hp
  obtain rfl : st = (St.mk [(0, (AV.v (TV.one (At.vw 0 0 (hvN (hGet hs 0)) 3)))), (1, (AV.v (TV.one (At.int IntKind.i64 (hvI (hGet hs 1)))))), (5, (AV.v (TV.one (At.int IntKind.i64 (hvI (hGet hs 2))))))] [(Blk.mk Bool.false (Body.fl FloatKind.f32 (hvLn (hGet hs 3))))]) := e2.trans (by kernel_rfl)
  clear e2
  subst e1
  unfold zj6 at e3
  injection e3 with h1 h2
  subst h2
  exact ⟨8, 8, big, Eq.trans (zln (hvN (hGet hs 0)) (hvLn (hGet hs 3)) big (hvI (hGet hs 1)) (hvI (hGet hs 2))) (zll (hvN (hGet hs 0)) (hvLn (hGet hs 3)) (z45 (hvN (hGet hs 0)) (hvLn (hGet hs 3)) big (hvI (hGet hs 1)) (hvI (hGet hs 2))) h1)⟩)
noncomputable def zj8 (an : Nat) (k : Int) (i : Int) (b0 : List Nat) : Bool × LO := ((zcm an b0 k i), (LO.two (zc2 an b0 k i) (LO.one Ex.ret (St.mk [(4, (AV.v (TV.one (At.int IntKind.i64 (Int.negSucc 0)))))] [(Blk.mk Bool.false (Body.fl FloatKind.f32 b0))])) (LO.one (Ex.exit 0) (St.mk [(0, (AV.v (TV.one (At.vw 0 0 an 1)))), (1, (AV.v (TV.one (At.int IntKind.i64 (zb1 an b0 k i))))), (5, (AV.v (TV.one (At.int IntKind.i64 (zdb an b0 k i))))), (9, (AV.v (TV.one (At.bool (zd7 an b0 k i)))))] [(Blk.mk Bool.false (Body.fl FloatKind.f32 b0))]))))
noncomputable def z0v : Nat → St → Option (Bool × LO) := lpT 1 (pSt [(pTm 0 (pV (pOne (pVw 0 (liN 0) 1)))), (pTm 1 (pV (pOne (pInt IntKind.i64)))), (pTm 5 (pV (pOne (pInt IntKind.i64))))] [(pBlk Bool.false (pFl FloatKind.f32))]) (fun hs => zj8 (hvN (hGet hs 0)) (hvI (hGet hs 1)) (hvI (hGet hs 2)) (hvLn (hGet hs 3)))
def z9w (an : Nat) (b0 : List Nat) : Option ((Unit) ⊕ (Int × Int × Bool)) → Option (Ex × St)
  | none => none
  | some (Sum.inl r) => some (Ex.ret, (St.mk [(4, (AV.v (TV.one (At.int IntKind.i64 (Int.negSucc 0)))))] [(Blk.mk Bool.false (Body.fl FloatKind.f32 b0))]))
  | some (Sum.inr r) => some ((Ex.exit 0), (St.mk [(0, (AV.v (TV.one (At.vw 0 0 an 1)))), (1, (AV.v (TV.one (At.int IntKind.i64 r.1)))), (5, (AV.v (TV.one (At.int IntKind.i64 r.2.1)))), (9, (AV.v (TV.one (At.bool r.2.2))))] [(Blk.mk Bool.false (Body.fl FloatKind.f32 b0))]))
def zl2 (an : Nat) (b0 : List Nat) (x : Option ((Unit) ⊕ (Int × Int × Bool))) : LO := (LO.two (oL x) (LO.one Ex.ret (St.mk [(4, (AV.v (TV.one (At.int IntKind.i64 (Int.negSucc 0)))))] [(Blk.mk Bool.false (Body.fl FloatKind.f32 b0))])) (LO.one (Ex.exit 0) (St.mk [(0, (AV.v (TV.one (At.vw 0 0 an 1)))), (1, (AV.v (TV.one (At.int IntKind.i64 ((tR x).getD default).1)))), (5, (AV.v (TV.one (At.int IntKind.i64 ((tR x).getD default).2.1)))), (9, (AV.v (TV.one (At.bool ((tR x).getD default).2.2))))] [(Blk.mk Bool.false (Body.fl FloatKind.f32 b0))])))
theorem zlt (an : Nat) (b0 : List Nat) : ∀ x : Option ((Unit) ⊕ (Int × Int × Bool)), x.isSome = true → (z9w an b0) x = some (pick (zl2 an b0 x))
  | none, h => by cases h
  | some (Sum.inl r), _ => rfl
  | some (Sum.inr r), _ => rfl
theorem zlk (an : Nat) (k : Int) (i : Int) (b0 : List Nat) (K : Ex → St → Option (Ex × St)) : evC (R := Ex × St) Γ1 (evFn Γ1 8 8) 79 1 fi79.nt fi79.live fi79.nl 8 (findL 2 (loopsIn fi79.code)) (St.mk [(0, (AV.v (TV.one (At.vw 0 0 an 1)))), (1, (AV.v (TV.one (At.int IntKind.i64 k)))), (5, (AV.v (TV.one (At.int IntKind.i64 i))))] [(Blk.mk Bool.false (Body.fl FloatKind.f32 b0))]) K = z5z an b0 k i (fun k' i' => K .normal (St.mk [(0, (AV.v (TV.one (At.vw 0 0 an 1)))), (1, (AV.v (TV.one (At.int IntKind.i64 k')))), (5, (AV.v (TV.one (At.int IntKind.i64 i'))))] [(Blk.mk Bool.false (Body.fl FloatKind.f32 b0))])) (fun _ => K Ex.ret (St.mk [(4, (AV.v (TV.one (At.int IntKind.i64 (Int.negSucc 0)))))] [(Blk.mk Bool.false (Body.fl FloatKind.f32 b0))])) (fun c0_ c1_ c2_ => K (Ex.exit 0) (St.mk [(0, (AV.v (TV.one (At.vw 0 0 an 1)))), (1, (AV.v (TV.one (At.int IntKind.i64 c0_)))), (5, (AV.v (TV.one (At.int IntKind.i64 c1_)))), (9, (AV.v (TV.one (At.bool c2_))))] [(Blk.mk Bool.false (Body.fl FloatKind.f32 b0))])) := by kernel_rfl
theorem zls (an : Nat) (b0 : List Nat) : ∀ (n : Nat) (k : Int) (i : Int), iter 79 2 1 (evC (R := Ex × St) Γ1 (evFn Γ1 8 8) 79 1 fi79.nt fi79.live fi79.nl 8 (findL 2 (loopsIn fi79.code))) n (St.mk [(0, (AV.v (TV.one (At.vw 0 0 an 1)))), (1, (AV.v (TV.one (At.int IntKind.i64 k)))), (5, (AV.v (TV.one (At.int IntKind.i64 i))))] [(Blk.mk Bool.false (Body.fl FloatKind.f32 b0))]) (fun e st => some (e, st)) = (z9w an b0) (z46 an b0 n k i) := by
  intro n
  induction n with
  | zero => intros; rfl
  | succ n ih =>
    intro k i
    refine Eq.trans (iter_succ ..) (Eq.trans (zlk an k i b0 (nextK 79 2 1 (evC (R := Ex × St) Γ1 (evFn Γ1 8 8) 79 1 fi79.nt fi79.live fi79.nl 8 (findL 2 (loopsIn fi79.code))) n (fun e st => some (e, st)))) (Eq.trans ?_ (zk1 (z9w an b0) rfl an b0 k i (fun k' i' => z46 an b0 n k' i') (fun _ => some (Sum.inl ())) (fun c0_ c1_ c2_ => some (Sum.inr (c0_, c1_, c2_))))))
    exact congrArg (fun kn_ => z5z an b0 k i kn_ (fun _ => (z9w an b0) (some (Sum.inl ()))) (fun c0_ c1_ c2_ => (z9w an b0) (some (Sum.inr (c0_, c1_, c2_))))) (funext fun k' => funext fun i' => ih k' i')
theorem z0l : LoopOne Try.prog fnTab 79 2 z0v := lp_of (Γ := Γ1) tyTab_ok (FnL.ok fnTab_ok _ _) (LpL.ok lt1_ok) (SumL.ok tb1_ok _) mixed (fi := fi79) (by kernel_rfl) (by kernel_rfl) (by
  intro lo st out hp
  obtain ⟨hs, e1, e2, e3⟩ := lpT_inv hp
  clear hp
  obtain rfl : st = (St.mk [(0, (AV.v (TV.one (At.vw 0 0 (hvN (hGet hs 0)) 1)))), (1, (AV.v (TV.one (At.int IntKind.i64 (hvI (hGet hs 1)))))), (5, (AV.v (TV.one (At.int IntKind.i64 (hvI (hGet hs 2))))))] [(Blk.mk Bool.false (Body.fl FloatKind.f32 (hvLn (hGet hs 3))))]) := e2.trans (by kernel_rfl)
  clear e2
  subst e1
  unfold zj8 at e3
  injection e3 with h1 h2
  subst h2
  exact ⟨8, 8, big, Eq.trans (zls (hvN (hGet hs 0)) (hvLn (hGet hs 3)) big (hvI (hGet hs 1)) (hvI (hGet hs 2))) (zlt (hvN (hGet hs 0)) (hvLn (hGet hs 3)) (z46 (hvN (hGet hs 0)) (hvLn (hGet hs 3)) big (hvI (hGet hs 1)) (hvI (hGet hs 2))) h1)⟩)
noncomputable def tb2 : List (Nat × (List PT → Option (Bool × AV × List Blk))) := [(125, z25), (128, z0q), (134, z1c), (137, z24), (18, z2e), (48, z1x), (54, z2x), (61, z2c), (63, z3s), (64, z3l), (66, z3k), (97, z2w), (104, z0m), (14, z2j), (67, z1q), (103, z32), (105, z2i), (111, z3d), (114, z33), (118, z1p), (122, z13)]
noncomputable def lt2 : List ((Nat × Nat) × (Nat → St → Option (Bool × LO))) := [((52, 3), z18), ((72, 2), z0x), ((79, 2), z0v)]
noncomputable def Γ2 : Ctx := ⟨tyTab, fnTab, tblSum tb2, tblLp lt2⟩
theorem tb2_ok : SumL Try.prog tb2 := SumL.cons z1b (SumL.cons z0j (SumL.cons z0z (SumL.cons z1a (SumL.cons z1f (SumL.cons z17 (SumL.cons z1w (SumL.cons z1h (SumL.cons z39 (SumL.cons z2t (SumL.cons z2s (SumL.cons z1v (SumL.cons z0i (SumL.cons z1r (SumL.cons z15 (SumL.cons z22 (SumL.cons z1s (SumL.cons z2f (SumL.cons z21 (SumL.cons z14 (SumL.cons z0s (SumL.nil)))))))))))))))))))))
theorem lt2_ok : LpL Try.prog fnTab lt2 := LpL.cons z0t (LpL.cons z0k (LpL.cons z0l (LpL.nil)))
noncomputable def z28 : List PT → Option (Bool × AV × List Blk)
  | [.one (.row 1 a_n (.fl .f32 a))] => some ((zbx a_n a), ((AV.v (TV.one (At.sl 0 0 (zad a_n a) 1))), [(Blk.mk Bool.true (Body.fl FloatKind.f32 (za5 a_n a)))]))
  | _ => none
def zka (a_n : Nat) (a : List Nat) : Option (Nat × (List Nat)) → Option (AV × List Blk)
  | some r => some ((AV.v (TV.one (At.sl 0 0 r.1 1))), [(Blk.mk Bool.true (Body.fl FloatKind.f32 r.2))])
  | none => none
theorem zoc (a_n : Nat) (a : List Nat) : evFn Γ2 8 8 52 (impTs 0 [.one (.row 1 a_n (.fl .f32 a))]).1 (impTs 0 [.one (.row 1 a_n (.fl .f32 a))]).2 (expo (impTs 0 [.one (.row 1 a_n (.fl .f32 a))]).2.length) = zbv a_n a (fun c0_ c1_ => some ((AV.v (TV.one (At.sl 0 0 c0_ 1))), [(Blk.mk Bool.true (Body.fl FloatKind.f32 c1_))])) := by kernel_rfl
theorem z1j : SumOne Try.prog 52 z28 := sum_of (Γ := Γ2) (fuel := 8) (d := 8) tyTab_ok (FnL.ok fnTab_ok _ _) (LpL.ok lt2_ok) (SumL.ok tb2_ok _) mixed (by
  intro pts v news hp hc
  clear hc
  unfold z28 at hp
  split at hp
  · rename_i a_n a
    exact Eq.trans (Eq.trans (zoc a_n a) (zm2 (zka a_n a) rfl a_n a (fun c0_ c1_ => some (c0_, c1_)))) (fin_out (o := (zka a_n a)) (x := z9d a_n a) (d := default) (V := fun r => ((AV.v (TV.one (At.sl 0 0 r.1 1))), [(Blk.mk Bool.true (Body.fl FloatKind.f32 r.2))])) (fun r => rfl) hp)
  · cases hp)
noncomputable def z1g : List PT → Option (Bool × AV × List Blk)
  | [.one (.row 3 a_n (.fl .f32 a)), .one (.s (.int .i64 k))] => some ((ze1 a_n a k), ((AV.v (TV.one (At.int IntKind.i64 (zbi a_n a k)))), []))
  | _ => none
def zjs (a_n : Nat) (a : List Nat) (k : Int) : Option (Int) → Option (AV × List Blk)
  | some r => some ((AV.v (TV.one (At.int IntKind.i64 r))), [])
  | none => none
theorem zng (a_n : Nat) (a : List Nat) (k : Int) : evFn Γ2 8 8 72 (impTs 0 [.one (.row 3 a_n (.fl .f32 a)), .one (.s (.int .i64 k))]).1 (impTs 0 [.one (.row 3 a_n (.fl .f32 a)), .one (.s (.int .i64 k))]).2 (expo (impTs 0 [.one (.row 3 a_n (.fl .f32 a)), .one (.s (.int .i64 k))]).2.length) = z9l a_n a k (fun c0_ => some ((AV.v (TV.one (At.int IntKind.i64 c0_))), [])) := by kernel_rfl
theorem z11 : SumOne Try.prog 72 z1g := sum_of (Γ := Γ2) (fuel := 8) (d := 8) tyTab_ok (FnL.ok fnTab_ok _ _) (LpL.ok lt2_ok) (SumL.ok tb2_ok _) mixed (by
  intro pts v news hp hc
  clear hc
  unfold z1g at hp
  split at hp
  · rename_i a_n a k
    exact Eq.trans (Eq.trans (zng a_n a k) (zl5 (zjs a_n a k) rfl a_n a k (fun c0_ => some c0_))) (fin_out (o := (zjs a_n a k)) (x := z9p a_n a k) (d := default) (V := fun r => ((AV.v (TV.one (At.int IntKind.i64 r))), [])) (fun r => rfl) hp)
  · cases hp)
noncomputable def z1i : List PT → Option (Bool × AV × List Blk)
  | [.one (.row 1 a_n (.fl .f32 a)), .one (.s (.int .i64 k))] => some ((z9k a_n a k), ((AV.v (TV.one (At.int IntKind.i64 (z4j a_n a k)))), []))
  | _ => none
def zjr (a_n : Nat) (a : List Nat) (k : Int) : Option (Int) → Option (AV × List Blk)
  | some r => some ((AV.v (TV.one (At.int IntKind.i64 r))), [])
  | none => none
theorem znd (a_n : Nat) (a : List Nat) (k : Int) : evFn Γ2 8 8 79 (impTs 0 [.one (.row 1 a_n (.fl .f32 a)), .one (.s (.int .i64 k))]).1 (impTs 0 [.one (.row 1 a_n (.fl .f32 a)), .one (.s (.int .i64 k))]).2 (expo (impTs 0 [.one (.row 1 a_n (.fl .f32 a)), .one (.s (.int .i64 k))]).2.length) = z9o a_n a k (fun c0_ => some ((AV.v (TV.one (At.int IntKind.i64 c0_))), [])) := by kernel_rfl
theorem z12 : SumOne Try.prog 79 z1i := sum_of (Γ := Γ2) (fuel := 8) (d := 8) tyTab_ok (FnL.ok fnTab_ok _ _) (LpL.ok lt2_ok) (SumL.ok tb2_ok _) mixed (by
  intro pts v news hp hc
  clear hc
  unfold z1i at hp
  split at hp
  · rename_i a_n a k
    exact Eq.trans (Eq.trans (znd a_n a k) (zl0 (zjr a_n a k) rfl a_n a k (fun c0_ => some c0_))) (fin_out (o := (zjr a_n a k)) (x := z9i a_n a k) (d := default) (V := fun r => ((AV.v (TV.one (At.int IntKind.i64 r))), [])) (fun r => rfl) hp)
  · cases hp)
noncomputable def z29 : List PT → Option (Bool × AV × List Blk)
  | [.one (.s (.flt .f32 x))] => some ((zgi x), ((AV.v (TV.one (At.bool (zf6 x)))), []))
  | _ => none
def zk8 (x : Nat) : Option (Bool) → Option (AV × List Blk)
  | some r => some ((AV.v (TV.one (At.bool r))), [])
  | none => none
theorem zoe (x : Nat) : evFn Γ2 8 8 119 (impTs 0 [.one (.s (.flt .f32 x))]).1 (impTs 0 [.one (.s (.flt .f32 x))]).2 (expo (impTs 0 [.one (.s (.flt .f32 x))]).2.length) = zbn x (fun c0_ => some ((AV.v (TV.one (At.bool c0_))), [])) := by kernel_rfl
theorem z1l : SumOne Try.prog 119 z29 := sum_of (Γ := Γ2) (fuel := 8) (d := 8) tyTab_ok (FnL.ok fnTab_ok _ _) (LpL.ok lt2_ok) (SumL.ok tb2_ok _) mixed (by
  intro pts v news hp hc
  clear hc
  unfold z29 at hp
  split at hp
  · rename_i x
    exact Eq.trans (Eq.trans (zoe x) (zm7 (zk8 x) rfl x (fun c0_ => some c0_))) (fin_out (o := (zk8 x)) (x := zbo x) (d := default) (V := fun r => ((AV.v (TV.one (At.bool r))), [])) (fun r => rfl) hp)
  · cases hp)
noncomputable def zjg (an : Nat) (bn : Nat) (i : Int) (b0 : List Nat) (b1 : List Nat) : Bool × LO := ((zda an bn b0 b1 i), (LO.two (zcx an bn b0 b1 i) (LO.one Ex.ret (St.mk [(4, (AV.v (TV.one (At.bool Bool.false))))] [(Blk.mk Bool.false (Body.fl FloatKind.f32 b0)), (Blk.mk Bool.false (Body.fl FloatKind.f32 b1))])) (LO.one (Ex.exit 0) (St.mk [(0, (AV.v (TV.one (At.vw 0 0 an 1)))), (1, (AV.v (TV.one (At.vw 1 0 bn 1)))), (5, (AV.v (TV.one (At.int IntKind.i64 (zea an bn b0 b1 i))))), (14, (AV.v (TV.one (At.bool (zef an bn b0 b1 i)))))] [(Blk.mk Bool.false (Body.fl FloatKind.f32 b0)), (Blk.mk Bool.false (Body.fl FloatKind.f32 b1))]))))
noncomputable def z1d : Nat → St → Option (Bool × LO) := lpT 2 (pSt [(pTm 0 (pV (pOne (pVw 0 (liN 0) 1)))), (pTm 1 (pV (pOne (pVw 1 (liN 0) 1)))), (pTm 5 (pV (pOne (pInt IntKind.i64))))] [(pBlk Bool.false (pFl FloatKind.f32)), (pBlk Bool.false (pFl FloatKind.f32))]) (fun hs => zjg (hvN (hGet hs 0)) (hvN (hGet hs 1)) (hvI (hGet hs 2)) (hvLn (hGet hs 3)) (hvLn (hGet hs 4)))
def zbe (an : Nat) (bn : Nat) (b0 : List Nat) (b1 : List Nat) : Option ((Unit) ⊕ (Int × Bool)) → Option (Ex × St)
  | none => none
  | some (Sum.inl r) => some (Ex.ret, (St.mk [(4, (AV.v (TV.one (At.bool Bool.false))))] [(Blk.mk Bool.false (Body.fl FloatKind.f32 b0)), (Blk.mk Bool.false (Body.fl FloatKind.f32 b1))]))
  | some (Sum.inr r) => some ((Ex.exit 0), (St.mk [(0, (AV.v (TV.one (At.vw 0 0 an 1)))), (1, (AV.v (TV.one (At.vw 1 0 bn 1)))), (5, (AV.v (TV.one (At.int IntKind.i64 r.1)))), (14, (AV.v (TV.one (At.bool r.2))))] [(Blk.mk Bool.false (Body.fl FloatKind.f32 b0)), (Blk.mk Bool.false (Body.fl FloatKind.f32 b1))]))
def zm6 (an : Nat) (bn : Nat) (b0 : List Nat) (b1 : List Nat) (x : Option ((Unit) ⊕ (Int × Bool))) : LO := (LO.two (oL x) (LO.one Ex.ret (St.mk [(4, (AV.v (TV.one (At.bool Bool.false))))] [(Blk.mk Bool.false (Body.fl FloatKind.f32 b0)), (Blk.mk Bool.false (Body.fl FloatKind.f32 b1))])) (LO.one (Ex.exit 0) (St.mk [(0, (AV.v (TV.one (At.vw 0 0 an 1)))), (1, (AV.v (TV.one (At.vw 1 0 bn 1)))), (5, (AV.v (TV.one (At.int IntKind.i64 ((tR x).getD default).1)))), (14, (AV.v (TV.one (At.bool ((tR x).getD default).2))))] [(Blk.mk Bool.false (Body.fl FloatKind.f32 b0)), (Blk.mk Bool.false (Body.fl FloatKind.f32 b1))])))
theorem zms (an : Nat) (bn : Nat) (b0 : List Nat) (b1 : List Nat) : ∀ x : Option ((Unit) ⊕ (Int × Bool)), x.isSome = true → (zbe an bn b0 b1) x = some (pick (zm6 an bn b0 b1 x))
  | none, h => by cases h
  | some (Sum.inl r), _ => rfl
  | some (Sum.inr r), _ => rfl
theorem zml (an : Nat) (bn : Nat) (i : Int) (b0 : List Nat) (b1 : List Nat) (K : Ex → St → Option (Ex × St)) : evC (R := Ex × St) Γ2 (evFn Γ2 8 8) 57 2 fi57.nt fi57.live fi57.nl 8 (findL 4 (loopsIn fi57.code)) (St.mk [(0, (AV.v (TV.one (At.vw 0 0 an 1)))), (1, (AV.v (TV.one (At.vw 1 0 bn 1)))), (5, (AV.v (TV.one (At.int IntKind.i64 i))))] [(Blk.mk Bool.false (Body.fl FloatKind.f32 b0)), (Blk.mk Bool.false (Body.fl FloatKind.f32 b1))]) K = z6p an bn b0 b1 i (fun i' => K .normal (St.mk [(0, (AV.v (TV.one (At.vw 0 0 an 1)))), (1, (AV.v (TV.one (At.vw 1 0 bn 1)))), (5, (AV.v (TV.one (At.int IntKind.i64 i'))))] [(Blk.mk Bool.false (Body.fl FloatKind.f32 b0)), (Blk.mk Bool.false (Body.fl FloatKind.f32 b1))])) (fun _ => K Ex.ret (St.mk [(4, (AV.v (TV.one (At.bool Bool.false))))] [(Blk.mk Bool.false (Body.fl FloatKind.f32 b0)), (Blk.mk Bool.false (Body.fl FloatKind.f32 b1))])) (fun c0_ c1_ => K (Ex.exit 0) (St.mk [(0, (AV.v (TV.one (At.vw 0 0 an 1)))), (1, (AV.v (TV.one (At.vw 1 0 bn 1)))), (5, (AV.v (TV.one (At.int IntKind.i64 c0_)))), (14, (AV.v (TV.one (At.bool c1_))))] [(Blk.mk Bool.false (Body.fl FloatKind.f32 b0)), (Blk.mk Bool.false (Body.fl FloatKind.f32 b1))])) := by kernel_rfl
theorem zme (an : Nat) (bn : Nat) (b0 : List Nat) (b1 : List Nat) : ∀ (n : Nat) (i : Int), iter 57 4 2 (evC (R := Ex × St) Γ2 (evFn Γ2 8 8) 57 2 fi57.nt fi57.live fi57.nl 8 (findL 4 (loopsIn fi57.code))) n (St.mk [(0, (AV.v (TV.one (At.vw 0 0 an 1)))), (1, (AV.v (TV.one (At.vw 1 0 bn 1)))), (5, (AV.v (TV.one (At.int IntKind.i64 i))))] [(Blk.mk Bool.false (Body.fl FloatKind.f32 b0)), (Blk.mk Bool.false (Body.fl FloatKind.f32 b1))]) (fun e st => some (e, st)) = (zbe an bn b0 b1) (z5e an bn b0 b1 n i) := by
  intro n
  induction n with
  | zero => intros; rfl
  | succ n ih =>
    intro i
    refine Eq.trans (iter_succ ..) (Eq.trans (zml an bn i b0 b1 (nextK 57 4 2 (evC (R := Ex × St) Γ2 (evFn Γ2 8 8) 57 2 fi57.nt fi57.live fi57.nl 8 (findL 4 (loopsIn fi57.code))) n (fun e st => some (e, st)))) (Eq.trans ?_ (zkh (zbe an bn b0 b1) rfl an bn b0 b1 i (fun i' => z5e an bn b0 b1 n i') (fun _ => some (Sum.inl ())) (fun c0_ c1_ => some (Sum.inr (c0_, c1_))))))
    exact congrArg (fun kn_ => z6p an bn b0 b1 i kn_ (fun _ => (zbe an bn b0 b1) (some (Sum.inl ()))) (fun c0_ c1_ => (zbe an bn b0 b1) (some (Sum.inr (c0_, c1_))))) (funext fun i' => ih i')
theorem z0y : LoopOne Try.prog fnTab 57 4 z1d := lp_of (Γ := Γ2) tyTab_ok (FnL.ok fnTab_ok _ _) (LpL.ok lt2_ok) (SumL.ok tb2_ok _) mixed (fi := fi57) (by kernel_rfl) (by kernel_rfl) (by
  intro lo st out hp
  obtain ⟨hs, e1, e2, e3⟩ := lpT_inv hp
  clear hp
  obtain rfl : st = (St.mk [(0, (AV.v (TV.one (At.vw 0 0 (hvN (hGet hs 0)) 1)))), (1, (AV.v (TV.one (At.vw 1 0 (hvN (hGet hs 1)) 1)))), (5, (AV.v (TV.one (At.int IntKind.i64 (hvI (hGet hs 2))))))] [(Blk.mk Bool.false (Body.fl FloatKind.f32 (hvLn (hGet hs 3)))), (Blk.mk Bool.false (Body.fl FloatKind.f32 (hvLn (hGet hs 4))))]) := e2.trans (by kernel_rfl)
  clear e2
  subst e1
  unfold zjg at e3
  injection e3 with h1 h2
  subst h2
  exact ⟨8, 8, big, Eq.trans (zme (hvN (hGet hs 0)) (hvN (hGet hs 1)) (hvLn (hGet hs 3)) (hvLn (hGet hs 4)) big (hvI (hGet hs 2))) (zms (hvN (hGet hs 0)) (hvN (hGet hs 1)) (hvLn (hGet hs 3)) (hvLn (hGet hs 4)) (z5e (hvN (hGet hs 0)) (hvN (hGet hs 1)) (hvLn (hGet hs 3)) (hvLn (hGet hs 4)) big (hvI (hGet hs 2))) h1)⟩)
noncomputable def tb3 : List (Nat × (List PT → Option (Bool × AV × List Blk))) := [(125, z25), (128, z0q), (134, z1c), (137, z24), (18, z2e), (48, z1x), (54, z2x), (61, z2c), (63, z3s), (64, z3l), (66, z3k), (97, z2w), (104, z0m), (14, z2j), (67, z1q), (103, z32), (105, z2i), (111, z3d), (114, z33), (118, z1p), (122, z13), (52, z28), (72, z1g), (79, z1i), (119, z29)]
noncomputable def lt3 : List ((Nat × Nat) × (Nat → St → Option (Bool × LO))) := [((52, 3), z18), ((72, 2), z0x), ((79, 2), z0v), ((57, 4), z1d)]
noncomputable def Γ3 : Ctx := ⟨tyTab, fnTab, tblSum tb3, tblLp lt3⟩
theorem tb3_ok : SumL Try.prog tb3 := SumL.cons z1b (SumL.cons z0j (SumL.cons z0z (SumL.cons z1a (SumL.cons z1f (SumL.cons z17 (SumL.cons z1w (SumL.cons z1h (SumL.cons z39 (SumL.cons z2t (SumL.cons z2s (SumL.cons z1v (SumL.cons z0i (SumL.cons z1r (SumL.cons z15 (SumL.cons z22 (SumL.cons z1s (SumL.cons z2f (SumL.cons z21 (SumL.cons z14 (SumL.cons z0s (SumL.cons z1j (SumL.cons z11 (SumL.cons z12 (SumL.cons z1l (SumL.nil)))))))))))))))))))))))))
theorem lt3_ok : LpL Try.prog fnTab lt3 := LpL.cons z0t (LpL.cons z0k (LpL.cons z0l (LpL.cons z0y (LpL.nil))))
noncomputable def z30 : List PT → Option (Bool × AV × List Blk)
  | [.agg [.row 1 q0d (.fl .f32 q0t), .row 1 q0h (.fl .f32 q0x), .row 1 q0j (.fl .f32 q10)]] => some ((zdw q0d q0t q0h q0x q0j q10), ((AV.v (TV.agg [(At.sl 0 0 (zd6 q0d q0t q0h q0x q0j q10) 1), (At.sl 1 0 (zd0 q0d q0t q0h q0x q0j q10) 1), (At.sl 2 0 (zd5 q0d q0t q0h q0x q0j q10) 1)])), [(Blk.mk Bool.true (Body.fl FloatKind.f32 (zd4 q0d q0t q0h q0x q0j q10))), (Blk.mk Bool.true (Body.fl FloatKind.f32 (zd1 q0d q0t q0h q0x q0j q10))), (Blk.mk Bool.true (Body.fl FloatKind.f32 (zd3 q0d q0t q0h q0x q0j q10)))]))
  | _ => none
def zkl (q0d : Nat) (q0t : List Nat) (q0h : Nat) (q0x : List Nat) (q0j : Nat) (q10 : List Nat) : Option (Nat × Nat × Nat × (List Nat) × (List Nat) × (List Nat)) → Option (AV × List Blk)
  | some r => some ((AV.v (TV.agg [(At.sl 0 0 r.1 1), (At.sl 1 0 r.2.1 1), (At.sl 2 0 r.2.2.1 1)])), [(Blk.mk Bool.true (Body.fl FloatKind.f32 r.2.2.2.1)), (Blk.mk Bool.true (Body.fl FloatKind.f32 r.2.2.2.2.1)), (Blk.mk Bool.true (Body.fl FloatKind.f32 r.2.2.2.2.2))])
  | none => none
theorem zoy (q0d : Nat) (q0t : List Nat) (q0h : Nat) (q0x : List Nat) (q0j : Nat) (q10 : List Nat) : evFn Γ3 8 8 16 (impTs 0 [.agg [.row 1 q0d (.fl .f32 q0t), .row 1 q0h (.fl .f32 q0x), .row 1 q0j (.fl .f32 q10)]]).1 (impTs 0 [.agg [.row 1 q0d (.fl .f32 q0t), .row 1 q0h (.fl .f32 q0x), .row 1 q0j (.fl .f32 q10)]]).2 (expo (impTs 0 [.agg [.row 1 q0d (.fl .f32 q0t), .row 1 q0h (.fl .f32 q0x), .row 1 q0j (.fl .f32 q10)]]).2.length) = zck q0d q0t q0h q0x q0j q10 (fun c0_ c1_ c2_ c3_ c4_ c5_ => some ((AV.v (TV.agg [(At.sl 0 0 c0_ 1), (At.sl 1 0 c1_ 1), (At.sl 2 0 c2_ 1)])), [(Blk.mk Bool.true (Body.fl FloatKind.f32 c3_)), (Blk.mk Bool.true (Body.fl FloatKind.f32 c4_)), (Blk.mk Bool.true (Body.fl FloatKind.f32 c5_))])) := by kernel_rfl
theorem z23 : SumOne Try.prog 16 z30 := sum_of (Γ := Γ3) (fuel := 8) (d := 8) tyTab_ok (FnL.ok fnTab_ok _ _) (LpL.ok lt3_ok) (SumL.ok tb3_ok _) mixed (by
  intro pts v news hp hc
  clear hc
  unfold z30 at hp
  split at hp
  · rename_i q0d q0t q0h q0x q0j q10
    exact Eq.trans (Eq.trans (zoy q0d q0t q0h q0x q0j q10) (zmu (zkl q0d q0t q0h q0x q0j q10) rfl q0d q0t q0h q0x q0j q10 (fun c0_ c1_ c2_ c3_ c4_ c5_ => some (c0_, c1_, c2_, c3_, c4_, c5_)))) (fin_out (o := (zkl q0d q0t q0h q0x q0j q10)) (x := z70 q0d q0t q0h q0x q0j q10) (d := default) (V := fun r => ((AV.v (TV.agg [(At.sl 0 0 r.1 1), (At.sl 1 0 r.2.1 1), (At.sl 2 0 r.2.2.1 1)])), [(Blk.mk Bool.true (Body.fl FloatKind.f32 r.2.2.2.1)), (Blk.mk Bool.true (Body.fl FloatKind.f32 r.2.2.2.2.1)), (Blk.mk Bool.true (Body.fl FloatKind.f32 r.2.2.2.2.2))])) (fun r => rfl) hp)
  · cases hp)
noncomputable def z20 : List PT → Option (Bool × AV × List Blk)
  | [.agg [.row 1 q0d (.fl .f32 q0t), .row 1 q0h (.fl .f32 q0x), .row 1 q0j (.fl .f32 q10)], .one (.s (.int .i64 k))] => some ((zff q0d q0t q0h q0x q0j q10 k), ((AV.v (TV.one (At.int IntKind.i64 (z8l q0d q0t q0h q0x q0j q10 k)))), []))
  | _ => none
def zjy (q0d : Nat) (q0t : List Nat) (q0h : Nat) (q0x : List Nat) (q0j : Nat) (q10 : List Nat) (k : Int) : Option (Int) → Option (AV × List Blk)
  | some r => some ((AV.v (TV.one (At.int IntKind.i64 r))), [])
  | none => none
theorem znu (q0d : Nat) (q0t : List Nat) (q0h : Nat) (q0x : List Nat) (q0j : Nat) (q10 : List Nat) (k : Int) : evFn Γ3 8 8 36 (impTs 0 [.agg [.row 1 q0d (.fl .f32 q0t), .row 1 q0h (.fl .f32 q0x), .row 1 q0j (.fl .f32 q10)], .one (.s (.int .i64 k))]).1 (impTs 0 [.agg [.row 1 q0d (.fl .f32 q0t), .row 1 q0h (.fl .f32 q0x), .row 1 q0j (.fl .f32 q10)], .one (.s (.int .i64 k))]).2 (expo (impTs 0 [.agg [.row 1 q0d (.fl .f32 q0t), .row 1 q0h (.fl .f32 q0x), .row 1 q0j (.fl .f32 q10)], .one (.s (.int .i64 k))]).2.length) = zag q0d q0t q0h q0x q0j q10 k (fun c0_ => some ((AV.v (TV.one (At.int IntKind.i64 c0_))), [])) := by kernel_rfl
theorem z1e : SumOne Try.prog 36 z20 := sum_of (Γ := Γ3) (fuel := 8) (d := 8) tyTab_ok (FnL.ok fnTab_ok _ _) (LpL.ok lt3_ok) (SumL.ok tb3_ok _) mixed (by
  intro pts v news hp hc
  clear hc
  unfold z20 at hp
  split at hp
  · rename_i q0d q0t q0h q0x q0j q10 k
    exact Eq.trans (Eq.trans (znu q0d q0t q0h q0x q0j q10 k) (zlp (zjy q0d q0t q0h q0x q0j q10 k) rfl q0d q0t q0h q0x q0j q10 k (fun c0_ => some c0_))) (fin_out (o := (zjy q0d q0t q0h q0x q0j q10 k)) (x := zai q0d q0t q0h q0x q0j q10 k) (d := default) (V := fun r => ((AV.v (TV.one (At.int IntKind.i64 r))), [])) (fun r => rfl) hp)
  · cases hp)
noncomputable def z2g : List PT → Option (Bool × AV × List Blk)
  | [.one (.row 1 a_n (.fl .f32 a)), .one (.row 1 b_n (.fl .f32 b))] => some ((zc0 a_n a b_n b), ((AV.v (TV.one (At.bool (za8 a_n a b_n b)))), []))
  | _ => none
def zk5 (a_n : Nat) (a : List Nat) (b_n : Nat) (b : List Nat) : Option (Bool) → Option (AV × List Blk)
  | some r => some ((AV.v (TV.one (At.bool r))), [])
  | none => none
theorem zol (a_n : Nat) (a : List Nat) (b_n : Nat) (b : List Nat) : evFn Γ3 8 8 57 (impTs 0 [.one (.row 1 a_n (.fl .f32 a)), .one (.row 1 b_n (.fl .f32 b))]).1 (impTs 0 [.one (.row 1 a_n (.fl .f32 a)), .one (.row 1 b_n (.fl .f32 b))]).2 (expo (impTs 0 [.one (.row 1 a_n (.fl .f32 a)), .one (.row 1 b_n (.fl .f32 b))]).2.length) = zbz a_n a b_n b (fun c0_ => some ((AV.v (TV.one (At.bool c0_))), [])) := by kernel_rfl
theorem z1t : SumOne Try.prog 57 z2g := sum_of (Γ := Γ3) (fuel := 8) (d := 8) tyTab_ok (FnL.ok fnTab_ok _ _) (LpL.ok lt3_ok) (SumL.ok tb3_ok _) mixed (by
  intro pts v news hp hc
  clear hc
  unfold z2g at hp
  split at hp
  · rename_i a_n a b_n b
    exact Eq.trans (Eq.trans (zol a_n a b_n b) (zly (zk5 a_n a b_n b) rfl a_n a b_n b (fun c0_ => some c0_))) (fin_out (o := (zk5 a_n a b_n b)) (x := zby a_n a b_n b) (d := default) (V := fun r => ((AV.v (TV.one (At.bool r))), [])) (fun r => rfl) hp)
  · cases hp)
noncomputable def zk6 (t3 : Int) (t4 : Int) (b0 : List Nat) (b1 : List Nat) (b2 : List Nat) (q0i : Nat) (q0r : Nat) (q0q : Nat) : Bool × LO := ((z9f t3 b0 b1 b2 q0i q0r q0q t4), (LO.two (z91 t3 b0 b1 b2 q0i q0r q0q t4) (LO.one Ex.ret (St.mk [(2, (AV.v (TV.one (At.bool Bool.false))))] [(Blk.mk Bool.false (Body.fl FloatKind.f32 b0)), (Blk.mk Bool.false (Body.fl FloatKind.f32 b1)), (Blk.mk Bool.false (Body.fl FloatKind.f32 b2)), (Blk.mk Bool.false (Body.cells [(At.vw 0 0 q0i 1), (At.vw 1 0 q0r 1), (At.vw 2 0 q0q 1)]))])) (LO.one (Ex.exit 0) (St.mk [(0, (AV.v (TV.one (At.ptr 3 0 3)))), (3, (AV.v (TV.one (At.int IntKind.i64 t3)))), (4, (AV.v (TV.one (At.int IntKind.i64 (ziy t3 b0 b1 b2 q0i q0r q0q t4))))), (36, (AV.v (TV.one (At.bool (zj4 t3 b0 b1 b2 q0i q0r q0q t4)))))] [(Blk.mk Bool.false (Body.fl FloatKind.f32 b0)), (Blk.mk Bool.false (Body.fl FloatKind.f32 b1)), (Blk.mk Bool.false (Body.fl FloatKind.f32 b2)), (Blk.mk Bool.false (Body.cells [(At.vw 0 0 q0i 1), (At.vw 1 0 q0r 1), (At.vw 2 0 q0q 1)]))]))))
noncomputable def z3f : Nat → St → Option (Bool × LO) := lpT 4 (pSt [(pTm 0 (pV (pOne (pPtr 3 (liN 0) 3)))), (pTm 3 (pV (pOne (pInt IntKind.i64)))), (pTm 4 (pV (pOne (pInt IntKind.i64))))] [(pBlk Bool.false (pFl FloatKind.f32)), (pBlk Bool.false (pFl FloatKind.f32)), (pBlk Bool.false (pFl FloatKind.f32)), (pBlk Bool.false (pCells [(pVw 0 (liN 0) 1), (pVw 1 (liN 0) 1), (pVw 2 (liN 0) 1)]))]) (fun hs => zk6 (hvI (hGet hs 0)) (hvI (hGet hs 1)) (hvLn (hGet hs 2)) (hvLn (hGet hs 3)) (hvLn (hGet hs 4)) (hvN (hGet hs 5)) (hvN (hGet hs 6)) (hvN (hGet hs 7)))
def zfc (t3 : Int) (b0 : List Nat) (b1 : List Nat) (b2 : List Nat) (q0i : Nat) (q0r : Nat) (q0q : Nat) : Option ((Unit) ⊕ (Int × Bool)) → Option (Ex × St)
  | none => none
  | some (Sum.inl r) => some (Ex.ret, (St.mk [(2, (AV.v (TV.one (At.bool Bool.false))))] [(Blk.mk Bool.false (Body.fl FloatKind.f32 b0)), (Blk.mk Bool.false (Body.fl FloatKind.f32 b1)), (Blk.mk Bool.false (Body.fl FloatKind.f32 b2)), (Blk.mk Bool.false (Body.cells [(At.vw 0 0 q0i 1), (At.vw 1 0 q0r 1), (At.vw 2 0 q0q 1)]))]))
  | some (Sum.inr r) => some ((Ex.exit 0), (St.mk [(0, (AV.v (TV.one (At.ptr 3 0 3)))), (3, (AV.v (TV.one (At.int IntKind.i64 t3)))), (4, (AV.v (TV.one (At.int IntKind.i64 r.1)))), (36, (AV.v (TV.one (At.bool r.2))))] [(Blk.mk Bool.false (Body.fl FloatKind.f32 b0)), (Blk.mk Bool.false (Body.fl FloatKind.f32 b1)), (Blk.mk Bool.false (Body.fl FloatKind.f32 b2)), (Blk.mk Bool.false (Body.cells [(At.vw 0 0 q0i 1), (At.vw 1 0 q0r 1), (At.vw 2 0 q0q 1)]))]))
def zos (t3 : Int) (b0 : List Nat) (b1 : List Nat) (b2 : List Nat) (q0i : Nat) (q0r : Nat) (q0q : Nat) (x : Option ((Unit) ⊕ (Int × Bool))) : LO := (LO.two (oL x) (LO.one Ex.ret (St.mk [(2, (AV.v (TV.one (At.bool Bool.false))))] [(Blk.mk Bool.false (Body.fl FloatKind.f32 b0)), (Blk.mk Bool.false (Body.fl FloatKind.f32 b1)), (Blk.mk Bool.false (Body.fl FloatKind.f32 b2)), (Blk.mk Bool.false (Body.cells [(At.vw 0 0 q0i 1), (At.vw 1 0 q0r 1), (At.vw 2 0 q0q 1)]))])) (LO.one (Ex.exit 0) (St.mk [(0, (AV.v (TV.one (At.ptr 3 0 3)))), (3, (AV.v (TV.one (At.int IntKind.i64 t3)))), (4, (AV.v (TV.one (At.int IntKind.i64 ((tR x).getD default).1)))), (36, (AV.v (TV.one (At.bool ((tR x).getD default).2))))] [(Blk.mk Bool.false (Body.fl FloatKind.f32 b0)), (Blk.mk Bool.false (Body.fl FloatKind.f32 b1)), (Blk.mk Bool.false (Body.fl FloatKind.f32 b2)), (Blk.mk Bool.false (Body.cells [(At.vw 0 0 q0i 1), (At.vw 1 0 q0r 1), (At.vw 2 0 q0q 1)]))])))
theorem zpd (t3 : Int) (b0 : List Nat) (b1 : List Nat) (b2 : List Nat) (q0i : Nat) (q0r : Nat) (q0q : Nat) : ∀ x : Option ((Unit) ⊕ (Int × Bool)), x.isSome = true → (zfc t3 b0 b1 b2 q0i q0r q0q) x = some (pick (zos t3 b0 b1 b2 q0i q0r q0q x))
  | none, h => by cases h
  | some (Sum.inl r), _ => rfl
  | some (Sum.inr r), _ => rfl
theorem zpc (t3 : Int) (t4 : Int) (b0 : List Nat) (b1 : List Nat) (b2 : List Nat) (q0i : Nat) (q0r : Nat) (q0q : Nat) (K : Ex → St → Option (Ex × St)) : evC (R := Ex × St) Γ3 (evFn Γ3 8 8) 62 4 fi62.nt fi62.live fi62.nl 8 (findL 5 (loopsIn fi62.code)) (St.mk [(0, (AV.v (TV.one (At.ptr 3 0 3)))), (3, (AV.v (TV.one (At.int IntKind.i64 t3)))), (4, (AV.v (TV.one (At.int IntKind.i64 t4))))] [(Blk.mk Bool.false (Body.fl FloatKind.f32 b0)), (Blk.mk Bool.false (Body.fl FloatKind.f32 b1)), (Blk.mk Bool.false (Body.fl FloatKind.f32 b2)), (Blk.mk Bool.false (Body.cells [(At.vw 0 0 q0i 1), (At.vw 1 0 q0r 1), (At.vw 2 0 q0q 1)]))]) K = z8m t3 b0 b1 b2 q0i q0r q0q t4 (fun t4' => K .normal (St.mk [(0, (AV.v (TV.one (At.ptr 3 0 3)))), (3, (AV.v (TV.one (At.int IntKind.i64 t3)))), (4, (AV.v (TV.one (At.int IntKind.i64 t4'))))] [(Blk.mk Bool.false (Body.fl FloatKind.f32 b0)), (Blk.mk Bool.false (Body.fl FloatKind.f32 b1)), (Blk.mk Bool.false (Body.fl FloatKind.f32 b2)), (Blk.mk Bool.false (Body.cells [(At.vw 0 0 q0i 1), (At.vw 1 0 q0r 1), (At.vw 2 0 q0q 1)]))])) (fun _ => K Ex.ret (St.mk [(2, (AV.v (TV.one (At.bool Bool.false))))] [(Blk.mk Bool.false (Body.fl FloatKind.f32 b0)), (Blk.mk Bool.false (Body.fl FloatKind.f32 b1)), (Blk.mk Bool.false (Body.fl FloatKind.f32 b2)), (Blk.mk Bool.false (Body.cells [(At.vw 0 0 q0i 1), (At.vw 1 0 q0r 1), (At.vw 2 0 q0q 1)]))])) (fun c0_ c1_ => K (Ex.exit 0) (St.mk [(0, (AV.v (TV.one (At.ptr 3 0 3)))), (3, (AV.v (TV.one (At.int IntKind.i64 t3)))), (4, (AV.v (TV.one (At.int IntKind.i64 c0_)))), (36, (AV.v (TV.one (At.bool c1_))))] [(Blk.mk Bool.false (Body.fl FloatKind.f32 b0)), (Blk.mk Bool.false (Body.fl FloatKind.f32 b1)), (Blk.mk Bool.false (Body.fl FloatKind.f32 b2)), (Blk.mk Bool.false (Body.cells [(At.vw 0 0 q0i 1), (At.vw 1 0 q0r 1), (At.vw 2 0 q0q 1)]))])) := by kernel_rfl
theorem zp8 (t3 : Int) (b0 : List Nat) (b1 : List Nat) (b2 : List Nat) (q0i : Nat) (q0r : Nat) (q0q : Nat) : ∀ (n : Nat) (t4 : Int), iter 62 5 4 (evC (R := Ex × St) Γ3 (evFn Γ3 8 8) 62 4 fi62.nt fi62.live fi62.nl 8 (findL 5 (loopsIn fi62.code))) n (St.mk [(0, (AV.v (TV.one (At.ptr 3 0 3)))), (3, (AV.v (TV.one (At.int IntKind.i64 t3)))), (4, (AV.v (TV.one (At.int IntKind.i64 t4))))] [(Blk.mk Bool.false (Body.fl FloatKind.f32 b0)), (Blk.mk Bool.false (Body.fl FloatKind.f32 b1)), (Blk.mk Bool.false (Body.fl FloatKind.f32 b2)), (Blk.mk Bool.false (Body.cells [(At.vw 0 0 q0i 1), (At.vw 1 0 q0r 1), (At.vw 2 0 q0q 1)]))]) (fun e st => some (e, st)) = (zfc t3 b0 b1 b2 q0i q0r q0q) (z6a t3 b0 b1 b2 q0i q0r q0q n t4) := by
  intro n
  induction n with
  | zero => intros; rfl
  | succ n ih =>
    intro t4
    refine Eq.trans (iter_succ ..) (Eq.trans (zpc t3 t4 b0 b1 b2 q0i q0r q0q (nextK 62 5 4 (evC (R := Ex × St) Γ3 (evFn Γ3 8 8) 62 4 fi62.nt fi62.live fi62.nl 8 (findL 5 (loopsIn fi62.code))) n (fun e st => some (e, st)))) (Eq.trans ?_ (znh (zfc t3 b0 b1 b2 q0i q0r q0q) rfl t3 b0 b1 b2 q0i q0r q0q t4 (fun t4' => z6a t3 b0 b1 b2 q0i q0r q0q n t4') (fun _ => some (Sum.inl ())) (fun c0_ c1_ => some (Sum.inr (c0_, c1_))))))
    exact congrArg (fun kn_ => z8m t3 b0 b1 b2 q0i q0r q0q t4 kn_ (fun _ => (zfc t3 b0 b1 b2 q0i q0r q0q) (some (Sum.inl ()))) (fun c0_ c1_ => (zfc t3 b0 b1 b2 q0i q0r q0q) (some (Sum.inr (c0_, c1_))))) (funext fun t4' => ih t4')
theorem z2h : LoopOne Try.prog fnTab 62 5 z3f := lp_of (Γ := Γ3) tyTab_ok (FnL.ok fnTab_ok _ _) (LpL.ok lt3_ok) (SumL.ok tb3_ok _) mixed (fi := fi62) (by kernel_rfl) (by kernel_rfl) (by
  intro lo st out hp
  obtain ⟨hs, e1, e2, e3⟩ := lpT_inv hp
  clear hp
  obtain rfl : st = (St.mk [(0, (AV.v (TV.one (At.ptr 3 0 3)))), (3, (AV.v (TV.one (At.int IntKind.i64 (hvI (hGet hs 0)))))), (4, (AV.v (TV.one (At.int IntKind.i64 (hvI (hGet hs 1))))))] [(Blk.mk Bool.false (Body.fl FloatKind.f32 (hvLn (hGet hs 2)))), (Blk.mk Bool.false (Body.fl FloatKind.f32 (hvLn (hGet hs 3)))), (Blk.mk Bool.false (Body.fl FloatKind.f32 (hvLn (hGet hs 4)))), (Blk.mk Bool.false (Body.cells [(At.vw 0 0 (hvN (hGet hs 5)) 1), (At.vw 1 0 (hvN (hGet hs 6)) 1), (At.vw 2 0 (hvN (hGet hs 7)) 1)]))]) := e2.trans (by kernel_rfl)
  clear e2
  subst e1
  unfold zk6 at e3
  injection e3 with h1 h2
  subst h2
  exact ⟨8, 8, big, Eq.trans (zp8 (hvI (hGet hs 0)) (hvLn (hGet hs 2)) (hvLn (hGet hs 3)) (hvLn (hGet hs 4)) (hvN (hGet hs 5)) (hvN (hGet hs 6)) (hvN (hGet hs 7)) big (hvI (hGet hs 1))) (zpd (hvI (hGet hs 0)) (hvLn (hGet hs 2)) (hvLn (hGet hs 3)) (hvLn (hGet hs 4)) (hvN (hGet hs 5)) (hvN (hGet hs 6)) (hvN (hGet hs 7)) (z6a (hvI (hGet hs 0)) (hvLn (hGet hs 2)) (hvLn (hGet hs 3)) (hvLn (hGet hs 4)) (hvN (hGet hs 5)) (hvN (hGet hs 6)) (hvN (hGet hs 7)) big (hvI (hGet hs 1))) h1)⟩)
noncomputable def zjf (an : Nat) (bn : Nat) (i : Int) (b0 : List Nat) (b1 : List Nat) : Bool × LO := ((zbh an bn b0 b1 i), (LO.two (za6 an bn b0 b1 i) (LO.one Ex.ret (St.mk [(4, (AV.v (TV.one (At.bool Bool.false))))] [(Blk.mk Bool.false (Body.fl FloatKind.f32 b0)), (Blk.mk Bool.false (Body.fl FloatKind.f32 b1))])) (LO.one (Ex.exit 0) (St.mk [(0, (AV.v (TV.one (At.vw 0 0 an 3)))), (1, (AV.v (TV.one (At.vw 1 0 bn 3)))), (5, (AV.v (TV.one (At.int IntKind.i64 (zem an bn b0 b1 i))))), (14, (AV.v (TV.one (At.bool (zel an bn b0 b1 i)))))] [(Blk.mk Bool.false (Body.fl FloatKind.f32 b0)), (Blk.mk Bool.false (Body.fl FloatKind.f32 b1))]))))
noncomputable def z1k : Nat → St → Option (Bool × LO) := lpT 2 (pSt [(pTm 0 (pV (pOne (pVw 0 (liN 0) 3)))), (pTm 1 (pV (pOne (pVw 1 (liN 0) 3)))), (pTm 5 (pV (pOne (pInt IntKind.i64))))] [(pBlk Bool.false (pFl FloatKind.f32)), (pBlk Bool.false (pFl FloatKind.f32))]) (fun hs => zjf (hvN (hGet hs 0)) (hvN (hGet hs 1)) (hvI (hGet hs 2)) (hvLn (hGet hs 3)) (hvLn (hGet hs 4)))
def zbk (an : Nat) (bn : Nat) (b0 : List Nat) (b1 : List Nat) : Option ((Unit) ⊕ (Int × Bool)) → Option (Ex × St)
  | none => none
  | some (Sum.inl r) => some (Ex.ret, (St.mk [(4, (AV.v (TV.one (At.bool Bool.false))))] [(Blk.mk Bool.false (Body.fl FloatKind.f32 b0)), (Blk.mk Bool.false (Body.fl FloatKind.f32 b1))]))
  | some (Sum.inr r) => some ((Ex.exit 0), (St.mk [(0, (AV.v (TV.one (At.vw 0 0 an 3)))), (1, (AV.v (TV.one (At.vw 1 0 bn 3)))), (5, (AV.v (TV.one (At.int IntKind.i64 r.1)))), (14, (AV.v (TV.one (At.bool r.2))))] [(Blk.mk Bool.false (Body.fl FloatKind.f32 b0)), (Blk.mk Bool.false (Body.fl FloatKind.f32 b1))]))
def zm8 (an : Nat) (bn : Nat) (b0 : List Nat) (b1 : List Nat) (x : Option ((Unit) ⊕ (Int × Bool))) : LO := (LO.two (oL x) (LO.one Ex.ret (St.mk [(4, (AV.v (TV.one (At.bool Bool.false))))] [(Blk.mk Bool.false (Body.fl FloatKind.f32 b0)), (Blk.mk Bool.false (Body.fl FloatKind.f32 b1))])) (LO.one (Ex.exit 0) (St.mk [(0, (AV.v (TV.one (At.vw 0 0 an 3)))), (1, (AV.v (TV.one (At.vw 1 0 bn 3)))), (5, (AV.v (TV.one (At.int IntKind.i64 ((tR x).getD default).1)))), (14, (AV.v (TV.one (At.bool ((tR x).getD default).2))))] [(Blk.mk Bool.false (Body.fl FloatKind.f32 b0)), (Blk.mk Bool.false (Body.fl FloatKind.f32 b1))])))
theorem zmn (an : Nat) (bn : Nat) (b0 : List Nat) (b1 : List Nat) : ∀ x : Option ((Unit) ⊕ (Int × Bool)), x.isSome = true → (zbk an bn b0 b1) x = some (pick (zm8 an bn b0 b1 x))
  | none, h => by cases h
  | some (Sum.inl r), _ => rfl
  | some (Sum.inr r), _ => rfl
theorem zmx (an : Nat) (bn : Nat) (i : Int) (b0 : List Nat) (b1 : List Nat) (K : Ex → St → Option (Ex × St)) : evC (R := Ex × St) Γ3 (evFn Γ3 8 8) 69 2 fi69.nt fi69.live fi69.nl 8 (findL 4 (loopsIn fi69.code)) (St.mk [(0, (AV.v (TV.one (At.vw 0 0 an 3)))), (1, (AV.v (TV.one (At.vw 1 0 bn 3)))), (5, (AV.v (TV.one (At.int IntKind.i64 i))))] [(Blk.mk Bool.false (Body.fl FloatKind.f32 b0)), (Blk.mk Bool.false (Body.fl FloatKind.f32 b1))]) K = z6r an bn b0 b1 i (fun i' => K .normal (St.mk [(0, (AV.v (TV.one (At.vw 0 0 an 3)))), (1, (AV.v (TV.one (At.vw 1 0 bn 3)))), (5, (AV.v (TV.one (At.int IntKind.i64 i'))))] [(Blk.mk Bool.false (Body.fl FloatKind.f32 b0)), (Blk.mk Bool.false (Body.fl FloatKind.f32 b1))])) (fun _ => K Ex.ret (St.mk [(4, (AV.v (TV.one (At.bool Bool.false))))] [(Blk.mk Bool.false (Body.fl FloatKind.f32 b0)), (Blk.mk Bool.false (Body.fl FloatKind.f32 b1))])) (fun c0_ c1_ => K (Ex.exit 0) (St.mk [(0, (AV.v (TV.one (At.vw 0 0 an 3)))), (1, (AV.v (TV.one (At.vw 1 0 bn 3)))), (5, (AV.v (TV.one (At.int IntKind.i64 c0_)))), (14, (AV.v (TV.one (At.bool c1_))))] [(Blk.mk Bool.false (Body.fl FloatKind.f32 b0)), (Blk.mk Bool.false (Body.fl FloatKind.f32 b1))])) := by kernel_rfl
theorem zmi (an : Nat) (bn : Nat) (b0 : List Nat) (b1 : List Nat) : ∀ (n : Nat) (i : Int), iter 69 4 2 (evC (R := Ex × St) Γ3 (evFn Γ3 8 8) 69 2 fi69.nt fi69.live fi69.nl 8 (findL 4 (loopsIn fi69.code))) n (St.mk [(0, (AV.v (TV.one (At.vw 0 0 an 3)))), (1, (AV.v (TV.one (At.vw 1 0 bn 3)))), (5, (AV.v (TV.one (At.int IntKind.i64 i))))] [(Blk.mk Bool.false (Body.fl FloatKind.f32 b0)), (Blk.mk Bool.false (Body.fl FloatKind.f32 b1))]) (fun e st => some (e, st)) = (zbk an bn b0 b1) (z5f an bn b0 b1 n i) := by
  intro n
  induction n with
  | zero => intros; rfl
  | succ n ih =>
    intro i
    refine Eq.trans (iter_succ ..) (Eq.trans (zmx an bn i b0 b1 (nextK 69 4 2 (evC (R := Ex × St) Γ3 (evFn Γ3 8 8) 69 2 fi69.nt fi69.live fi69.nl 8 (findL 4 (loopsIn fi69.code))) n (fun e st => some (e, st)))) (Eq.trans ?_ (zko (zbk an bn b0 b1) rfl an bn b0 b1 i (fun i' => z5f an bn b0 b1 n i') (fun _ => some (Sum.inl ())) (fun c0_ c1_ => some (Sum.inr (c0_, c1_))))))
    exact congrArg (fun kn_ => z6r an bn b0 b1 i kn_ (fun _ => (zbk an bn b0 b1) (some (Sum.inl ()))) (fun c0_ c1_ => (zbk an bn b0 b1) (some (Sum.inr (c0_, c1_))))) (funext fun i' => ih i')
theorem z10 : LoopOne Try.prog fnTab 69 4 z1k := lp_of (Γ := Γ3) tyTab_ok (FnL.ok fnTab_ok _ _) (LpL.ok lt3_ok) (SumL.ok tb3_ok _) mixed (fi := fi69) (by kernel_rfl) (by kernel_rfl) (by
  intro lo st out hp
  obtain ⟨hs, e1, e2, e3⟩ := lpT_inv hp
  clear hp
  obtain rfl : st = (St.mk [(0, (AV.v (TV.one (At.vw 0 0 (hvN (hGet hs 0)) 3)))), (1, (AV.v (TV.one (At.vw 1 0 (hvN (hGet hs 1)) 3)))), (5, (AV.v (TV.one (At.int IntKind.i64 (hvI (hGet hs 2))))))] [(Blk.mk Bool.false (Body.fl FloatKind.f32 (hvLn (hGet hs 3)))), (Blk.mk Bool.false (Body.fl FloatKind.f32 (hvLn (hGet hs 4))))]) := e2.trans (by kernel_rfl)
  clear e2
  subst e1
  unfold zjf at e3
  injection e3 with h1 h2
  subst h2
  exact ⟨8, 8, big, Eq.trans (zmi (hvN (hGet hs 0)) (hvN (hGet hs 1)) (hvLn (hGet hs 3)) (hvLn (hGet hs 4)) big (hvI (hGet hs 2))) (zmn (hvN (hGet hs 0)) (hvN (hGet hs 1)) (hvLn (hGet hs 3)) (hvLn (hGet hs 4)) (z5f (hvN (hGet hs 0)) (hvN (hGet hs 1)) (hvLn (hGet hs 3)) (hvLn (hGet hs 4)) big (hvI (hGet hs 2))) h1)⟩)
noncomputable def z9x (sn : Nat) (t7 : Int) (t8 : Int) (b0 : List Nat) : Bool × LO := ((z4s sn t7 b0 t8), (LO.two (z4r sn t7 b0 t8) (LO.one Ex.ret (St.mk [(4, (AV.v (TV.one (At.int IntKind.i64 (z5o sn t7 b0 t8)))))] [(Blk.mk Bool.false (Body.fl FloatKind.f32 b0))])) (LO.one (Ex.exit 0) (St.mk [(0, (AV.v (TV.one (At.vw 0 0 sn 1)))), (1, (AV.v (TV.one (At.fn 118 [])))), (7, (AV.v (TV.one (At.int IntKind.i64 t7)))), (8, (AV.v (TV.one (At.int IntKind.i64 (z7m sn t7 b0 t8))))), (9, (AV.v (TV.one (At.bool (z7i sn t7 b0 t8)))))] [(Blk.mk Bool.false (Body.fl FloatKind.f32 b0))]))))
noncomputable def z03 : Nat → St → Option (Bool × LO) := lpT 1 (pSt [(pTm 0 (pV (pOne (pVw 0 (liN 0) 1)))), (pTm 1 (pV (pOne (pFn 118 [])))), (pTm 7 (pV (pOne (pInt IntKind.i64)))), (pTm 8 (pV (pOne (pInt IntKind.i64))))] [(pBlk Bool.false (pFl FloatKind.f32))]) (fun hs => z9x (hvN (hGet hs 0)) (hvI (hGet hs 1)) (hvI (hGet hs 2)) (hvLn (hGet hs 3)))
def z5h (sn : Nat) (t7 : Int) (b0 : List Nat) : Option ((Int) ⊕ (Int × Bool)) → Option (Ex × St)
  | none => none
  | some (Sum.inl r) => some (Ex.ret, (St.mk [(4, (AV.v (TV.one (At.int IntKind.i64 r))))] [(Blk.mk Bool.false (Body.fl FloatKind.f32 b0))]))
  | some (Sum.inr r) => some ((Ex.exit 0), (St.mk [(0, (AV.v (TV.one (At.vw 0 0 sn 1)))), (1, (AV.v (TV.one (At.fn 118 [])))), (7, (AV.v (TV.one (At.int IntKind.i64 t7)))), (8, (AV.v (TV.one (At.int IntKind.i64 r.1)))), (9, (AV.v (TV.one (At.bool r.2))))] [(Blk.mk Bool.false (Body.fl FloatKind.f32 b0))]))
def zfz (sn : Nat) (t7 : Int) (b0 : List Nat) (x : Option ((Int) ⊕ (Int × Bool))) : LO := (LO.two (oL x) (LO.one Ex.ret (St.mk [(4, (AV.v (TV.one (At.int IntKind.i64 ((tL x).getD default)))))] [(Blk.mk Bool.false (Body.fl FloatKind.f32 b0))])) (LO.one (Ex.exit 0) (St.mk [(0, (AV.v (TV.one (At.vw 0 0 sn 1)))), (1, (AV.v (TV.one (At.fn 118 [])))), (7, (AV.v (TV.one (At.int IntKind.i64 t7)))), (8, (AV.v (TV.one (At.int IntKind.i64 ((tR x).getD default).1)))), (9, (AV.v (TV.one (At.bool ((tR x).getD default).2))))] [(Blk.mk Bool.false (Body.fl FloatKind.f32 b0))])))
theorem zh4 (sn : Nat) (t7 : Int) (b0 : List Nat) : ∀ x : Option ((Int) ⊕ (Int × Bool)), x.isSome = true → (z5h sn t7 b0) x = some (pick (zfz sn t7 b0 x))
  | none, h => by cases h
  | some (Sum.inl r), _ => rfl
  | some (Sum.inr r), _ => rfl
theorem zh8 (sn : Nat) (t7 : Int) (t8 : Int) (b0 : List Nat) (K : Ex → St → Option (Ex × St)) : evC (R := Ex × St) Γ3 (evFn Γ3 8 8) 99 1 fi99.nt fi99.live fi99.nl 8 (findL 2 (loopsIn fi99.code)) (St.mk [(0, (AV.v (TV.one (At.vw 0 0 sn 1)))), (1, (AV.v (TV.one (At.fn 118 [])))), (7, (AV.v (TV.one (At.int IntKind.i64 t7)))), (8, (AV.v (TV.one (At.int IntKind.i64 t8))))] [(Blk.mk Bool.false (Body.fl FloatKind.f32 b0))]) K = z3z sn t7 b0 t8 (fun t8' => K .normal (St.mk [(0, (AV.v (TV.one (At.vw 0 0 sn 1)))), (1, (AV.v (TV.one (At.fn 118 [])))), (7, (AV.v (TV.one (At.int IntKind.i64 t7)))), (8, (AV.v (TV.one (At.int IntKind.i64 t8'))))] [(Blk.mk Bool.false (Body.fl FloatKind.f32 b0))])) (fun c0_ => K Ex.ret (St.mk [(4, (AV.v (TV.one (At.int IntKind.i64 c0_))))] [(Blk.mk Bool.false (Body.fl FloatKind.f32 b0))])) (fun c0_ c1_ => K (Ex.exit 0) (St.mk [(0, (AV.v (TV.one (At.vw 0 0 sn 1)))), (1, (AV.v (TV.one (At.fn 118 [])))), (7, (AV.v (TV.one (At.int IntKind.i64 t7)))), (8, (AV.v (TV.one (At.int IntKind.i64 c0_)))), (9, (AV.v (TV.one (At.bool c1_))))] [(Blk.mk Bool.false (Body.fl FloatKind.f32 b0))])) := by kernel_rfl
theorem zhj (sn : Nat) (t7 : Int) (b0 : List Nat) : ∀ (n : Nat) (t8 : Int), iter 99 2 1 (evC (R := Ex × St) Γ3 (evFn Γ3 8 8) 99 1 fi99.nt fi99.live fi99.nl 8 (findL 2 (loopsIn fi99.code))) n (St.mk [(0, (AV.v (TV.one (At.vw 0 0 sn 1)))), (1, (AV.v (TV.one (At.fn 118 [])))), (7, (AV.v (TV.one (At.int IntKind.i64 t7)))), (8, (AV.v (TV.one (At.int IntKind.i64 t8))))] [(Blk.mk Bool.false (Body.fl FloatKind.f32 b0))]) (fun e st => some (e, st)) = (z5h sn t7 b0) (z1z sn t7 b0 n t8) := by
  intro n
  induction n with
  | zero => intros; rfl
  | succ n ih =>
    intro t8
    refine Eq.trans (iter_succ ..) (Eq.trans (zh8 sn t7 t8 b0 (nextK 99 2 1 (evC (R := Ex × St) Γ3 (evFn Γ3 8 8) 99 1 fi99.nt fi99.live fi99.nl 8 (findL 2 (loopsIn fi99.code))) n (fun e st => some (e, st)))) (Eq.trans ?_ (zed (z5h sn t7 b0) rfl sn t7 b0 t8 (fun t8' => z1z sn t7 b0 n t8') (fun c0_ => some (Sum.inl c0_)) (fun c0_ c1_ => some (Sum.inr (c0_, c1_))))))
    exact congrArg (fun kn_ => z3z sn t7 b0 t8 kn_ (fun c0_ => (z5h sn t7 b0) (some (Sum.inl c0_))) (fun c0_ c1_ => (z5h sn t7 b0) (some (Sum.inr (c0_, c1_))))) (funext fun t8' => ih t8')
theorem z02 : LoopOne Try.prog fnTab 99 2 z03 := lp_of (Γ := Γ3) tyTab_ok (FnL.ok fnTab_ok _ _) (LpL.ok lt3_ok) (SumL.ok tb3_ok _) mixed (fi := fi99) (by kernel_rfl) (by kernel_rfl) (by
  intro lo st out hp
  obtain ⟨hs, e1, e2, e3⟩ := lpT_inv hp
  clear hp
  obtain rfl : st = (St.mk [(0, (AV.v (TV.one (At.vw 0 0 (hvN (hGet hs 0)) 1)))), (1, (AV.v (TV.one (At.fn 118 [])))), (7, (AV.v (TV.one (At.int IntKind.i64 (hvI (hGet hs 1)))))), (8, (AV.v (TV.one (At.int IntKind.i64 (hvI (hGet hs 2))))))] [(Blk.mk Bool.false (Body.fl FloatKind.f32 (hvLn (hGet hs 3))))]) := e2.trans (by kernel_rfl)
  clear e2
  subst e1
  unfold z9x at e3
  injection e3 with h1 h2
  subst h2
  exact ⟨8, 8, big, Eq.trans (zhj (hvN (hGet hs 0)) (hvI (hGet hs 1)) (hvLn (hGet hs 3)) big (hvI (hGet hs 2))) (zh4 (hvN (hGet hs 0)) (hvI (hGet hs 1)) (hvLn (hGet hs 3)) (z1z (hvN (hGet hs 0)) (hvI (hGet hs 1)) (hvLn (hGet hs 3)) big (hvI (hGet hs 2))) h1)⟩)
noncomputable def z99 (sn : Nat) (t7 : Int) (t8 : Int) (b0 : List Nat) : Bool × LO := ((z4p sn t7 b0 t8), (LO.two (z4l sn t7 b0 t8) (LO.one Ex.ret (St.mk [(4, (AV.v (TV.one (At.int IntKind.i64 (z5k sn t7 b0 t8)))))] [(Blk.mk Bool.false (Body.fl FloatKind.f32 b0))])) (LO.one (Ex.exit 0) (St.mk [(0, (AV.v (TV.one (At.vw 0 0 sn 1)))), (1, (AV.v (TV.one (At.fn 122 [])))), (7, (AV.v (TV.one (At.int IntKind.i64 t7)))), (8, (AV.v (TV.one (At.int IntKind.i64 (z75 sn t7 b0 t8))))), (9, (AV.v (TV.one (At.bool (z76 sn t7 b0 t8)))))] [(Blk.mk Bool.false (Body.fl FloatKind.f32 b0))]))))
noncomputable def z01 : Nat → St → Option (Bool × LO) := lpT 1 (pSt [(pTm 0 (pV (pOne (pVw 0 (liN 0) 1)))), (pTm 1 (pV (pOne (pFn 122 [])))), (pTm 7 (pV (pOne (pInt IntKind.i64)))), (pTm 8 (pV (pOne (pInt IntKind.i64))))] [(pBlk Bool.false (pFl FloatKind.f32))]) (fun hs => z99 (hvN (hGet hs 0)) (hvI (hGet hs 1)) (hvI (hGet hs 2)) (hvLn (hGet hs 3)))
def z5d (sn : Nat) (t7 : Int) (b0 : List Nat) : Option ((Int) ⊕ (Int × Bool)) → Option (Ex × St)
  | none => none
  | some (Sum.inl r) => some (Ex.ret, (St.mk [(4, (AV.v (TV.one (At.int IntKind.i64 r))))] [(Blk.mk Bool.false (Body.fl FloatKind.f32 b0))]))
  | some (Sum.inr r) => some ((Ex.exit 0), (St.mk [(0, (AV.v (TV.one (At.vw 0 0 sn 1)))), (1, (AV.v (TV.one (At.fn 122 [])))), (7, (AV.v (TV.one (At.int IntKind.i64 t7)))), (8, (AV.v (TV.one (At.int IntKind.i64 r.1)))), (9, (AV.v (TV.one (At.bool r.2))))] [(Blk.mk Bool.false (Body.fl FloatKind.f32 b0))]))
def zf0 (sn : Nat) (t7 : Int) (b0 : List Nat) (x : Option ((Int) ⊕ (Int × Bool))) : LO := (LO.two (oL x) (LO.one Ex.ret (St.mk [(4, (AV.v (TV.one (At.int IntKind.i64 ((tL x).getD default)))))] [(Blk.mk Bool.false (Body.fl FloatKind.f32 b0))])) (LO.one (Ex.exit 0) (St.mk [(0, (AV.v (TV.one (At.vw 0 0 sn 1)))), (1, (AV.v (TV.one (At.fn 122 [])))), (7, (AV.v (TV.one (At.int IntKind.i64 t7)))), (8, (AV.v (TV.one (At.int IntKind.i64 ((tR x).getD default).1)))), (9, (AV.v (TV.one (At.bool ((tR x).getD default).2))))] [(Blk.mk Bool.false (Body.fl FloatKind.f32 b0))])))
theorem zfn (sn : Nat) (t7 : Int) (b0 : List Nat) : ∀ x : Option ((Int) ⊕ (Int × Bool)), x.isSome = true → (z5d sn t7 b0) x = some (pick (zf0 sn t7 b0 x))
  | none, h => by cases h
  | some (Sum.inl r), _ => rfl
  | some (Sum.inr r), _ => rfl
theorem zfm (sn : Nat) (t7 : Int) (t8 : Int) (b0 : List Nat) (K : Ex → St → Option (Ex × St)) : evC (R := Ex × St) Γ3 (evFn Γ3 8 8) 99 1 fi99.nt fi99.live fi99.nl 8 (findL 2 (loopsIn fi99.code)) (St.mk [(0, (AV.v (TV.one (At.vw 0 0 sn 1)))), (1, (AV.v (TV.one (At.fn 122 [])))), (7, (AV.v (TV.one (At.int IntKind.i64 t7)))), (8, (AV.v (TV.one (At.int IntKind.i64 t8))))] [(Blk.mk Bool.false (Body.fl FloatKind.f32 b0))]) K = z3t sn t7 b0 t8 (fun t8' => K .normal (St.mk [(0, (AV.v (TV.one (At.vw 0 0 sn 1)))), (1, (AV.v (TV.one (At.fn 122 [])))), (7, (AV.v (TV.one (At.int IntKind.i64 t7)))), (8, (AV.v (TV.one (At.int IntKind.i64 t8'))))] [(Blk.mk Bool.false (Body.fl FloatKind.f32 b0))])) (fun c0_ => K Ex.ret (St.mk [(4, (AV.v (TV.one (At.int IntKind.i64 c0_))))] [(Blk.mk Bool.false (Body.fl FloatKind.f32 b0))])) (fun c0_ c1_ => K (Ex.exit 0) (St.mk [(0, (AV.v (TV.one (At.vw 0 0 sn 1)))), (1, (AV.v (TV.one (At.fn 122 [])))), (7, (AV.v (TV.one (At.int IntKind.i64 t7)))), (8, (AV.v (TV.one (At.int IntKind.i64 c0_)))), (9, (AV.v (TV.one (At.bool c1_))))] [(Blk.mk Bool.false (Body.fl FloatKind.f32 b0))])) := by kernel_rfl
theorem zfw (sn : Nat) (t7 : Int) (b0 : List Nat) : ∀ (n : Nat) (t8 : Int), iter 99 2 1 (evC (R := Ex × St) Γ3 (evFn Γ3 8 8) 99 1 fi99.nt fi99.live fi99.nl 8 (findL 2 (loopsIn fi99.code))) n (St.mk [(0, (AV.v (TV.one (At.vw 0 0 sn 1)))), (1, (AV.v (TV.one (At.fn 122 [])))), (7, (AV.v (TV.one (At.int IntKind.i64 t7)))), (8, (AV.v (TV.one (At.int IntKind.i64 t8))))] [(Blk.mk Bool.false (Body.fl FloatKind.f32 b0))]) (fun e st => some (e, st)) = (z5d sn t7 b0) (z1u sn t7 b0 n t8) := by
  intro n
  induction n with
  | zero => intros; rfl
  | succ n ih =>
    intro t8
    refine Eq.trans (iter_succ ..) (Eq.trans (zfm sn t7 t8 b0 (nextK 99 2 1 (evC (R := Ex × St) Γ3 (evFn Γ3 8 8) 99 1 fi99.nt fi99.live fi99.nl 8 (findL 2 (loopsIn fi99.code))) n (fun e st => some (e, st)))) (Eq.trans ?_ (zdr (z5d sn t7 b0) rfl sn t7 b0 t8 (fun t8' => z1u sn t7 b0 n t8') (fun c0_ => some (Sum.inl c0_)) (fun c0_ c1_ => some (Sum.inr (c0_, c1_))))))
    exact congrArg (fun kn_ => z3t sn t7 b0 t8 kn_ (fun c0_ => (z5d sn t7 b0) (some (Sum.inl c0_))) (fun c0_ c1_ => (z5d sn t7 b0) (some (Sum.inr (c0_, c1_))))) (funext fun t8' => ih t8')
theorem z00 : LoopOne Try.prog fnTab 99 2 z01 := lp_of (Γ := Γ3) tyTab_ok (FnL.ok fnTab_ok _ _) (LpL.ok lt3_ok) (SumL.ok tb3_ok _) mixed (fi := fi99) (by kernel_rfl) (by kernel_rfl) (by
  intro lo st out hp
  obtain ⟨hs, e1, e2, e3⟩ := lpT_inv hp
  clear hp
  obtain rfl : st = (St.mk [(0, (AV.v (TV.one (At.vw 0 0 (hvN (hGet hs 0)) 1)))), (1, (AV.v (TV.one (At.fn 122 [])))), (7, (AV.v (TV.one (At.int IntKind.i64 (hvI (hGet hs 1)))))), (8, (AV.v (TV.one (At.int IntKind.i64 (hvI (hGet hs 2))))))] [(Blk.mk Bool.false (Body.fl FloatKind.f32 (hvLn (hGet hs 3))))]) := e2.trans (by kernel_rfl)
  clear e2
  subst e1
  unfold z99 at e3
  injection e3 with h1 h2
  subst h2
  exact ⟨8, 8, big, Eq.trans (zfw (hvN (hGet hs 0)) (hvI (hGet hs 1)) (hvLn (hGet hs 3)) big (hvI (hGet hs 2))) (zfn (hvN (hGet hs 0)) (hvI (hGet hs 1)) (hvLn (hGet hs 3)) (z1u (hvN (hGet hs 0)) (hvI (hGet hs 1)) (hvLn (hGet hs 3)) big (hvI (hGet hs 2))) h1)⟩)
noncomputable def tb4 : List (Nat × (List PT → Option (Bool × AV × List Blk))) := [(125, z25), (128, z0q), (134, z1c), (137, z24), (18, z2e), (48, z1x), (54, z2x), (61, z2c), (63, z3s), (64, z3l), (66, z3k), (97, z2w), (104, z0m), (14, z2j), (67, z1q), (103, z32), (105, z2i), (111, z3d), (114, z33), (118, z1p), (122, z13), (52, z28), (72, z1g), (79, z1i), (119, z29), (16, z30), (36, z20), (57, z2g)]
noncomputable def lt4 : List ((Nat × Nat) × (Nat → St → Option (Bool × LO))) := [((52, 3), z18), ((72, 2), z0x), ((79, 2), z0v), ((57, 4), z1d), ((62, 5), z3f), ((69, 4), z1k), ((99, 2), z03), ((99, 2), z01)]
noncomputable def Γ4 : Ctx := ⟨tyTab, fnTab, tblSum tb4, tblLp lt4⟩
theorem tb4_ok : SumL Try.prog tb4 := SumL.cons z1b (SumL.cons z0j (SumL.cons z0z (SumL.cons z1a (SumL.cons z1f (SumL.cons z17 (SumL.cons z1w (SumL.cons z1h (SumL.cons z39 (SumL.cons z2t (SumL.cons z2s (SumL.cons z1v (SumL.cons z0i (SumL.cons z1r (SumL.cons z15 (SumL.cons z22 (SumL.cons z1s (SumL.cons z2f (SumL.cons z21 (SumL.cons z14 (SumL.cons z0s (SumL.cons z1j (SumL.cons z11 (SumL.cons z12 (SumL.cons z1l (SumL.cons z23 (SumL.cons z1e (SumL.cons z1t (SumL.nil))))))))))))))))))))))))))))
theorem lt4_ok : LpL Try.prog fnTab lt4 := LpL.cons z0t (LpL.cons z0k (LpL.cons z0l (LpL.cons z0y (LpL.cons z2h (LpL.cons z10 (LpL.cons z02 (LpL.cons z00 (LpL.nil))))))))
noncomputable def z37 : List PT → Option (Bool × AV × List Blk)
  | [.agg [.row 1 q0d (.fl .f32 q0t), .row 1 q0h (.fl .f32 q0x), .row 1 q0j (.fl .f32 q10)], .agg [.row 1 q2c (.fl .f32 q2q), .row 1 q2j (.fl .f32 q2x), .row 1 q2k (.fl .f32 q2z)]] => some ((zc7 q0d q0t q0h q0x q0j q10 q2c q2q q2j q2x q2k q2z), ((AV.v (TV.one (At.bool (zbm q0d q0t q0h q0x q0j q10 q2c q2q q2j q2x q2k q2z)))), []))
  | _ => none
def zkp (q0d : Nat) (q0t : List Nat) (q0h : Nat) (q0x : List Nat) (q0j : Nat) (q10 : List Nat) (q2c : Nat) (q2q : List Nat) (q2j : Nat) (q2x : List Nat) (q2k : Nat) (q2z : List Nat) : Option (Bool) → Option (AV × List Blk)
  | some r => some ((AV.v (TV.one (At.bool r))), [])
  | none => none
theorem zoz (q0d : Nat) (q0t : List Nat) (q0h : Nat) (q0x : List Nat) (q0j : Nat) (q10 : List Nat) (q2c : Nat) (q2q : List Nat) (q2j : Nat) (q2x : List Nat) (q2k : Nat) (q2z : List Nat) : evFn Γ4 8 8 19 (impTs 0 [.agg [.row 1 q0d (.fl .f32 q0t), .row 1 q0h (.fl .f32 q0x), .row 1 q0j (.fl .f32 q10)], .agg [.row 1 q2c (.fl .f32 q2q), .row 1 q2j (.fl .f32 q2x), .row 1 q2k (.fl .f32 q2z)]]).1 (impTs 0 [.agg [.row 1 q0d (.fl .f32 q0t), .row 1 q0h (.fl .f32 q0x), .row 1 q0j (.fl .f32 q10)], .agg [.row 1 q2c (.fl .f32 q2q), .row 1 q2j (.fl .f32 q2x), .row 1 q2k (.fl .f32 q2z)]]).2 (expo (impTs 0 [.agg [.row 1 q0d (.fl .f32 q0t), .row 1 q0h (.fl .f32 q0x), .row 1 q0j (.fl .f32 q10)], .agg [.row 1 q2c (.fl .f32 q2q), .row 1 q2j (.fl .f32 q2x), .row 1 q2k (.fl .f32 q2z)]]).2.length) = zcj q0d q0t q0h q0x q0j q10 q2c q2q q2j q2x q2k q2z (fun c0_ => some ((AV.v (TV.one (At.bool c0_))), [])) := by kernel_rfl
theorem z2b : SumOne Try.prog 19 z37 := sum_of (Γ := Γ4) (fuel := 8) (d := 8) tyTab_ok (FnL.ok fnTab_ok _ _) (LpL.ok lt4_ok) (SumL.ok tb4_ok _) mixed (by
  intro pts v news hp hc
  clear hc
  unfold z37 at hp
  split at hp
  · rename_i q0d q0t q0h q0x q0j q10 q2c q2q q2j q2x q2k q2z
    exact Eq.trans (Eq.trans (zoz q0d q0t q0h q0x q0j q10 q2c q2q q2j q2x q2k q2z) (zmf (zkp q0d q0t q0h q0x q0j q10 q2c q2q q2j q2x q2k q2z) rfl q0d q0t q0h q0x q0j q10 q2c q2q q2j q2x q2k q2z (fun c0_ => some c0_))) (fin_out (o := (zkp q0d q0t q0h q0x q0j q10 q2c q2q q2j q2x q2k q2z)) (x := zc9 q0d q0t q0h q0x q0j q10 q2c q2q q2j q2x q2k q2z) (d := default) (V := fun r => ((AV.v (TV.one (At.bool r))), [])) (fun r => rfl) hp)
  · cases hp)
noncomputable def z36 : List PT → Option (Bool × AV × List Blk)
  | [.agg [.row 1 q0p (.fl .f32 q0z), .row 1 q0u (.fl .f32 q12), .row 1 q0v (.fl .f32 q13), .row 3 q17 (.fl .f32 q1h), .s (.int .i64 q1u), .s (.flt .f32 q2i), .s (.flt .f32 q2h)], .one (.s (.int .i64 k))] => some ((zij q0p q0z q0u q12 q0v q13 q17 q1h q1u q2i q2h k), ((AV.v (TV.one (At.int IntKind.i64 (zgl q0p q0z q0u q12 q0v q13 q17 q1h q1u q2i q2h k)))), []))
  | _ => none
def zkr (q0p : Nat) (q0z : List Nat) (q0u : Nat) (q12 : List Nat) (q0v : Nat) (q13 : List Nat) (q17 : Nat) (q1h : List Nat) (q1u : Int) (q2i : Nat) (q2h : Nat) (k : Int) : Option (Int) → Option (AV × List Blk)
  | some r => some ((AV.v (TV.one (At.int IntKind.i64 r))), [])
  | none => none
theorem zou (q0p : Nat) (q0z : List Nat) (q0u : Nat) (q12 : List Nat) (q0v : Nat) (q13 : List Nat) (q17 : Nat) (q1h : List Nat) (q1u : Int) (q2i : Nat) (q2h : Nat) (k : Int) : evFn Γ4 8 8 33 (impTs 0 [.agg [.row 1 q0p (.fl .f32 q0z), .row 1 q0u (.fl .f32 q12), .row 1 q0v (.fl .f32 q13), .row 3 q17 (.fl .f32 q1h), .s (.int .i64 q1u), .s (.flt .f32 q2i), .s (.flt .f32 q2h)], .one (.s (.int .i64 k))]).1 (impTs 0 [.agg [.row 1 q0p (.fl .f32 q0z), .row 1 q0u (.fl .f32 q12), .row 1 q0v (.fl .f32 q13), .row 3 q17 (.fl .f32 q1h), .s (.int .i64 q1u), .s (.flt .f32 q2i), .s (.flt .f32 q2h)], .one (.s (.int .i64 k))]).2 (expo (impTs 0 [.agg [.row 1 q0p (.fl .f32 q0z), .row 1 q0u (.fl .f32 q12), .row 1 q0v (.fl .f32 q13), .row 3 q17 (.fl .f32 q1h), .s (.int .i64 q1u), .s (.flt .f32 q2i), .s (.flt .f32 q2h)], .one (.s (.int .i64 k))]).2.length) = zce q0p q0z q0u q12 q0v q13 q17 q1h q1u q2i q2h k (fun c0_ => some ((AV.v (TV.one (At.int IntKind.i64 c0_))), [])) := by kernel_rfl
theorem z2d : SumOne Try.prog 33 z36 := sum_of (Γ := Γ4) (fuel := 8) (d := 8) tyTab_ok (FnL.ok fnTab_ok _ _) (LpL.ok lt4_ok) (SumL.ok tb4_ok _) mixed (by
  intro pts v news hp hc
  clear hc
  unfold z36 at hp
  split at hp
  · rename_i q0p q0z q0u q12 q0v q13 q17 q1h q1u q2i q2h k
    exact Eq.trans (Eq.trans (zou q0p q0z q0u q12 q0v q13 q17 q1h q1u q2i q2h k) (zmj (zkr q0p q0z q0u q12 q0v q13 q17 q1h q1u q2i q2h k) rfl q0p q0z q0u q12 q0v q13 q17 q1h q1u q2i q2h k (fun c0_ => some c0_))) (fin_out (o := (zkr q0p q0z q0u q12 q0v q13 q17 q1h q1u q2i q2h k)) (x := zc8 q0p q0z q0u q12 q0v q13 q17 q1h q1u q2i q2h k) (d := default) (V := fun r => ((AV.v (TV.one (At.int IntKind.i64 r))), [])) (fun r => rfl) hp)
  · cases hp)
noncomputable def z41 : List PT → Option (Bool × AV × List Blk)
  | [.ptr [.row 1 q00 (.fl .f32 q03), .row 1 q02 (.fl .f32 q04), .row 1 q01 (.fl .f32 q05)]] => some ((zj0 q00 q03 q02 q04 q01 q05), ((AV.v (TV.one (At.bool (zio q00 q03 q02 q04 q01 q05)))), []))
  | _ => none
def zo1 (q00 : Nat) (q03 : List Nat) (q02 : Nat) (q04 : List Nat) (q01 : Nat) (q05 : List Nat) : Option (Bool) → Option (AV × List Blk)
  | some r => some ((AV.v (TV.one (At.bool r))), [])
  | none => none
theorem zpo (q00 : Nat) (q03 : List Nat) (q02 : Nat) (q04 : List Nat) (q01 : Nat) (q05 : List Nat) : evFn Γ4 8 8 62 (impTs 0 [.ptr [.row 1 q00 (.fl .f32 q03), .row 1 q02 (.fl .f32 q04), .row 1 q01 (.fl .f32 q05)]]).1 (impTs 0 [.ptr [.row 1 q00 (.fl .f32 q03), .row 1 q02 (.fl .f32 q04), .row 1 q01 (.fl .f32 q05)]]).2 (expo (impTs 0 [.ptr [.row 1 q00 (.fl .f32 q03), .row 1 q02 (.fl .f32 q04), .row 1 q01 (.fl .f32 q05)]]).2.length) = zhe q00 q03 q02 q04 q01 q05 (fun c0_ => some ((AV.v (TV.one (At.bool c0_))), [])) := by kernel_rfl
theorem z3m : SumOne Try.prog 62 z41 := sum_of (Γ := Γ4) (fuel := 8) (d := 8) tyTab_ok (FnL.ok fnTab_ok _ _) (LpL.ok lt4_ok) (SumL.ok tb4_ok _) mixed (by
  intro pts v news hp hc
  clear hc
  unfold z41 at hp
  split at hp
  · rename_i q00 q03 q02 q04 q01 q05
    exact Eq.trans (Eq.trans (zpo q00 q03 q02 q04 q01 q05) (zp1 (zo1 q00 q03 q02 q04 q01 q05) rfl q00 q03 q02 q04 q01 q05 (fun c0_ => some c0_))) (fin_out (o := (zo1 q00 q03 q02 q04 q01 q05)) (x := zhm q00 q03 q02 q04 q01 q05) (d := default) (V := fun r => ((AV.v (TV.one (At.bool r))), [])) (fun r => rfl) hp)
  · cases hp)
noncomputable def z2r : List PT → Option (Bool × AV × List Blk)
  | [.one (.row 3 a_n (.fl .f32 a)), .one (.row 3 b_n (.fl .f32 b))] => some ((zgu a_n a b_n b), ((AV.v (TV.one (At.bool (zf7 a_n a b_n b)))), []))
  | _ => none
def zkb (a_n : Nat) (a : List Nat) (b_n : Nat) (b : List Nat) : Option (Bool) → Option (AV × List Blk)
  | some r => some ((AV.v (TV.one (At.bool r))), [])
  | none => none
theorem zo6 (a_n : Nat) (a : List Nat) (b_n : Nat) (b : List Nat) : evFn Γ4 8 8 69 (impTs 0 [.one (.row 3 a_n (.fl .f32 a)), .one (.row 3 b_n (.fl .f32 b))]).1 (impTs 0 [.one (.row 3 a_n (.fl .f32 a)), .one (.row 3 b_n (.fl .f32 b))]).2 (expo (impTs 0 [.one (.row 3 a_n (.fl .f32 a)), .one (.row 3 b_n (.fl .f32 b))]).2.length) = zbs a_n a b_n b (fun c0_ => some ((AV.v (TV.one (At.bool c0_))), [])) := by kernel_rfl
theorem z1y : SumOne Try.prog 69 z2r := sum_of (Γ := Γ4) (fuel := 8) (d := 8) tyTab_ok (FnL.ok fnTab_ok _ _) (LpL.ok lt4_ok) (SumL.ok tb4_ok _) mixed (by
  intro pts v news hp hc
  clear hc
  unfold z2r at hp
  split at hp
  · rename_i a_n a b_n b
    exact Eq.trans (Eq.trans (zo6 a_n a b_n b) (zm1 (zkb a_n a b_n b) rfl a_n a b_n b (fun c0_ => some c0_))) (fin_out (o := (zkb a_n a b_n b)) (x := zbl a_n a b_n b) (d := default) (V := fun r => ((AV.v (TV.one (At.bool r))), [])) (fun r => rfl) hp)
  · cases hp)
noncomputable def z0d : List PT → Option (Bool × AV × List Blk)
  | [.one (.row 1 s_n (.fl .f32 s)), .fn 118 []] => some ((z6z s_n s), ((AV.v (TV.one (At.int IntKind.i64 (z6u s_n s)))), []))
  | _ => none
def zc1 (s_n : Nat) (s : List Nat) : Option (Int) → Option (AV × List Blk)
  | some r => some ((AV.v (TV.one (At.int IntKind.i64 r))), [])
  | none => none
theorem zim (s_n : Nat) (s : List Nat) : evFn Γ4 8 8 99 (impTs 0 [.one (.row 1 s_n (.fl .f32 s)), .fn 118 []]).1 (impTs 0 [.one (.row 1 s_n (.fl .f32 s)), .fn 118 []]).2 (expo (impTs 0 [.one (.row 1 s_n (.fl .f32 s)), .fn 118 []]).2.length) = z58 s_n s (fun c0_ => some ((AV.v (TV.one (At.int IntKind.i64 c0_))), [])) := by kernel_rfl
theorem z0b : SumOne Try.prog 99 z0d := sum_of (Γ := Γ4) (fuel := 8) (d := 8) tyTab_ok (FnL.ok fnTab_ok _ _) (LpL.ok lt4_ok) (SumL.ok tb4_ok _) mixed (by
  intro pts v news hp hc
  clear hc
  unfold z0d at hp
  split at hp
  · rename_i s_n s
    exact Eq.trans (Eq.trans (zim s_n s) (zg3 (zc1 s_n s) rfl s_n s (fun c0_ => some c0_))) (fin_out (o := (zc1 s_n s)) (x := z59 s_n s) (d := default) (V := fun r => ((AV.v (TV.one (At.int IntKind.i64 r))), [])) (fun r => rfl) hp)
  · cases hp)
noncomputable def z08 : List PT → Option (Bool × AV × List Blk)
  | [.one (.row 1 s_n (.fl .f32 s)), .fn 122 []] => some ((z6l s_n s), ((AV.v (TV.one (At.int IntKind.i64 (z68 s_n s)))), []))
  | _ => none
def zbc (s_n : Nat) (s : List Nat) : Option (Int) → Option (AV × List Blk)
  | some r => some ((AV.v (TV.one (At.int IntKind.i64 r))), [])
  | none => none
theorem zhy (s_n : Nat) (s : List Nat) : evFn Γ4 8 8 99 (impTs 0 [.one (.row 1 s_n (.fl .f32 s)), .fn 122 []]).1 (impTs 0 [.one (.row 1 s_n (.fl .f32 s)), .fn 122 []]).2 (expo (impTs 0 [.one (.row 1 s_n (.fl .f32 s)), .fn 122 []]).2.length) = z4z s_n s (fun c0_ => some ((AV.v (TV.one (At.int IntKind.i64 c0_))), [])) := by kernel_rfl
theorem z06 : SumOne Try.prog 99 z08 := sum_of (Γ := Γ4) (fuel := 8) (d := 8) tyTab_ok (FnL.ok fnTab_ok _ _) (LpL.ok lt4_ok) (SumL.ok tb4_ok _) mixed (by
  intro pts v news hp hc
  clear hc
  unfold z08 at hp
  split at hp
  · rename_i s_n s
    exact Eq.trans (Eq.trans (zhy s_n s) (zez (zbc s_n s) rfl s_n s (fun c0_ => some c0_))) (fin_out (o := (zbc s_n s)) (x := z51 s_n s) (d := default) (V := fun r => ((AV.v (TV.one (At.int IntKind.i64 r))), [])) (fun r => rfl) hp)
  · cases hp)
noncomputable def za2 (sn : Nat) (t7 : Int) (t8 : Int) (b0 : List Nat) : Bool × LO := ((z53 sn t7 b0 t8), (LO.two (z4u sn t7 b0 t8) (LO.one Ex.ret (St.mk [(4, (AV.v (TV.one (At.int IntKind.i64 (z5w sn t7 b0 t8)))))] [(Blk.mk Bool.false (Body.fl FloatKind.f32 b0))])) (LO.one (Ex.exit 0) (St.mk [(0, (AV.v (TV.one (At.vw 0 0 sn 1)))), (1, (AV.v (TV.one (At.fn 119 [])))), (7, (AV.v (TV.one (At.int IntKind.i64 t7)))), (8, (AV.v (TV.one (At.int IntKind.i64 (z7p sn t7 b0 t8))))), (9, (AV.v (TV.one (At.bool (z7o sn t7 b0 t8)))))] [(Blk.mk Bool.false (Body.fl FloatKind.f32 b0))]))))
noncomputable def z09 : Nat → St → Option (Bool × LO) := lpT 1 (pSt [(pTm 0 (pV (pOne (pVw 0 (liN 0) 1)))), (pTm 1 (pV (pOne (pFn 119 [])))), (pTm 7 (pV (pOne (pInt IntKind.i64)))), (pTm 8 (pV (pOne (pInt IntKind.i64))))] [(pBlk Bool.false (pFl FloatKind.f32))]) (fun hs => za2 (hvN (hGet hs 0)) (hvI (hGet hs 1)) (hvI (hGet hs 2)) (hvLn (hGet hs 3)))
def z5i (sn : Nat) (t7 : Int) (b0 : List Nat) : Option ((Int) ⊕ (Int × Bool)) → Option (Ex × St)
  | none => none
  | some (Sum.inl r) => some (Ex.ret, (St.mk [(4, (AV.v (TV.one (At.int IntKind.i64 r))))] [(Blk.mk Bool.false (Body.fl FloatKind.f32 b0))]))
  | some (Sum.inr r) => some ((Ex.exit 0), (St.mk [(0, (AV.v (TV.one (At.vw 0 0 sn 1)))), (1, (AV.v (TV.one (At.fn 119 [])))), (7, (AV.v (TV.one (At.int IntKind.i64 t7)))), (8, (AV.v (TV.one (At.int IntKind.i64 r.1)))), (9, (AV.v (TV.one (At.bool r.2))))] [(Blk.mk Bool.false (Body.fl FloatKind.f32 b0))]))
def zgz (sn : Nat) (t7 : Int) (b0 : List Nat) (x : Option ((Int) ⊕ (Int × Bool))) : LO := (LO.two (oL x) (LO.one Ex.ret (St.mk [(4, (AV.v (TV.one (At.int IntKind.i64 ((tL x).getD default)))))] [(Blk.mk Bool.false (Body.fl FloatKind.f32 b0))])) (LO.one (Ex.exit 0) (St.mk [(0, (AV.v (TV.one (At.vw 0 0 sn 1)))), (1, (AV.v (TV.one (At.fn 119 [])))), (7, (AV.v (TV.one (At.int IntKind.i64 t7)))), (8, (AV.v (TV.one (At.int IntKind.i64 ((tR x).getD default).1)))), (9, (AV.v (TV.one (At.bool ((tR x).getD default).2))))] [(Blk.mk Bool.false (Body.fl FloatKind.f32 b0))])))
theorem zi0 (sn : Nat) (t7 : Int) (b0 : List Nat) : ∀ x : Option ((Int) ⊕ (Int × Bool)), x.isSome = true → (z5i sn t7 b0) x = some (pick (zgz sn t7 b0 x))
  | none, h => by cases h
  | some (Sum.inl r), _ => rfl
  | some (Sum.inr r), _ => rfl
theorem zhz (sn : Nat) (t7 : Int) (t8 : Int) (b0 : List Nat) (K : Ex → St → Option (Ex × St)) : evC (R := Ex × St) Γ4 (evFn Γ4 8 8) 99 1 fi99.nt fi99.live fi99.nl 8 (findL 2 (loopsIn fi99.code)) (St.mk [(0, (AV.v (TV.one (At.vw 0 0 sn 1)))), (1, (AV.v (TV.one (At.fn 119 [])))), (7, (AV.v (TV.one (At.int IntKind.i64 t7)))), (8, (AV.v (TV.one (At.int IntKind.i64 t8))))] [(Blk.mk Bool.false (Body.fl FloatKind.f32 b0))]) K = z40 sn t7 b0 t8 (fun t8' => K .normal (St.mk [(0, (AV.v (TV.one (At.vw 0 0 sn 1)))), (1, (AV.v (TV.one (At.fn 119 [])))), (7, (AV.v (TV.one (At.int IntKind.i64 t7)))), (8, (AV.v (TV.one (At.int IntKind.i64 t8'))))] [(Blk.mk Bool.false (Body.fl FloatKind.f32 b0))])) (fun c0_ => K Ex.ret (St.mk [(4, (AV.v (TV.one (At.int IntKind.i64 c0_))))] [(Blk.mk Bool.false (Body.fl FloatKind.f32 b0))])) (fun c0_ c1_ => K (Ex.exit 0) (St.mk [(0, (AV.v (TV.one (At.vw 0 0 sn 1)))), (1, (AV.v (TV.one (At.fn 119 [])))), (7, (AV.v (TV.one (At.int IntKind.i64 t7)))), (8, (AV.v (TV.one (At.int IntKind.i64 c0_)))), (9, (AV.v (TV.one (At.bool c1_))))] [(Blk.mk Bool.false (Body.fl FloatKind.f32 b0))])) := by kernel_rfl
theorem zhu (sn : Nat) (t7 : Int) (b0 : List Nat) : ∀ (n : Nat) (t8 : Int), iter 99 2 1 (evC (R := Ex × St) Γ4 (evFn Γ4 8 8) 99 1 fi99.nt fi99.live fi99.nl 8 (findL 2 (loopsIn fi99.code))) n (St.mk [(0, (AV.v (TV.one (At.vw 0 0 sn 1)))), (1, (AV.v (TV.one (At.fn 119 [])))), (7, (AV.v (TV.one (At.int IntKind.i64 t7)))), (8, (AV.v (TV.one (At.int IntKind.i64 t8))))] [(Blk.mk Bool.false (Body.fl FloatKind.f32 b0))]) (fun e st => some (e, st)) = (z5i sn t7 b0) (z27 sn t7 b0 n t8) := by
  intro n
  induction n with
  | zero => intros; rfl
  | succ n ih =>
    intro t8
    refine Eq.trans (iter_succ ..) (Eq.trans (zhz sn t7 t8 b0 (nextK 99 2 1 (evC (R := Ex × St) Γ4 (evFn Γ4 8 8) 99 1 fi99.nt fi99.live fi99.nl 8 (findL 2 (loopsIn fi99.code))) n (fun e st => some (e, st)))) (Eq.trans ?_ (zfa (z5i sn t7 b0) rfl sn t7 b0 t8 (fun t8' => z27 sn t7 b0 n t8') (fun c0_ => some (Sum.inl c0_)) (fun c0_ c1_ => some (Sum.inr (c0_, c1_))))))
    exact congrArg (fun kn_ => z40 sn t7 b0 t8 kn_ (fun c0_ => (z5i sn t7 b0) (some (Sum.inl c0_))) (fun c0_ c1_ => (z5i sn t7 b0) (some (Sum.inr (c0_, c1_))))) (funext fun t8' => ih t8')
theorem z07 : LoopOne Try.prog fnTab 99 2 z09 := lp_of (Γ := Γ4) tyTab_ok (FnL.ok fnTab_ok _ _) (LpL.ok lt4_ok) (SumL.ok tb4_ok _) mixed (fi := fi99) (by kernel_rfl) (by kernel_rfl) (by
  intro lo st out hp
  obtain ⟨hs, e1, e2, e3⟩ := lpT_inv hp
  clear hp
  obtain rfl : st = (St.mk [(0, (AV.v (TV.one (At.vw 0 0 (hvN (hGet hs 0)) 1)))), (1, (AV.v (TV.one (At.fn 119 [])))), (7, (AV.v (TV.one (At.int IntKind.i64 (hvI (hGet hs 1)))))), (8, (AV.v (TV.one (At.int IntKind.i64 (hvI (hGet hs 2))))))] [(Blk.mk Bool.false (Body.fl FloatKind.f32 (hvLn (hGet hs 3))))]) := e2.trans (by kernel_rfl)
  clear e2
  subst e1
  unfold za2 at e3
  injection e3 with h1 h2
  subst h2
  exact ⟨8, 8, big, Eq.trans (zhu (hvN (hGet hs 0)) (hvI (hGet hs 1)) (hvLn (hGet hs 3)) big (hvI (hGet hs 2))) (zi0 (hvN (hGet hs 0)) (hvI (hGet hs 1)) (hvLn (hGet hs 3)) (z27 (hvN (hGet hs 0)) (hvI (hGet hs 1)) (hvLn (hGet hs 3)) big (hvI (hGet hs 2))) h1)⟩)
noncomputable def tb5 : List (Nat × (List PT → Option (Bool × AV × List Blk))) := [(125, z25), (128, z0q), (134, z1c), (137, z24), (18, z2e), (48, z1x), (54, z2x), (61, z2c), (63, z3s), (64, z3l), (66, z3k), (97, z2w), (104, z0m), (14, z2j), (67, z1q), (103, z32), (105, z2i), (111, z3d), (114, z33), (118, z1p), (122, z13), (52, z28), (72, z1g), (79, z1i), (119, z29), (16, z30), (36, z20), (57, z2g), (19, z37), (33, z36), (62, z41), (69, z2r), (99, z0d), (99, z08)]
noncomputable def lt5 : List ((Nat × Nat) × (Nat → St → Option (Bool × LO))) := [((52, 3), z18), ((72, 2), z0x), ((79, 2), z0v), ((57, 4), z1d), ((62, 5), z3f), ((69, 4), z1k), ((99, 2), z03), ((99, 2), z01), ((99, 2), z09)]
noncomputable def Γ5 : Ctx := ⟨tyTab, fnTab, tblSum tb5, tblLp lt5⟩
theorem tb5_ok : SumL Try.prog tb5 := SumL.cons z1b (SumL.cons z0j (SumL.cons z0z (SumL.cons z1a (SumL.cons z1f (SumL.cons z17 (SumL.cons z1w (SumL.cons z1h (SumL.cons z39 (SumL.cons z2t (SumL.cons z2s (SumL.cons z1v (SumL.cons z0i (SumL.cons z1r (SumL.cons z15 (SumL.cons z22 (SumL.cons z1s (SumL.cons z2f (SumL.cons z21 (SumL.cons z14 (SumL.cons z0s (SumL.cons z1j (SumL.cons z11 (SumL.cons z12 (SumL.cons z1l (SumL.cons z23 (SumL.cons z1e (SumL.cons z1t (SumL.cons z2b (SumL.cons z2d (SumL.cons z3m (SumL.cons z1y (SumL.cons z0b (SumL.cons z06 (SumL.nil))))))))))))))))))))))))))))))))))
theorem lt5_ok : LpL Try.prog fnTab lt5 := LpL.cons z0t (LpL.cons z0k (LpL.cons z0l (LpL.cons z0y (LpL.cons z2h (LpL.cons z10 (LpL.cons z02 (LpL.cons z00 (LpL.cons z07 (LpL.nil)))))))))
noncomputable def z3q : List PT → Option (Bool × AV × List Blk)
  | [.agg [.row 1 q0p (.fl .f32 q0z), .row 1 q0u (.fl .f32 q12), .row 1 q0v (.fl .f32 q13), .row 3 q17 (.fl .f32 q1h), .s (.int .i64 q1u), .s (.flt .f32 q2i), .s (.flt .f32 q2h)], .agg [.row 1 q1i (.fl .f32 q1n), .row 1 q1l (.fl .f32 q1p), .row 1 q1m (.fl .f32 q1o), .row 3 q1v (.fl .f32 q2d), .s (.int .i64 q31), .s (.flt .f32 q37), .s (.flt .f32 q36)]] => some ((zjd q0p q0z q0u q12 q0v q13 q17 q1h q1u q2i q2h q1i q1n q1l q1p q1m q1o q1v q2d q31 q37 q36), ((AV.v (TV.one (At.bool (zis q0p q0z q0u q12 q0v q13 q17 q1h q1u q2i q2h q1i q1n q1l q1p q1m q1o q1v q2d q31 q37 q36)))), []))
  | _ => none
def zm4 (q0p : Nat) (q0z : List Nat) (q0u : Nat) (q12 : List Nat) (q0v : Nat) (q13 : List Nat) (q17 : Nat) (q1h : List Nat) (q1u : Int) (q2i : Nat) (q2h : Nat) (q1i : Nat) (q1n : List Nat) (q1l : Nat) (q1p : List Nat) (q1m : Nat) (q1o : List Nat) (q1v : Nat) (q2d : List Nat) (q31 : Int) (q37 : Nat) (q36 : Nat) : Option (Bool) → Option (AV × List Blk)
  | some r => some ((AV.v (TV.one (At.bool r))), [])
  | none => none
theorem zph (q0p : Nat) (q0z : List Nat) (q0u : Nat) (q12 : List Nat) (q0v : Nat) (q13 : List Nat) (q17 : Nat) (q1h : List Nat) (q1u : Int) (q2i : Nat) (q2h : Nat) (q1i : Nat) (q1n : List Nat) (q1l : Nat) (q1p : List Nat) (q1m : Nat) (q1o : List Nat) (q1v : Nat) (q2d : List Nat) (q31 : Int) (q37 : Nat) (q36 : Nat) : evFn Γ5 8 8 30 (impTs 0 [.agg [.row 1 q0p (.fl .f32 q0z), .row 1 q0u (.fl .f32 q12), .row 1 q0v (.fl .f32 q13), .row 3 q17 (.fl .f32 q1h), .s (.int .i64 q1u), .s (.flt .f32 q2i), .s (.flt .f32 q2h)], .agg [.row 1 q1i (.fl .f32 q1n), .row 1 q1l (.fl .f32 q1p), .row 1 q1m (.fl .f32 q1o), .row 3 q1v (.fl .f32 q2d), .s (.int .i64 q31), .s (.flt .f32 q37), .s (.flt .f32 q36)]]).1 (impTs 0 [.agg [.row 1 q0p (.fl .f32 q0z), .row 1 q0u (.fl .f32 q12), .row 1 q0v (.fl .f32 q13), .row 3 q17 (.fl .f32 q1h), .s (.int .i64 q1u), .s (.flt .f32 q2i), .s (.flt .f32 q2h)], .agg [.row 1 q1i (.fl .f32 q1n), .row 1 q1l (.fl .f32 q1p), .row 1 q1m (.fl .f32 q1o), .row 3 q1v (.fl .f32 q2d), .s (.int .i64 q31), .s (.flt .f32 q37), .s (.flt .f32 q36)]]).2 (expo (impTs 0 [.agg [.row 1 q0p (.fl .f32 q0z), .row 1 q0u (.fl .f32 q12), .row 1 q0v (.fl .f32 q13), .row 3 q17 (.fl .f32 q1h), .s (.int .i64 q1u), .s (.flt .f32 q2i), .s (.flt .f32 q2h)], .agg [.row 1 q1i (.fl .f32 q1n), .row 1 q1l (.fl .f32 q1p), .row 1 q1m (.fl .f32 q1o), .row 3 q1v (.fl .f32 q2d), .s (.int .i64 q31), .s (.flt .f32 q37), .s (.flt .f32 q36)]]).2.length) = zdj q0p q0z q0u q12 q0v q13 q17 q1h q1u q2i q2h q1i q1n q1l q1p q1m q1o q1v q2d q31 q37 q36 (fun c0_ => some ((AV.v (TV.one (At.bool c0_))), [])) := by kernel_rfl
theorem z3b : SumOne Try.prog 30 z3q := sum_of (Γ := Γ5) (fuel := 8) (d := 8) tyTab_ok (FnL.ok fnTab_ok _ _) (LpL.ok lt5_ok) (SumL.ok tb5_ok _) mixed (by
  intro pts v news hp hc
  clear hc
  unfold z3q at hp
  split at hp
  · rename_i q0p q0z q0u q12 q0v q13 q17 q1h q1u q2i q2h q1i q1n q1l q1p q1m q1o q1v q2d q31 q37 q36
    exact Eq.trans (Eq.trans (zph q0p q0z q0u q12 q0v q13 q17 q1h q1u q2i q2h q1i q1n q1l q1p q1m q1o q1v q2d q31 q37 q36) (znv (zm4 q0p q0z q0u q12 q0v q13 q17 q1h q1u q2i q2h q1i q1n q1l q1p q1m q1o q1v q2d q31 q37 q36) rfl q0p q0z q0u q12 q0v q13 q17 q1h q1u q2i q2h q1i q1n q1l q1p q1m q1o q1v q2d q31 q37 q36 (fun c0_ => some c0_))) (fin_out (o := (zm4 q0p q0z q0u q12 q0v q13 q17 q1h q1u q2i q2h q1i q1n q1l q1p q1m q1o q1v q2d q31 q37 q36)) (x := zdh q0p q0z q0u q12 q0v q13 q17 q1h q1u q2i q2h q1i q1n q1l q1p q1m q1o q1v q2d q31 q37 q36) (d := default) (V := fun r => ((AV.v (TV.one (At.bool r))), [])) (fun r => rfl) hp)
  · cases hp)
noncomputable def z0h : List PT → Option (Bool × AV × List Blk)
  | [.one (.row 1 s_n (.fl .f32 s)), .fn 119 []] => some ((z74 s_n s), ((AV.v (TV.one (At.int IntKind.i64 (z6y s_n s)))), []))
  | _ => none
def zc4 (s_n : Nat) (s : List Nat) : Option (Int) → Option (AV × List Blk)
  | some r => some ((AV.v (TV.one (At.int IntKind.i64 r))), [])
  | none => none
theorem zip (s_n : Nat) (s : List Nat) : evFn Γ5 8 8 99 (impTs 0 [.one (.row 1 s_n (.fl .f32 s)), .fn 119 []]).1 (impTs 0 [.one (.row 1 s_n (.fl .f32 s)), .fn 119 []]).2 (expo (impTs 0 [.one (.row 1 s_n (.fl .f32 s)), .fn 119 []]).2.length) = z5c s_n s (fun c0_ => some ((AV.v (TV.one (At.int IntKind.i64 c0_))), [])) := by kernel_rfl
theorem z0g : SumOne Try.prog 99 z0h := sum_of (Γ := Γ5) (fuel := 8) (d := 8) tyTab_ok (FnL.ok fnTab_ok _ _) (LpL.ok lt5_ok) (SumL.ok tb5_ok _) mixed (by
  intro pts v news hp hc
  clear hc
  unfold z0h at hp
  split at hp
  · rename_i s_n s
    exact Eq.trans (Eq.trans (zip s_n s) (zhh (zc4 s_n s) rfl s_n s (fun c0_ => some c0_))) (fin_out (o := (zc4 s_n s)) (x := z5b s_n s) (d := default) (V := fun r => ((AV.v (TV.one (At.int IntKind.i64 r))), [])) (fun r => rfl) hp)
  · cases hp)
noncomputable def tb6 : List (Nat × (List PT → Option (Bool × AV × List Blk))) := [(125, z25), (128, z0q), (134, z1c), (137, z24), (18, z2e), (48, z1x), (54, z2x), (61, z2c), (63, z3s), (64, z3l), (66, z3k), (97, z2w), (104, z0m), (14, z2j), (67, z1q), (103, z32), (105, z2i), (111, z3d), (114, z33), (118, z1p), (122, z13), (52, z28), (72, z1g), (79, z1i), (119, z29), (16, z30), (36, z20), (57, z2g), (19, z37), (33, z36), (62, z41), (69, z2r), (99, z0d), (99, z08), (30, z3q), (99, z0h)]
noncomputable def lt6 : List ((Nat × Nat) × (Nat → St → Option (Bool × LO))) := [((52, 3), z18), ((72, 2), z0x), ((79, 2), z0v), ((57, 4), z1d), ((62, 5), z3f), ((69, 4), z1k), ((99, 2), z03), ((99, 2), z01), ((99, 2), z09)]
noncomputable def Γ6 : Ctx := ⟨tyTab, fnTab, tblSum tb6, tblLp lt6⟩
theorem tb6_ok : SumL Try.prog tb6 := SumL.cons z1b (SumL.cons z0j (SumL.cons z0z (SumL.cons z1a (SumL.cons z1f (SumL.cons z17 (SumL.cons z1w (SumL.cons z1h (SumL.cons z39 (SumL.cons z2t (SumL.cons z2s (SumL.cons z1v (SumL.cons z0i (SumL.cons z1r (SumL.cons z15 (SumL.cons z22 (SumL.cons z1s (SumL.cons z2f (SumL.cons z21 (SumL.cons z14 (SumL.cons z0s (SumL.cons z1j (SumL.cons z11 (SumL.cons z12 (SumL.cons z1l (SumL.cons z23 (SumL.cons z1e (SumL.cons z1t (SumL.cons z2b (SumL.cons z2d (SumL.cons z3m (SumL.cons z1y (SumL.cons z0b (SumL.cons z06 (SumL.cons z3b (SumL.cons z0g (SumL.nil))))))))))))))))))))))))))))))))))))
theorem lt6_ok : LpL Try.prog fnTab lt6 := LpL.cons z0t (LpL.cons z0k (LpL.cons z0l (LpL.cons z0y (LpL.cons z2h (LpL.cons z10 (LpL.cons z02 (LpL.cons z00 (LpL.cons z07 (LpL.nil)))))))))
noncomputable def z0c : List PT → Option (Bool × AV × List Blk)
  | [.one (.row 1 s_n (.fl .f32 s)), .fn 118 []] => some ((z6i s_n s), ((AV.v (TV.one (At.bool (z63 s_n s)))), []))
  | _ => none
def za4 (s_n : Nat) (s : List Nat) : Option (Bool) → Option (AV × List Blk)
  | some r => some ((AV.v (TV.one (At.bool r))), [])
  | none => none
theorem zhd (s_n : Nat) (s : List Nat) : evFn Γ6 8 8 117 (impTs 0 [.one (.row 1 s_n (.fl .f32 s)), .fn 118 []]).1 (impTs 0 [.one (.row 1 s_n (.fl .f32 s)), .fn 118 []]).2 (expo (impTs 0 [.one (.row 1 s_n (.fl .f32 s)), .fn 118 []]).2.length) = z4v s_n s (fun c0_ => some ((AV.v (TV.one (At.bool c0_))), [])) := by kernel_rfl
theorem z0a : SumOne Try.prog 117 z0c := sum_of (Γ := Γ6) (fuel := 8) (d := 8) tyTab_ok (FnL.ok fnTab_ok _ _) (LpL.ok lt6_ok) (SumL.ok tb6_ok _) mixed (by
  intro pts v news hp hc
  clear hc
  unfold z0c at hp
  split at hp
  · rename_i s_n s
    exact Eq.trans (Eq.trans (zhd s_n s) (zej (za4 s_n s) rfl s_n s (fun c0_ => some c0_))) (fin_out (o := (za4 s_n s)) (x := z4t s_n s) (d := default) (V := fun r => ((AV.v (TV.one (At.bool r))), [])) (fun r => rfl) hp)
  · cases hp)
noncomputable def z0f : List PT → Option (Bool × AV × List Blk)
  | [.one (.row 1 s_n (.fl .f32 s)), .fn 119 []] => some ((z6k s_n s), ((AV.v (TV.one (At.bool (z67 s_n s)))), []))
  | _ => none
def zbb (s_n : Nat) (s : List Nat) : Option (Bool) → Option (AV × List Blk)
  | some r => some ((AV.v (TV.one (At.bool r))), [])
  | none => none
theorem zhv (s_n : Nat) (s : List Nat) : evFn Γ6 8 8 117 (impTs 0 [.one (.row 1 s_n (.fl .f32 s)), .fn 119 []]).1 (impTs 0 [.one (.row 1 s_n (.fl .f32 s)), .fn 119 []]).2 (expo (impTs 0 [.one (.row 1 s_n (.fl .f32 s)), .fn 119 []]).2.length) = z52 s_n s (fun c0_ => some ((AV.v (TV.one (At.bool c0_))), [])) := by kernel_rfl
theorem z0e : SumOne Try.prog 117 z0f := sum_of (Γ := Γ6) (fuel := 8) (d := 8) tyTab_ok (FnL.ok fnTab_ok _ _) (LpL.ok lt6_ok) (SumL.ok tb6_ok _) mixed (by
  intro pts v news hp hc
  clear hc
  unfold z0f at hp
  split at hp
  · rename_i s_n s
    exact Eq.trans (Eq.trans (zhv s_n s) (zf2 (zbb s_n s) rfl s_n s (fun c0_ => some c0_))) (fin_out (o := (zbb s_n s)) (x := z50 s_n s) (d := default) (V := fun r => ((AV.v (TV.one (At.bool r))), [])) (fun r => rfl) hp)
  · cases hp)
noncomputable def z05 : List PT → Option (Bool × AV × List Blk)
  | [.one (.row 1 s_n (.fl .f32 s)), .fn 122 []] => some ((z5x s_n s), ((AV.v (TV.one (At.bool (z5t s_n s)))), []))
  | _ => none
def z9y (s_n : Nat) (s : List Nat) : Option (Bool) → Option (AV × List Blk)
  | some r => some ((AV.v (TV.one (At.bool r))), [])
  | none => none
theorem zft (s_n : Nat) (s : List Nat) : evFn Γ6 8 8 117 (impTs 0 [.one (.row 1 s_n (.fl .f32 s)), .fn 122 []]).1 (impTs 0 [.one (.row 1 s_n (.fl .f32 s)), .fn 122 []]).2 (expo (impTs 0 [.one (.row 1 s_n (.fl .f32 s)), .fn 122 []]).2.length) = z4n s_n s (fun c0_ => some ((AV.v (TV.one (At.bool c0_))), [])) := by kernel_rfl
theorem z04 : SumOne Try.prog 117 z05 := sum_of (Γ := Γ6) (fuel := 8) (d := 8) tyTab_ok (FnL.ok fnTab_ok _ _) (LpL.ok lt6_ok) (SumL.ok tb6_ok _) mixed (by
  intro pts v news hp hc
  clear hc
  unfold z05 at hp
  split at hp
  · rename_i s_n s
    exact Eq.trans (Eq.trans (zft s_n s) (zdt (z9y s_n s) rfl s_n s (fun c0_ => some c0_))) (fin_out (o := (z9y s_n s)) (x := z4o s_n s) (d := default) (V := fun r => ((AV.v (TV.one (At.bool r))), [])) (fun r => rfl) hp)
  · cases hp)
noncomputable def zk7 (t4 : Nat) (t57 : Int) (t58 : Int) (b0 : List Nat) (b1 : List Nat) (b2 : List Nat) (b3 : List Nat) (q15 : Nat) (q14 : Nat) (q16 : Nat) (q0w : Nat) (q1d : Int) (q1c : Nat) (q0y : Nat) : Bool × LO := ((zbg t57 b3 q0w q0y t4 t58), (LO.two (za3 t57 b3 q0w q0y t4 t58) (LO.one Ex.ret (St.mk [(2, (AV.v (TV.one (At.bool Bool.false))))] [(Blk.mk Bool.false (Body.fl FloatKind.f32 b0)), (Blk.mk Bool.false (Body.fl FloatKind.f32 b1)), (Blk.mk Bool.false (Body.fl FloatKind.f32 b2)), (Blk.mk Bool.false (Body.fl FloatKind.f32 b3)), (Blk.mk Bool.false (Body.cells [(At.vw 0 0 q15 1), (At.vw 1 0 q14 1), (At.vw 2 0 q16 1), (At.vw 3 0 q0w 3), (At.int IntKind.i64 q1d), (At.flt FloatKind.f32 q1c), (At.flt FloatKind.f32 q0y)]))])) (LO.one (Ex.exit 0) (St.mk [(0, (AV.v (TV.one (At.ptr 4 0 7)))), (4, (AV.v (TV.one (At.flt FloatKind.f32 (zjc t57 b3 q0w q0y t4 t58))))), (57, (AV.v (TV.one (At.int IntKind.i64 t57)))), (58, (AV.v (TV.one (At.int IntKind.i64 (zj5 t57 b3 q0w q0y t4 t58))))), (59, (AV.v (TV.one (At.bool (zj9 t57 b3 q0w q0y t4 t58)))))] [(Blk.mk Bool.false (Body.fl FloatKind.f32 b0)), (Blk.mk Bool.false (Body.fl FloatKind.f32 b1)), (Blk.mk Bool.false (Body.fl FloatKind.f32 b2)), (Blk.mk Bool.false (Body.fl FloatKind.f32 b3)), (Blk.mk Bool.false (Body.cells [(At.vw 0 0 q15 1), (At.vw 1 0 q14 1), (At.vw 2 0 q16 1), (At.vw 3 0 q0w 3), (At.int IntKind.i64 q1d), (At.flt FloatKind.f32 q1c), (At.flt FloatKind.f32 q0y)]))]))))
noncomputable def z3o : Nat → St → Option (Bool × LO) := lpT 5 (pSt [(pTm 0 (pV (pOne (pPtr 4 (liN 0) 7)))), (pTm 4 (pV (pOne (pFlt FloatKind.f32)))), (pTm 57 (pV (pOne (pInt IntKind.i64)))), (pTm 58 (pV (pOne (pInt IntKind.i64))))] [(pBlk Bool.false (pFl FloatKind.f32)), (pBlk Bool.false (pFl FloatKind.f32)), (pBlk Bool.false (pFl FloatKind.f32)), (pBlk Bool.false (pFl FloatKind.f32)), (pBlk Bool.false (pCells [(pVw 0 (liN 0) 1), (pVw 1 (liN 0) 1), (pVw 2 (liN 0) 1), (pVw 3 (liN 0) 3), (pInt IntKind.i64), (pFlt FloatKind.f32), (pFlt FloatKind.f32)]))]) (fun hs => zk7 (hvN (hGet hs 0)) (hvI (hGet hs 1)) (hvI (hGet hs 2)) (hvLn (hGet hs 3)) (hvLn (hGet hs 4)) (hvLn (hGet hs 5)) (hvLn (hGet hs 6)) (hvN (hGet hs 7)) (hvN (hGet hs 8)) (hvN (hGet hs 9)) (hvN (hGet hs 10)) (hvI (hGet hs 11)) (hvN (hGet hs 12)) (hvN (hGet hs 13)))
def zfb (t57 : Int) (b0 : List Nat) (b1 : List Nat) (b2 : List Nat) (b3 : List Nat) (q15 : Nat) (q14 : Nat) (q16 : Nat) (q0w : Nat) (q1d : Int) (q1c : Nat) (q0y : Nat) : Option ((Unit) ⊕ (Nat × Int × Bool)) → Option (Ex × St)
  | none => none
  | some (Sum.inl r) => some (Ex.ret, (St.mk [(2, (AV.v (TV.one (At.bool Bool.false))))] [(Blk.mk Bool.false (Body.fl FloatKind.f32 b0)), (Blk.mk Bool.false (Body.fl FloatKind.f32 b1)), (Blk.mk Bool.false (Body.fl FloatKind.f32 b2)), (Blk.mk Bool.false (Body.fl FloatKind.f32 b3)), (Blk.mk Bool.false (Body.cells [(At.vw 0 0 q15 1), (At.vw 1 0 q14 1), (At.vw 2 0 q16 1), (At.vw 3 0 q0w 3), (At.int IntKind.i64 q1d), (At.flt FloatKind.f32 q1c), (At.flt FloatKind.f32 q0y)]))]))
  | some (Sum.inr r) => some ((Ex.exit 0), (St.mk [(0, (AV.v (TV.one (At.ptr 4 0 7)))), (4, (AV.v (TV.one (At.flt FloatKind.f32 r.1)))), (57, (AV.v (TV.one (At.int IntKind.i64 t57)))), (58, (AV.v (TV.one (At.int IntKind.i64 r.2.1)))), (59, (AV.v (TV.one (At.bool r.2.2))))] [(Blk.mk Bool.false (Body.fl FloatKind.f32 b0)), (Blk.mk Bool.false (Body.fl FloatKind.f32 b1)), (Blk.mk Bool.false (Body.fl FloatKind.f32 b2)), (Blk.mk Bool.false (Body.fl FloatKind.f32 b3)), (Blk.mk Bool.false (Body.cells [(At.vw 0 0 q15 1), (At.vw 1 0 q14 1), (At.vw 2 0 q16 1), (At.vw 3 0 q0w 3), (At.int IntKind.i64 q1d), (At.flt FloatKind.f32 q1c), (At.flt FloatKind.f32 q0y)]))]))
def zor (t57 : Int) (b0 : List Nat) (b1 : List Nat) (b2 : List Nat) (b3 : List Nat) (q15 : Nat) (q14 : Nat) (q16 : Nat) (q0w : Nat) (q1d : Int) (q1c : Nat) (q0y : Nat) (x : Option ((Unit) ⊕ (Nat × Int × Bool))) : LO := (LO.two (oL x) (LO.one Ex.ret (St.mk [(2, (AV.v (TV.one (At.bool Bool.false))))] [(Blk.mk Bool.false (Body.fl FloatKind.f32 b0)), (Blk.mk Bool.false (Body.fl FloatKind.f32 b1)), (Blk.mk Bool.false (Body.fl FloatKind.f32 b2)), (Blk.mk Bool.false (Body.fl FloatKind.f32 b3)), (Blk.mk Bool.false (Body.cells [(At.vw 0 0 q15 1), (At.vw 1 0 q14 1), (At.vw 2 0 q16 1), (At.vw 3 0 q0w 3), (At.int IntKind.i64 q1d), (At.flt FloatKind.f32 q1c), (At.flt FloatKind.f32 q0y)]))])) (LO.one (Ex.exit 0) (St.mk [(0, (AV.v (TV.one (At.ptr 4 0 7)))), (4, (AV.v (TV.one (At.flt FloatKind.f32 ((tR x).getD default).1)))), (57, (AV.v (TV.one (At.int IntKind.i64 t57)))), (58, (AV.v (TV.one (At.int IntKind.i64 ((tR x).getD default).2.1)))), (59, (AV.v (TV.one (At.bool ((tR x).getD default).2.2))))] [(Blk.mk Bool.false (Body.fl FloatKind.f32 b0)), (Blk.mk Bool.false (Body.fl FloatKind.f32 b1)), (Blk.mk Bool.false (Body.fl FloatKind.f32 b2)), (Blk.mk Bool.false (Body.fl FloatKind.f32 b3)), (Blk.mk Bool.false (Body.cells [(At.vw 0 0 q15 1), (At.vw 1 0 q14 1), (At.vw 2 0 q16 1), (At.vw 3 0 q0w 3), (At.int IntKind.i64 q1d), (At.flt FloatKind.f32 q1c), (At.flt FloatKind.f32 q0y)]))])))
theorem zp4 (t57 : Int) (b0 : List Nat) (b1 : List Nat) (b2 : List Nat) (b3 : List Nat) (q15 : Nat) (q14 : Nat) (q16 : Nat) (q0w : Nat) (q1d : Int) (q1c : Nat) (q0y : Nat) : ∀ x : Option ((Unit) ⊕ (Nat × Int × Bool)), x.isSome = true → (zfb t57 b0 b1 b2 b3 q15 q14 q16 q0w q1d q1c q0y) x = some (pick (zor t57 b0 b1 b2 b3 q15 q14 q16 q0w q1d q1c q0y x))
  | none, h => by cases h
  | some (Sum.inl r), _ => rfl
  | some (Sum.inr r), _ => rfl
theorem zp7 (t4 : Nat) (t57 : Int) (t58 : Int) (b0 : List Nat) (b1 : List Nat) (b2 : List Nat) (b3 : List Nat) (q15 : Nat) (q14 : Nat) (q16 : Nat) (q0w : Nat) (q1d : Int) (q1c : Nat) (q0y : Nat) (K : Ex → St → Option (Ex × St)) : evC (R := Ex × St) Γ6 (evFn Γ6 8 8) 91 5 fi91.nt fi91.live fi91.nl 8 (findL 6 (loopsIn fi91.code)) (St.mk [(0, (AV.v (TV.one (At.ptr 4 0 7)))), (4, (AV.v (TV.one (At.flt FloatKind.f32 t4)))), (57, (AV.v (TV.one (At.int IntKind.i64 t57)))), (58, (AV.v (TV.one (At.int IntKind.i64 t58))))] [(Blk.mk Bool.false (Body.fl FloatKind.f32 b0)), (Blk.mk Bool.false (Body.fl FloatKind.f32 b1)), (Blk.mk Bool.false (Body.fl FloatKind.f32 b2)), (Blk.mk Bool.false (Body.fl FloatKind.f32 b3)), (Blk.mk Bool.false (Body.cells [(At.vw 0 0 q15 1), (At.vw 1 0 q14 1), (At.vw 2 0 q16 1), (At.vw 3 0 q0w 3), (At.int IntKind.i64 q1d), (At.flt FloatKind.f32 q1c), (At.flt FloatKind.f32 q0y)]))]) K = z8v t57 b3 q0w q0y t4 t58 (fun t4' t58' => K .normal (St.mk [(0, (AV.v (TV.one (At.ptr 4 0 7)))), (4, (AV.v (TV.one (At.flt FloatKind.f32 t4')))), (57, (AV.v (TV.one (At.int IntKind.i64 t57)))), (58, (AV.v (TV.one (At.int IntKind.i64 t58'))))] [(Blk.mk Bool.false (Body.fl FloatKind.f32 b0)), (Blk.mk Bool.false (Body.fl FloatKind.f32 b1)), (Blk.mk Bool.false (Body.fl FloatKind.f32 b2)), (Blk.mk Bool.false (Body.fl FloatKind.f32 b3)), (Blk.mk Bool.false (Body.cells [(At.vw 0 0 q15 1), (At.vw 1 0 q14 1), (At.vw 2 0 q16 1), (At.vw 3 0 q0w 3), (At.int IntKind.i64 q1d), (At.flt FloatKind.f32 q1c), (At.flt FloatKind.f32 q0y)]))])) (fun _ => K Ex.ret (St.mk [(2, (AV.v (TV.one (At.bool Bool.false))))] [(Blk.mk Bool.false (Body.fl FloatKind.f32 b0)), (Blk.mk Bool.false (Body.fl FloatKind.f32 b1)), (Blk.mk Bool.false (Body.fl FloatKind.f32 b2)), (Blk.mk Bool.false (Body.fl FloatKind.f32 b3)), (Blk.mk Bool.false (Body.cells [(At.vw 0 0 q15 1), (At.vw 1 0 q14 1), (At.vw 2 0 q16 1), (At.vw 3 0 q0w 3), (At.int IntKind.i64 q1d), (At.flt FloatKind.f32 q1c), (At.flt FloatKind.f32 q0y)]))])) (fun c0_ c1_ c2_ => K (Ex.exit 0) (St.mk [(0, (AV.v (TV.one (At.ptr 4 0 7)))), (4, (AV.v (TV.one (At.flt FloatKind.f32 c0_)))), (57, (AV.v (TV.one (At.int IntKind.i64 t57)))), (58, (AV.v (TV.one (At.int IntKind.i64 c1_)))), (59, (AV.v (TV.one (At.bool c2_))))] [(Blk.mk Bool.false (Body.fl FloatKind.f32 b0)), (Blk.mk Bool.false (Body.fl FloatKind.f32 b1)), (Blk.mk Bool.false (Body.fl FloatKind.f32 b2)), (Blk.mk Bool.false (Body.fl FloatKind.f32 b3)), (Blk.mk Bool.false (Body.cells [(At.vw 0 0 q15 1), (At.vw 1 0 q14 1), (At.vw 2 0 q16 1), (At.vw 3 0 q0w 3), (At.int IntKind.i64 q1d), (At.flt FloatKind.f32 q1c), (At.flt FloatKind.f32 q0y)]))])) := by kernel_rfl
theorem zpb (t57 : Int) (b0 : List Nat) (b1 : List Nat) (b2 : List Nat) (b3 : List Nat) (q15 : Nat) (q14 : Nat) (q16 : Nat) (q0w : Nat) (q1d : Int) (q1c : Nat) (q0y : Nat) : ∀ (n : Nat) (t4 : Nat) (t58 : Int), iter 91 6 5 (evC (R := Ex × St) Γ6 (evFn Γ6 8 8) 91 5 fi91.nt fi91.live fi91.nl 8 (findL 6 (loopsIn fi91.code))) n (St.mk [(0, (AV.v (TV.one (At.ptr 4 0 7)))), (4, (AV.v (TV.one (At.flt FloatKind.f32 t4)))), (57, (AV.v (TV.one (At.int IntKind.i64 t57)))), (58, (AV.v (TV.one (At.int IntKind.i64 t58))))] [(Blk.mk Bool.false (Body.fl FloatKind.f32 b0)), (Blk.mk Bool.false (Body.fl FloatKind.f32 b1)), (Blk.mk Bool.false (Body.fl FloatKind.f32 b2)), (Blk.mk Bool.false (Body.fl FloatKind.f32 b3)), (Blk.mk Bool.false (Body.cells [(At.vw 0 0 q15 1), (At.vw 1 0 q14 1), (At.vw 2 0 q16 1), (At.vw 3 0 q0w 3), (At.int IntKind.i64 q1d), (At.flt FloatKind.f32 q1c), (At.flt FloatKind.f32 q0y)]))]) (fun e st => some (e, st)) = (zfb t57 b0 b1 b2 b3 q15 q14 q16 q0w q1d q1c q0y) (z5a t57 b3 q0w q0y n t4 t58) := by
  intro n
  induction n with
  | zero => intros; rfl
  | succ n ih =>
    intro t4 t58
    refine Eq.trans (iter_succ ..) (Eq.trans (zp7 t4 t57 t58 b0 b1 b2 b3 q15 q14 q16 q0w q1d q1c q0y (nextK 91 6 5 (evC (R := Ex × St) Γ6 (evFn Γ6 8 8) 91 5 fi91.nt fi91.live fi91.nl 8 (findL 6 (loopsIn fi91.code))) n (fun e st => some (e, st)))) (Eq.trans ?_ (zno (zfb t57 b0 b1 b2 b3 q15 q14 q16 q0w q1d q1c q0y) rfl t57 b3 q0w q0y t4 t58 (fun t4' t58' => z5a t57 b3 q0w q0y n t4' t58') (fun _ => some (Sum.inl ())) (fun c0_ c1_ c2_ => some (Sum.inr (c0_, c1_, c2_))))))
    exact congrArg (fun kn_ => z8v t57 b3 q0w q0y t4 t58 kn_ (fun _ => (zfb t57 b0 b1 b2 b3 q15 q14 q16 q0w q1d q1c q0y) (some (Sum.inl ()))) (fun c0_ c1_ c2_ => (zfb t57 b0 b1 b2 b3 q15 q14 q16 q0w q1d q1c q0y) (some (Sum.inr (c0_, c1_, c2_))))) (funext fun t4' => funext fun t58' => ih t4' t58')
theorem z38 : LoopOne Try.prog fnTab 91 6 z3o := lp_of (Γ := Γ6) tyTab_ok (FnL.ok fnTab_ok _ _) (LpL.ok lt6_ok) (SumL.ok tb6_ok _) mixed (fi := fi91) (by kernel_rfl) (by kernel_rfl) (by
  intro lo st out hp
  obtain ⟨hs, e1, e2, e3⟩ := lpT_inv hp
  clear hp
  obtain rfl : st = (St.mk [(0, (AV.v (TV.one (At.ptr 4 0 7)))), (4, (AV.v (TV.one (At.flt FloatKind.f32 (hvN (hGet hs 0)))))), (57, (AV.v (TV.one (At.int IntKind.i64 (hvI (hGet hs 1)))))), (58, (AV.v (TV.one (At.int IntKind.i64 (hvI (hGet hs 2))))))] [(Blk.mk Bool.false (Body.fl FloatKind.f32 (hvLn (hGet hs 3)))), (Blk.mk Bool.false (Body.fl FloatKind.f32 (hvLn (hGet hs 4)))), (Blk.mk Bool.false (Body.fl FloatKind.f32 (hvLn (hGet hs 5)))), (Blk.mk Bool.false (Body.fl FloatKind.f32 (hvLn (hGet hs 6)))), (Blk.mk Bool.false (Body.cells [(At.vw 0 0 (hvN (hGet hs 7)) 1), (At.vw 1 0 (hvN (hGet hs 8)) 1), (At.vw 2 0 (hvN (hGet hs 9)) 1), (At.vw 3 0 (hvN (hGet hs 10)) 3), (At.int IntKind.i64 (hvI (hGet hs 11))), (At.flt FloatKind.f32 (hvN (hGet hs 12))), (At.flt FloatKind.f32 (hvN (hGet hs 13)))]))]) := e2.trans (by kernel_rfl)
  clear e2
  subst e1
  unfold zk7 at e3
  injection e3 with h1 h2
  subst h2
  exact ⟨8, 8, big, Eq.trans (zpb (hvI (hGet hs 1)) (hvLn (hGet hs 3)) (hvLn (hGet hs 4)) (hvLn (hGet hs 5)) (hvLn (hGet hs 6)) (hvN (hGet hs 7)) (hvN (hGet hs 8)) (hvN (hGet hs 9)) (hvN (hGet hs 10)) (hvI (hGet hs 11)) (hvN (hGet hs 12)) (hvN (hGet hs 13)) big (hvN (hGet hs 0)) (hvI (hGet hs 2))) (zp4 (hvI (hGet hs 1)) (hvLn (hGet hs 3)) (hvLn (hGet hs 4)) (hvLn (hGet hs 5)) (hvLn (hGet hs 6)) (hvN (hGet hs 7)) (hvN (hGet hs 8)) (hvN (hGet hs 9)) (hvN (hGet hs 10)) (hvI (hGet hs 11)) (hvN (hGet hs 12)) (hvN (hGet hs 13)) (z5a (hvI (hGet hs 1)) (hvLn (hGet hs 6)) (hvN (hGet hs 10)) (hvN (hGet hs 13)) big (hvN (hGet hs 0)) (hvI (hGet hs 2))) h1)⟩)
noncomputable def tb7 : List (Nat × (List PT → Option (Bool × AV × List Blk))) := [(125, z25), (128, z0q), (134, z1c), (137, z24), (18, z2e), (48, z1x), (54, z2x), (61, z2c), (63, z3s), (64, z3l), (66, z3k), (97, z2w), (104, z0m), (14, z2j), (67, z1q), (103, z32), (105, z2i), (111, z3d), (114, z33), (118, z1p), (122, z13), (52, z28), (72, z1g), (79, z1i), (119, z29), (16, z30), (36, z20), (57, z2g), (19, z37), (33, z36), (62, z41), (69, z2r), (99, z0d), (99, z08), (30, z3q), (99, z0h), (117, z0c), (117, z0f), (117, z05)]
noncomputable def lt7 : List ((Nat × Nat) × (Nat → St → Option (Bool × LO))) := [((52, 3), z18), ((72, 2), z0x), ((79, 2), z0v), ((57, 4), z1d), ((62, 5), z3f), ((69, 4), z1k), ((99, 2), z03), ((99, 2), z01), ((99, 2), z09), ((91, 6), z3o)]
noncomputable def Γ7 : Ctx := ⟨tyTab, fnTab, tblSum tb7, tblLp lt7⟩
theorem tb7_ok : SumL Try.prog tb7 := SumL.cons z1b (SumL.cons z0j (SumL.cons z0z (SumL.cons z1a (SumL.cons z1f (SumL.cons z17 (SumL.cons z1w (SumL.cons z1h (SumL.cons z39 (SumL.cons z2t (SumL.cons z2s (SumL.cons z1v (SumL.cons z0i (SumL.cons z1r (SumL.cons z15 (SumL.cons z22 (SumL.cons z1s (SumL.cons z2f (SumL.cons z21 (SumL.cons z14 (SumL.cons z0s (SumL.cons z1j (SumL.cons z11 (SumL.cons z12 (SumL.cons z1l (SumL.cons z23 (SumL.cons z1e (SumL.cons z1t (SumL.cons z2b (SumL.cons z2d (SumL.cons z3m (SumL.cons z1y (SumL.cons z0b (SumL.cons z06 (SumL.cons z3b (SumL.cons z0g (SumL.cons z0a (SumL.cons z0e (SumL.cons z04 (SumL.nil)))))))))))))))))))))))))))))))))))))))
theorem lt7_ok : LpL Try.prog fnTab lt7 := LpL.cons z0t (LpL.cons z0k (LpL.cons z0l (LpL.cons z0y (LpL.cons z2h (LpL.cons z10 (LpL.cons z02 (LpL.cons z00 (LpL.cons z07 (LpL.cons z38 (LpL.nil))))))))))
noncomputable def z47 : List PT → Option (Bool × AV × List Blk)
  | [.ptr [.row 1 q0e (.fl .f32 q0m), .row 1 q0g (.fl .f32 q0o), .row 1 q0f (.fl .f32 q0n), .row 3 q0s (.fl .f32 q11), .s (.int .i64 q18), .s (.flt .f32 q1a), .s (.flt .f32 q1b)]] => some ((zjq q0e q0m q0g q0o q0f q0n q0s q11 q18 q1a q1b), ((AV.v (TV.one (At.bool (zjk q0e q0m q0g q0o q0f q0n q0s q11 q18 q1a q1b)))), []))
  | _ => none
def znz (q0e : Nat) (q0m : List Nat) (q0g : Nat) (q0o : List Nat) (q0f : Nat) (q0n : List Nat) (q0s : Nat) (q11 : List Nat) (q18 : Int) (q1a : Nat) (q1b : Nat) : Option (Bool) → Option (AV × List Blk)
  | some r => some ((AV.v (TV.one (At.bool r))), [])
  | none => none
theorem zpn (q0e : Nat) (q0m : List Nat) (q0g : Nat) (q0o : List Nat) (q0f : Nat) (q0n : List Nat) (q0s : Nat) (q11 : List Nat) (q18 : Int) (q1a : Nat) (q1b : Nat) : evFn Γ7 8 8 91 (impTs 0 [.ptr [.row 1 q0e (.fl .f32 q0m), .row 1 q0g (.fl .f32 q0o), .row 1 q0f (.fl .f32 q0n), .row 3 q0s (.fl .f32 q11), .s (.int .i64 q18), .s (.flt .f32 q1a), .s (.flt .f32 q1b)]]).1 (impTs 0 [.ptr [.row 1 q0e (.fl .f32 q0m), .row 1 q0g (.fl .f32 q0o), .row 1 q0f (.fl .f32 q0n), .row 3 q0s (.fl .f32 q11), .s (.int .i64 q18), .s (.flt .f32 q1a), .s (.flt .f32 q1b)]]).2 (expo (impTs 0 [.ptr [.row 1 q0e (.fl .f32 q0m), .row 1 q0g (.fl .f32 q0o), .row 1 q0f (.fl .f32 q0n), .row 3 q0s (.fl .f32 q11), .s (.int .i64 q18), .s (.flt .f32 q1a), .s (.flt .f32 q1b)]]).2.length) = zhs q0e q0m q0g q0o q0f q0n q0s q11 q18 q1a q1b (fun c0_ => some ((AV.v (TV.one (At.bool c0_))), [])) := by kernel_rfl
theorem z3v : SumOne Try.prog 91 z47 := sum_of (Γ := Γ7) (fuel := 8) (d := 8) tyTab_ok (FnL.ok fnTab_ok _ _) (LpL.ok lt7_ok) (SumL.ok tb7_ok _) mixed (by
  intro pts v news hp hc
  clear hc
  unfold z47 at hp
  split at hp
  · rename_i q0e q0m q0g q0o q0f q0n q0s q11 q18 q1a q1b
    exact Eq.trans (Eq.trans (zpn q0e q0m q0g q0o q0f q0n q0s q11 q18 q1a q1b) (zoq (znz q0e q0m q0g q0o q0f q0n q0s q11 q18 q1a q1b) rfl q0e q0m q0g q0o q0f q0n q0s q11 q18 q1a q1b (fun c0_ => some c0_))) (fin_out (o := (znz q0e q0m q0g q0o q0f q0n q0s q11 q18 q1a q1b)) (x := zhn q0e q0m q0g q0o q0f q0n q0s q11 q18 q1a q1b) (d := default) (V := fun r => ((AV.v (TV.one (At.bool r))), [])) (fun r => rfl) hp)
  · cases hp)
noncomputable def z3i : List PT → Option (Bool × AV × List Blk)
  | [.one (.row 1 q1j (.fl .f32 q20))] => some ((zie q1j q20), ((AV.v (TV.one (At.bool (zgo q1j q20)))), []))
  | _ => none
def zkw (q1j : Nat) (q20 : List Nat) : Option (Bool) → Option (AV × List Blk)
  | some r => some ((AV.v (TV.one (At.bool r))), [])
  | none => none
theorem zov (q1j : Nat) (q20 : List Nat) : evFn Γ7 8 8 95 (impTs 0 [.one (.row 1 q1j (.fl .f32 q20))]).1 (impTs 0 [.one (.row 1 q1j (.fl .f32 q20))]).2 (expo (impTs 0 [.one (.row 1 q1j (.fl .f32 q20))]).2.length) = zc6 q1j q20 (fun c0_ => some ((AV.v (TV.one (At.bool c0_))), [])) := by kernel_rfl
theorem z35 : SumOne Try.prog 95 z3i := sum_of (Γ := Γ7) (fuel := 8) (d := 8) tyTab_ok (FnL.ok fnTab_ok _ _) (LpL.ok lt7_ok) (SumL.ok tb7_ok _) mixed (by
  intro pts v news hp hc
  clear hc
  unfold z3i at hp
  split at hp
  · rename_i q1j q20
    exact Eq.trans (Eq.trans (zov q1j q20) (zmw (zkw q1j q20) rfl q1j q20 (fun c0_ => some c0_))) (fin_out (o := (zkw q1j q20)) (x := zcg q1j q20) (d := default) (V := fun r => ((AV.v (TV.one (At.bool r))), [])) (fun r => rfl) hp)
  · cases hp)
noncomputable def z3p : List PT → Option (Bool × AV × List Blk)
  | [.one (.row 1 q1j (.fl .f32 q20))] => some ((ziu q1j q20), ((AV.v (TV.one (At.bool (zih q1j q20)))), []))
  | _ => none
def zl9 (q1j : Nat) (q20 : List Nat) : Option (Bool) → Option (AV × List Blk)
  | some r => some ((AV.v (TV.one (At.bool r))), [])
  | none => none
theorem zpf (q1j : Nat) (q20 : List Nat) : evFn Γ7 8 8 96 (impTs 0 [.one (.row 1 q1j (.fl .f32 q20))]).1 (impTs 0 [.one (.row 1 q1j (.fl .f32 q20))]).2 (expo (impTs 0 [.one (.row 1 q1j (.fl .f32 q20))]).2.length) = zcq q1j q20 (fun c0_ => some ((AV.v (TV.one (At.bool c0_))), [])) := by kernel_rfl
theorem z3c : SumOne Try.prog 96 z3p := sum_of (Γ := Γ7) (fuel := 8) (d := 8) tyTab_ok (FnL.ok fnTab_ok _ _) (LpL.ok lt7_ok) (SumL.ok tb7_ok _) mixed (by
  intro pts v news hp hc
  clear hc
  unfold z3p at hp
  split at hp
  · rename_i q1j q20
    exact Eq.trans (Eq.trans (zpf q1j q20) (znl (zl9 q1j q20) rfl q1j q20 (fun c0_ => some c0_))) (fin_out (o := (zl9 q1j q20)) (x := zcy q1j q20) (d := default) (V := fun r => ((AV.v (TV.one (At.bool r))), [])) (fun r => rfl) hp)
  · cases hp)
noncomputable def z31 : List PT → Option (Bool × AV × List Blk)
  | [.one (.row 1 q1j (.fl .f32 q20))] => some ((zco q1j q20), ((AV.v (TV.one (At.bool (zc5 q1j q20)))), []))
  | _ => none
def zjw (q1j : Nat) (q20 : List Nat) : Option (Bool) → Option (AV × List Blk)
  | some r => some ((AV.v (TV.one (At.bool r))), [])
  | none => none
theorem zo0 (q1j : Nat) (q20 : List Nat) : evFn Γ7 8 8 112 (impTs 0 [.one (.row 1 q1j (.fl .f32 q20))]).1 (impTs 0 [.one (.row 1 q1j (.fl .f32 q20))]).2 (expo (impTs 0 [.one (.row 1 q1j (.fl .f32 q20))]).2.length) = za9 q1j q20 (fun c0_ => some ((AV.v (TV.one (At.bool c0_))), [])) := by kernel_rfl
theorem z2a : SumOne Try.prog 112 z31 := sum_of (Γ := Γ7) (fuel := 8) (d := 8) tyTab_ok (FnL.ok fnTab_ok _ _) (LpL.ok lt7_ok) (SumL.ok tb7_ok _) mixed (by
  intro pts v news hp hc
  clear hc
  unfold z31 at hp
  split at hp
  · rename_i q1j q20
    exact Eq.trans (Eq.trans (zo0 q1j q20) (zle (zjw q1j q20) rfl q1j q20 (fun c0_ => some c0_))) (fin_out (o := (zjw q1j q20)) (x := z94 q1j q20) (d := default) (V := fun r => ((AV.v (TV.one (At.bool r))), [])) (fun r => rfl) hp)
  · cases hp)
noncomputable def tb8 : List (Nat × (List PT → Option (Bool × AV × List Blk))) := [(125, z25), (128, z0q), (134, z1c), (137, z24), (18, z2e), (48, z1x), (54, z2x), (61, z2c), (63, z3s), (64, z3l), (66, z3k), (97, z2w), (104, z0m), (14, z2j), (67, z1q), (103, z32), (105, z2i), (111, z3d), (114, z33), (118, z1p), (122, z13), (52, z28), (72, z1g), (79, z1i), (119, z29), (16, z30), (36, z20), (57, z2g), (19, z37), (33, z36), (62, z41), (69, z2r), (99, z0d), (99, z08), (30, z3q), (99, z0h), (117, z0c), (117, z0f), (117, z05), (91, z47), (95, z3i), (96, z3p), (112, z31)]
noncomputable def lt8 : List ((Nat × Nat) × (Nat → St → Option (Bool × LO))) := [((52, 3), z18), ((72, 2), z0x), ((79, 2), z0v), ((57, 4), z1d), ((62, 5), z3f), ((69, 4), z1k), ((99, 2), z03), ((99, 2), z01), ((99, 2), z09), ((91, 6), z3o)]
noncomputable def Γ8 : Ctx := ⟨tyTab, fnTab, tblSum tb8, tblLp lt8⟩
theorem tb8_ok : SumL Try.prog tb8 := SumL.cons z1b (SumL.cons z0j (SumL.cons z0z (SumL.cons z1a (SumL.cons z1f (SumL.cons z17 (SumL.cons z1w (SumL.cons z1h (SumL.cons z39 (SumL.cons z2t (SumL.cons z2s (SumL.cons z1v (SumL.cons z0i (SumL.cons z1r (SumL.cons z15 (SumL.cons z22 (SumL.cons z1s (SumL.cons z2f (SumL.cons z21 (SumL.cons z14 (SumL.cons z0s (SumL.cons z1j (SumL.cons z11 (SumL.cons z12 (SumL.cons z1l (SumL.cons z23 (SumL.cons z1e (SumL.cons z1t (SumL.cons z2b (SumL.cons z2d (SumL.cons z3m (SumL.cons z1y (SumL.cons z0b (SumL.cons z06 (SumL.cons z3b (SumL.cons z0g (SumL.cons z0a (SumL.cons z0e (SumL.cons z04 (SumL.cons z3v (SumL.cons z35 (SumL.cons z3c (SumL.cons z2a (SumL.nil)))))))))))))))))))))))))))))))))))))))))))
theorem lt8_ok : LpL Try.prog fnTab lt8 := LpL.cons z0t (LpL.cons z0k (LpL.cons z0l (LpL.cons z0y (LpL.cons z2h (LpL.cons z10 (LpL.cons z02 (LpL.cons z00 (LpL.cons z07 (LpL.cons z38 (LpL.nil))))))))))
noncomputable def tb9 : List (Nat × (List PT → Option (Bool × AV × List Blk))) := [(125, z25), (128, z0q), (134, z1c), (137, z24), (18, z2e), (48, z1x), (54, z2x), (61, z2c), (63, z3s), (64, z3l), (66, z3k), (97, z2w), (104, z0m), (14, z2j), (67, z1q), (103, z32), (105, z2i), (111, z3d), (114, z33), (118, z1p), (122, z13), (52, z28), (72, z1g), (79, z1i), (119, z29), (16, z30), (36, z20), (57, z2g), (19, z37), (33, z36), (62, z41), (69, z2r), (99, z0d), (99, z08), (30, z3q), (99, z0h), (117, z0c), (117, z0f), (117, z05), (91, z47), (95, z3i), (96, z3p), (112, z31)]
noncomputable def lt9 : List ((Nat × Nat) × (Nat → St → Option (Bool × LO))) := [((52, 3), z18), ((72, 2), z0x), ((79, 2), z0v), ((57, 4), z1d), ((62, 5), z3f), ((69, 4), z1k), ((99, 2), z03), ((99, 2), z01), ((99, 2), z09), ((91, 6), z3o)]
noncomputable def Γ9 : Ctx := ⟨tyTab, fnTab, tblSum tb9, tblLp lt9⟩
theorem tb9_ok : SumL Try.prog tb9 := SumL.cons z1b (SumL.cons z0j (SumL.cons z0z (SumL.cons z1a (SumL.cons z1f (SumL.cons z17 (SumL.cons z1w (SumL.cons z1h (SumL.cons z39 (SumL.cons z2t (SumL.cons z2s (SumL.cons z1v (SumL.cons z0i (SumL.cons z1r (SumL.cons z15 (SumL.cons z22 (SumL.cons z1s (SumL.cons z2f (SumL.cons z21 (SumL.cons z14 (SumL.cons z0s (SumL.cons z1j (SumL.cons z11 (SumL.cons z12 (SumL.cons z1l (SumL.cons z23 (SumL.cons z1e (SumL.cons z1t (SumL.cons z2b (SumL.cons z2d (SumL.cons z3m (SumL.cons z1y (SumL.cons z0b (SumL.cons z06 (SumL.cons z3b (SumL.cons z0g (SumL.cons z0a (SumL.cons z0e (SumL.cons z04 (SumL.cons z3v (SumL.cons z35 (SumL.cons z3c (SumL.cons z2a (SumL.nil)))))))))))))))))))))))))))))))))))))))))))
theorem lt9_ok : LpL Try.prog fnTab lt9 := LpL.cons z0t (LpL.cons z0k (LpL.cons z0l (LpL.cons z0y (LpL.cons z2h (LpL.cons z10 (LpL.cons z02 (LpL.cons z00 (LpL.cons z07 (LpL.cons z38 (LpL.nil))))))))))
noncomputable def zjb (q2t : Nat) (t43 : Int) (t44 : Int) (b0 : List Nat) (b1 : List Nat) (b2 : List Nat) (q0i : Nat) (q0r : Nat) (q0q : Nat) : Bool × LO := ((z7n q2t t43 b0 q0i t44), (LO.two (z77 q2t t43 b0 q0i t44) (LO.one Ex.ret (St.mk [(2, (AV.v (TV.one (At.bool Bool.false))))] [(Blk.mk Bool.false (Body.fl FloatKind.f32 b0)), (Blk.mk Bool.false (Body.fl FloatKind.f32 b1)), (Blk.mk Bool.false (Body.fl FloatKind.f32 b2))])) (LO.one (Ex.exit 0) (St.mk [(1, (AV.v (TV.one (At.ptr 3 0 3)))), (42, (AV.v (TV.one (At.vw 0 0 q2t 1)))), (43, (AV.v (TV.one (At.int IntKind.i64 t43)))), (44, (AV.v (TV.one (At.int IntKind.i64 (zde q2t t43 b0 q0i t44))))), (45, (AV.v (TV.one (At.bool (zdf q2t t43 b0 q0i t44)))))] [(Blk.mk Bool.false (Body.fl FloatKind.f32 b0)), (Blk.mk Bool.false (Body.fl FloatKind.f32 b1)), (Blk.mk Bool.false (Body.fl FloatKind.f32 b2)), (Blk.mk Bool.true (Body.cells [(At.vw 0 0 q0i 1), (At.vw 1 0 q0r 1), (At.vw 2 0 q0q 1)]))]))))
noncomputable def z26 : Nat → St → Option (Bool × LO) := lpT 3 (pSt [(pTm 1 (pV (pOne (pPtr 3 (liN 0) 3)))), (pTm 42 (pV (pOne (pVw 0 (liN 0) 1)))), (pTm 43 (pV (pOne (pInt IntKind.i64)))), (pTm 44 (pV (pOne (pInt IntKind.i64))))] [(pBlk Bool.false (pFl FloatKind.f32)), (pBlk Bool.false (pFl FloatKind.f32)), (pBlk Bool.false (pFl FloatKind.f32)), (pBlk Bool.true (pCells [(pVw 0 (liN 0) 1), (pVw 1 (liN 0) 1), (pVw 2 (liN 0) 1)]))]) (fun hs => zjb (hvN (hGet hs 0)) (hvI (hGet hs 1)) (hvI (hGet hs 2)) (hvLn (hGet hs 3)) (hvLn (hGet hs 4)) (hvLn (hGet hs 5)) (hvN (hGet hs 6)) (hvN (hGet hs 7)) (hvN (hGet hs 8)))
def za0 (q2t : Nat) (t43 : Int) (b0 : List Nat) (b1 : List Nat) (b2 : List Nat) (q0i : Nat) (q0r : Nat) (q0q : Nat) : Option ((Unit) ⊕ (Int × Bool)) → Option (Ex × St)
  | none => none
  | some (Sum.inl r) => some (Ex.ret, (St.mk [(2, (AV.v (TV.one (At.bool Bool.false))))] [(Blk.mk Bool.false (Body.fl FloatKind.f32 b0)), (Blk.mk Bool.false (Body.fl FloatKind.f32 b1)), (Blk.mk Bool.false (Body.fl FloatKind.f32 b2))]))
  | some (Sum.inr r) => some ((Ex.exit 0), (St.mk [(1, (AV.v (TV.one (At.ptr 3 0 3)))), (42, (AV.v (TV.one (At.vw 0 0 q2t 1)))), (43, (AV.v (TV.one (At.int IntKind.i64 t43)))), (44, (AV.v (TV.one (At.int IntKind.i64 r.1)))), (45, (AV.v (TV.one (At.bool r.2))))] [(Blk.mk Bool.false (Body.fl FloatKind.f32 b0)), (Blk.mk Bool.false (Body.fl FloatKind.f32 b1)), (Blk.mk Bool.false (Body.fl FloatKind.f32 b2)), (Blk.mk Bool.true (Body.cells [(At.vw 0 0 q0i 1), (At.vw 1 0 q0r 1), (At.vw 2 0 q0q 1)]))]))
def zl3 (q2t : Nat) (t43 : Int) (b0 : List Nat) (b1 : List Nat) (b2 : List Nat) (q0i : Nat) (q0r : Nat) (q0q : Nat) (x : Option ((Unit) ⊕ (Int × Bool))) : LO := (LO.two (oL x) (LO.one Ex.ret (St.mk [(2, (AV.v (TV.one (At.bool Bool.false))))] [(Blk.mk Bool.false (Body.fl FloatKind.f32 b0)), (Blk.mk Bool.false (Body.fl FloatKind.f32 b1)), (Blk.mk Bool.false (Body.fl FloatKind.f32 b2))])) (LO.one (Ex.exit 0) (St.mk [(1, (AV.v (TV.one (At.ptr 3 0 3)))), (42, (AV.v (TV.one (At.vw 0 0 q2t 1)))), (43, (AV.v (TV.one (At.int IntKind.i64 t43)))), (44, (AV.v (TV.one (At.int IntKind.i64 ((tR x).getD default).1)))), (45, (AV.v (TV.one (At.bool ((tR x).getD default).2))))] [(Blk.mk Bool.false (Body.fl FloatKind.f32 b0)), (Blk.mk Bool.false (Body.fl FloatKind.f32 b1)), (Blk.mk Bool.false (Body.fl FloatKind.f32 b2)), (Blk.mk Bool.true (Body.cells [(At.vw 0 0 q0i 1), (At.vw 1 0 q0r 1), (At.vw 2 0 q0q 1)]))])))
theorem zlg (q2t : Nat) (t43 : Int) (b0 : List Nat) (b1 : List Nat) (b2 : List Nat) (q0i : Nat) (q0r : Nat) (q0q : Nat) : ∀ x : Option ((Unit) ⊕ (Int × Bool)), x.isSome = true → (za0 q2t t43 b0 b1 b2 q0i q0r q0q) x = some (pick (zl3 q2t t43 b0 b1 b2 q0i q0r q0q x))
  | none, h => by cases h
  | some (Sum.inl r), _ => rfl
  | some (Sum.inr r), _ => rfl
theorem zli (q2t : Nat) (t43 : Int) (t44 : Int) (b0 : List Nat) (b1 : List Nat) (b2 : List Nat) (q0i : Nat) (q0r : Nat) (q0q : Nat) (K : Ex → St → Option (Ex × St)) : evC (R := Ex × St) Γ9 (evFn Γ9 8 8) 53 3 fi53.nt fi53.live fi53.nl 8 (findL 5 (loopsIn fi53.code)) (St.mk [(1, (AV.v (TV.one (At.ptr 3 0 3)))), (42, (AV.v (TV.one (At.vw 0 0 q2t 1)))), (43, (AV.v (TV.one (At.int IntKind.i64 t43)))), (44, (AV.v (TV.one (At.int IntKind.i64 t44))))] [(Blk.mk Bool.false (Body.fl FloatKind.f32 b0)), (Blk.mk Bool.false (Body.fl FloatKind.f32 b1)), (Blk.mk Bool.false (Body.fl FloatKind.f32 b2)), (Blk.mk Bool.true (Body.cells [(At.vw 0 0 q0i 1), (At.vw 1 0 q0r 1), (At.vw 2 0 q0q 1)]))]) K = z5v q2t t43 b0 q0i t44 (fun t44' => K .normal (St.mk [(1, (AV.v (TV.one (At.ptr 3 0 3)))), (42, (AV.v (TV.one (At.vw 0 0 q2t 1)))), (43, (AV.v (TV.one (At.int IntKind.i64 t43)))), (44, (AV.v (TV.one (At.int IntKind.i64 t44'))))] [(Blk.mk Bool.false (Body.fl FloatKind.f32 b0)), (Blk.mk Bool.false (Body.fl FloatKind.f32 b1)), (Blk.mk Bool.false (Body.fl FloatKind.f32 b2)), (Blk.mk Bool.true (Body.cells [(At.vw 0 0 q0i 1), (At.vw 1 0 q0r 1), (At.vw 2 0 q0q 1)]))])) (fun _ => K Ex.ret (St.mk [(2, (AV.v (TV.one (At.bool Bool.false))))] [(Blk.mk Bool.false (Body.fl FloatKind.f32 b0)), (Blk.mk Bool.false (Body.fl FloatKind.f32 b1)), (Blk.mk Bool.false (Body.fl FloatKind.f32 b2))])) (fun c0_ c1_ => K (Ex.exit 0) (St.mk [(1, (AV.v (TV.one (At.ptr 3 0 3)))), (42, (AV.v (TV.one (At.vw 0 0 q2t 1)))), (43, (AV.v (TV.one (At.int IntKind.i64 t43)))), (44, (AV.v (TV.one (At.int IntKind.i64 c0_)))), (45, (AV.v (TV.one (At.bool c1_))))] [(Blk.mk Bool.false (Body.fl FloatKind.f32 b0)), (Blk.mk Bool.false (Body.fl FloatKind.f32 b1)), (Blk.mk Bool.false (Body.fl FloatKind.f32 b2)), (Blk.mk Bool.true (Body.cells [(At.vw 0 0 q0i 1), (At.vw 1 0 q0r 1), (At.vw 2 0 q0q 1)]))])) := by kernel_rfl
theorem zlh (q2t : Nat) (t43 : Int) (b0 : List Nat) (b1 : List Nat) (b2 : List Nat) (q0i : Nat) (q0r : Nat) (q0q : Nat) : ∀ (n : Nat) (t44 : Int), iter 53 5 3 (evC (R := Ex × St) Γ9 (evFn Γ9 8 8) 53 3 fi53.nt fi53.live fi53.nl 8 (findL 5 (loopsIn fi53.code))) n (St.mk [(1, (AV.v (TV.one (At.ptr 3 0 3)))), (42, (AV.v (TV.one (At.vw 0 0 q2t 1)))), (43, (AV.v (TV.one (At.int IntKind.i64 t43)))), (44, (AV.v (TV.one (At.int IntKind.i64 t44))))] [(Blk.mk Bool.false (Body.fl FloatKind.f32 b0)), (Blk.mk Bool.false (Body.fl FloatKind.f32 b1)), (Blk.mk Bool.false (Body.fl FloatKind.f32 b2)), (Blk.mk Bool.true (Body.cells [(At.vw 0 0 q0i 1), (At.vw 1 0 q0r 1), (At.vw 2 0 q0q 1)]))]) (fun e st => some (e, st)) = (za0 q2t t43 b0 b1 b2 q0i q0r q0q) (z4q q2t t43 b0 q0i n t44) := by
  intro n
  induction n with
  | zero => intros; rfl
  | succ n ih =>
    intro t44
    refine Eq.trans (iter_succ ..) (Eq.trans (zli q2t t43 t44 b0 b1 b2 q0i q0r q0q (nextK 53 5 3 (evC (R := Ex × St) Γ9 (evFn Γ9 8 8) 53 3 fi53.nt fi53.live fi53.nl 8 (findL 5 (loopsIn fi53.code))) n (fun e st => some (e, st)))) (Eq.trans ?_ (zk0 (za0 q2t t43 b0 b1 b2 q0i q0r q0q) rfl q2t t43 b0 q0i t44 (fun t44' => z4q q2t t43 b0 q0i n t44') (fun _ => some (Sum.inl ())) (fun c0_ c1_ => some (Sum.inr (c0_, c1_))))))
    exact congrArg (fun kn_ => z5v q2t t43 b0 q0i t44 kn_ (fun _ => (za0 q2t t43 b0 b1 b2 q0i q0r q0q) (some (Sum.inl ()))) (fun c0_ c1_ => (za0 q2t t43 b0 b1 b2 q0i q0r q0q) (some (Sum.inr (c0_, c1_))))) (funext fun t44' => ih t44')
theorem z1m : LoopOne Try.prog fnTab 53 5 z26 := lp_of (Γ := Γ9) tyTab_ok (FnL.ok fnTab_ok _ _) (LpL.ok lt9_ok) (SumL.ok tb9_ok _) mixed (fi := fi53) (by kernel_rfl) (by kernel_rfl) (by
  intro lo st out hp
  obtain ⟨hs, e1, e2, e3⟩ := lpT_inv hp
  clear hp
  obtain rfl : st = (St.mk [(1, (AV.v (TV.one (At.ptr 3 0 3)))), (42, (AV.v (TV.one (At.vw 0 0 (hvN (hGet hs 0)) 1)))), (43, (AV.v (TV.one (At.int IntKind.i64 (hvI (hGet hs 1)))))), (44, (AV.v (TV.one (At.int IntKind.i64 (hvI (hGet hs 2))))))] [(Blk.mk Bool.false (Body.fl FloatKind.f32 (hvLn (hGet hs 3)))), (Blk.mk Bool.false (Body.fl FloatKind.f32 (hvLn (hGet hs 4)))), (Blk.mk Bool.false (Body.fl FloatKind.f32 (hvLn (hGet hs 5)))), (Blk.mk Bool.true (Body.cells [(At.vw 0 0 (hvN (hGet hs 6)) 1), (At.vw 1 0 (hvN (hGet hs 7)) 1), (At.vw 2 0 (hvN (hGet hs 8)) 1)]))]) := e2.trans (by kernel_rfl)
  clear e2
  subst e1
  unfold zjb at e3
  injection e3 with h1 h2
  subst h2
  exact ⟨8, 8, big, Eq.trans (zlh (hvN (hGet hs 0)) (hvI (hGet hs 1)) (hvLn (hGet hs 3)) (hvLn (hGet hs 4)) (hvLn (hGet hs 5)) (hvN (hGet hs 6)) (hvN (hGet hs 7)) (hvN (hGet hs 8)) big (hvI (hGet hs 2))) (zlg (hvN (hGet hs 0)) (hvI (hGet hs 1)) (hvLn (hGet hs 3)) (hvLn (hGet hs 4)) (hvLn (hGet hs 5)) (hvN (hGet hs 6)) (hvN (hGet hs 7)) (hvN (hGet hs 8)) (z4q (hvN (hGet hs 0)) (hvI (hGet hs 1)) (hvLn (hGet hs 3)) (hvN (hGet hs 6)) big (hvI (hGet hs 2))) h1)⟩)
noncomputable def tb10 : List (Nat × (List PT → Option (Bool × AV × List Blk))) := [(125, z25), (128, z0q), (134, z1c), (137, z24), (18, z2e), (48, z1x), (54, z2x), (61, z2c), (63, z3s), (64, z3l), (66, z3k), (97, z2w), (104, z0m), (14, z2j), (67, z1q), (103, z32), (105, z2i), (111, z3d), (114, z33), (118, z1p), (122, z13), (52, z28), (72, z1g), (79, z1i), (119, z29), (16, z30), (36, z20), (57, z2g), (19, z37), (33, z36), (62, z41), (69, z2r), (99, z0d), (99, z08), (30, z3q), (99, z0h), (117, z0c), (117, z0f), (117, z05), (91, z47), (95, z3i), (96, z3p), (112, z31)]
noncomputable def lt10 : List ((Nat × Nat) × (Nat → St → Option (Bool × LO))) := [((52, 3), z18), ((72, 2), z0x), ((79, 2), z0v), ((57, 4), z1d), ((62, 5), z3f), ((69, 4), z1k), ((99, 2), z03), ((99, 2), z01), ((99, 2), z09), ((91, 6), z3o), ((53, 5), z26)]
noncomputable def Γ10 : Ctx := ⟨tyTab, fnTab, tblSum tb10, tblLp lt10⟩
theorem tb10_ok : SumL Try.prog tb10 := SumL.cons z1b (SumL.cons z0j (SumL.cons z0z (SumL.cons z1a (SumL.cons z1f (SumL.cons z17 (SumL.cons z1w (SumL.cons z1h (SumL.cons z39 (SumL.cons z2t (SumL.cons z2s (SumL.cons z1v (SumL.cons z0i (SumL.cons z1r (SumL.cons z15 (SumL.cons z22 (SumL.cons z1s (SumL.cons z2f (SumL.cons z21 (SumL.cons z14 (SumL.cons z0s (SumL.cons z1j (SumL.cons z11 (SumL.cons z12 (SumL.cons z1l (SumL.cons z23 (SumL.cons z1e (SumL.cons z1t (SumL.cons z2b (SumL.cons z2d (SumL.cons z3m (SumL.cons z1y (SumL.cons z0b (SumL.cons z06 (SumL.cons z3b (SumL.cons z0g (SumL.cons z0a (SumL.cons z0e (SumL.cons z04 (SumL.cons z3v (SumL.cons z35 (SumL.cons z3c (SumL.cons z2a (SumL.nil)))))))))))))))))))))))))))))))))))))))))))
theorem lt10_ok : LpL Try.prog fnTab lt10 := LpL.cons z0t (LpL.cons z0k (LpL.cons z0l (LpL.cons z0y (LpL.cons z2h (LpL.cons z10 (LpL.cons z02 (LpL.cons z00 (LpL.cons z07 (LpL.cons z38 (LpL.cons z1m (LpL.nil)))))))))))
noncomputable def z3a : List PT → Option (Bool × AV × List Blk)
  | [.agg [.row 1 q00 (.fl .f32 q03), .row 1 q02 (.fl .f32 q04), .row 1 q01 (.fl .f32 q05)]] => some ((ze3 q00 q03 q02 q04 q01 q05), ((AV.v (TV.one (At.bool (zd9 q00 q03 q02 q04 q01 q05)))), []))
  | _ => none
def zjt (q00 : Nat) (q03 : List Nat) (q02 : Nat) (q04 : List Nat) (q01 : Nat) (q05 : List Nat) : Option (Bool) → Option (AV × List Blk)
  | some r => some ((AV.v (TV.one (At.bool r))), [])
  | none => none
theorem zn7 (q00 : Nat) (q03 : List Nat) (q02 : Nat) (q04 : List Nat) (q01 : Nat) (q05 : List Nat) : evFn Γ10 8 8 53 (impTs 0 [.agg [.row 1 q00 (.fl .f32 q03), .row 1 q02 (.fl .f32 q04), .row 1 q01 (.fl .f32 q05)]]).1 (impTs 0 [.agg [.row 1 q00 (.fl .f32 q03), .row 1 q02 (.fl .f32 q04), .row 1 q01 (.fl .f32 q05)]]).2 (expo (impTs 0 [.agg [.row 1 q00 (.fl .f32 q03), .row 1 q02 (.fl .f32 q04), .row 1 q01 (.fl .f32 q05)]]).2.length) = z9m q00 q03 q02 q04 q01 q05 (fun c0_ => some ((AV.v (TV.one (At.bool c0_))), [])) := by kernel_rfl
theorem z2v : SumOne Try.prog 53 z3a := sum_of (Γ := Γ10) (fuel := 8) (d := 8) tyTab_ok (FnL.ok fnTab_ok _ _) (LpL.ok lt10_ok) (SumL.ok tb10_ok _) mixed (by
  intro pts v news hp hc
  clear hc
  unfold z3a at hp
  split at hp
  · rename_i q00 q03 q02 q04 q01 q05
    exact Eq.trans (Eq.trans (zn7 q00 q03 q02 q04 q01 q05) (zl6 (zjt q00 q03 q02 q04 q01 q05) rfl q00 q03 q02 q04 q01 q05 (fun c0_ => some c0_))) (fin_out (o := (zjt q00 q03 q02 q04 q01 q05)) (x := z9q q00 q03 q02 q04 q01 q05) (d := default) (V := fun r => ((AV.v (TV.one (At.bool r))), [])) (fun r => rfl) hp)
  · cases hp)
noncomputable def zjl (q0a : Int) (hub : Nat) (tip : Nat) (q0k : Nat) (q0l : Nat) (k : Int) (b0 : List Nat) (b1 : List Nat) (b2 : List Nat) (q0i : Nat) (q0r : Nat) (q0q : Nat) (q35 : Nat) (q39 : Int) (q38 : Nat) (q3d : Nat) (b4 : List Nat) (b5 : List Nat) (b6 : List Nat) (b7 : List Nat) (q32 : Nat) (q33 : Nat) (q34 : Nat) (q1k : Nat) (q3a : Int) (q3b : Nat) (q3c : Nat) (b9 : List Nat) (b10 : List Nat) (b11 : List Nat) (b12 : List Nat) : Bool × LO := ((ze0 q0a hub tip q0k q0l k q1k b12), (LO.one (Ex.exit 0) (St.mk [(2, (AV.v (TV.one (At.int IntKind.i64 q0a)))), (3, (AV.v (TV.one (At.flt FloatKind.f32 hub)))), (4, (AV.v (TV.one (At.flt FloatKind.f32 tip)))), (5, (AV.v (TV.one (At.flt FloatKind.f32 q0k)))), (6, (AV.v (TV.one (At.flt FloatKind.f32 q0l)))), (14, (AV.v (TV.one (At.ptr 3 0 7)))), (16, (AV.v (TV.one (At.ptr 8 0 7)))), (17, (AV.v (TV.one (At.int IntKind.i64 (zfs q0a hub tip q0k q0l k q1k b12))))), (34, (AV.v (TV.one (At.bool (zfg q0a hub tip q0k q0l k q1k b12)))))] [(Blk.mk Bool.false (Body.fl FloatKind.f32 b0)), (Blk.mk Bool.false (Body.fl FloatKind.f32 b1)), (Blk.mk Bool.false (Body.fl FloatKind.f32 b2)), (Blk.mk Bool.true (Body.cells [(At.sl 4 0 q0i 3), (At.sl 5 0 q0r 3), (At.sl 6 0 q0q 3), (At.sl 7 0 q35 3), (At.int IntKind.i64 q39), (At.flt FloatKind.f32 q38), (At.flt FloatKind.f32 q3d)])), (Blk.mk Bool.true (Body.fl FloatKind.f32 b4)), (Blk.mk Bool.true (Body.fl FloatKind.f32 b5)), (Blk.mk Bool.true (Body.fl FloatKind.f32 b6)), (Blk.mk Bool.true (Body.fl FloatKind.f32 b7)), (Blk.mk Bool.true (Body.cells [(At.sl 9 0 q32 1), (At.sl 10 0 q33 1), (At.sl 11 0 q34 1), (At.sl 12 0 (z6w q0a hub tip q0k q0l k q1k b12) 3), (At.int IntKind.i64 q3a), (At.flt FloatKind.f32 q3b), (At.flt FloatKind.f32 q3c)])), (Blk.mk Bool.true (Body.fl FloatKind.f32 b9)), (Blk.mk Bool.true (Body.fl FloatKind.f32 b10)), (Blk.mk Bool.true (Body.fl FloatKind.f32 b11)), (Blk.mk Bool.true (Body.fl FloatKind.f32 (z8j q0a hub tip q0k q0l k q1k b12)))])))
noncomputable def z3e : Nat → St → Option (Bool × LO) := lpT 3 (pSt [(pTm 2 (pV (pOne (pInt IntKind.i64)))), (pTm 3 (pV (pOne (pFlt FloatKind.f32)))), (pTm 4 (pV (pOne (pFlt FloatKind.f32)))), (pTm 5 (pV (pOne (pFlt FloatKind.f32)))), (pTm 6 (pV (pOne (pFlt FloatKind.f32)))), (pTm 14 (pV (pOne (pPtr 3 (liN 0) 7)))), (pTm 16 (pV (pOne (pPtr 8 (liN 0) 7)))), (pTm 17 (pV (pOne (pInt IntKind.i64))))] [(pBlk Bool.false (pFl FloatKind.f32)), (pBlk Bool.false (pFl FloatKind.f32)), (pBlk Bool.false (pFl FloatKind.f32)), (pBlk Bool.true (pCells [(pSl 4 (liN 0) 3), (pSl 5 (liN 0) 3), (pSl 6 (liN 0) 3), (pSl 7 (liN 0) 3), (pInt IntKind.i64), (pFlt FloatKind.f32), (pFlt FloatKind.f32)])), (pBlk Bool.true (pFl FloatKind.f32)), (pBlk Bool.true (pFl FloatKind.f32)), (pBlk Bool.true (pFl FloatKind.f32)), (pBlk Bool.true (pFl FloatKind.f32)), (pBlk Bool.true (pCells [(pSl 9 (liN 0) 1), (pSl 10 (liN 0) 1), (pSl 11 (liN 0) 1), (pSl 12 (liN 0) 3), (pInt IntKind.i64), (pFlt FloatKind.f32), (pFlt FloatKind.f32)])), (pBlk Bool.true (pFl FloatKind.f32)), (pBlk Bool.true (pFl FloatKind.f32)), (pBlk Bool.true (pFl FloatKind.f32)), (pBlk Bool.true (pFl FloatKind.f32))]) (fun hs => zjl (hvI (hGet hs 0)) (hvN (hGet hs 1)) (hvN (hGet hs 2)) (hvN (hGet hs 3)) (hvN (hGet hs 4)) (hvI (hGet hs 5)) (hvLn (hGet hs 6)) (hvLn (hGet hs 7)) (hvLn (hGet hs 8)) (hvN (hGet hs 9)) (hvN (hGet hs 10)) (hvN (hGet hs 11)) (hvN (hGet hs 12)) (hvI (hGet hs 13)) (hvN (hGet hs 14)) (hvN (hGet hs 15)) (hvLn (hGet hs 16)) (hvLn (hGet hs 17)) (hvLn (hGet hs 18)) (hvLn (hGet hs 19)) (hvN (hGet hs 20)) (hvN (hGet hs 21)) (hvN (hGet hs 22)) (hvN (hGet hs 23)) (hvI (hGet hs 24)) (hvN (hGet hs 25)) (hvN (hGet hs 26)) (hvLn (hGet hs 27)) (hvLn (hGet hs 28)) (hvLn (hGet hs 29)) (hvLn (hGet hs 30)))
def zdz (q0a : Int) (hub : Nat) (tip : Nat) (q0k : Nat) (q0l : Nat) (b0 : List Nat) (b1 : List Nat) (b2 : List Nat) (q0i : Nat) (q0r : Nat) (q0q : Nat) (q35 : Nat) (q39 : Int) (q38 : Nat) (q3d : Nat) (b4 : List Nat) (b5 : List Nat) (b6 : List Nat) (b7 : List Nat) (q32 : Nat) (q33 : Nat) (q34 : Nat) (q3a : Int) (q3b : Nat) (q3c : Nat) (b9 : List Nat) (b10 : List Nat) (b11 : List Nat) : Option ((Int × Bool × Nat × (List Nat))) → Option (Ex × St)
  | none => none
  | some r => some ((Ex.exit 0), (St.mk [(2, (AV.v (TV.one (At.int IntKind.i64 q0a)))), (3, (AV.v (TV.one (At.flt FloatKind.f32 hub)))), (4, (AV.v (TV.one (At.flt FloatKind.f32 tip)))), (5, (AV.v (TV.one (At.flt FloatKind.f32 q0k)))), (6, (AV.v (TV.one (At.flt FloatKind.f32 q0l)))), (14, (AV.v (TV.one (At.ptr 3 0 7)))), (16, (AV.v (TV.one (At.ptr 8 0 7)))), (17, (AV.v (TV.one (At.int IntKind.i64 r.1)))), (34, (AV.v (TV.one (At.bool r.2.1))))] [(Blk.mk Bool.false (Body.fl FloatKind.f32 b0)), (Blk.mk Bool.false (Body.fl FloatKind.f32 b1)), (Blk.mk Bool.false (Body.fl FloatKind.f32 b2)), (Blk.mk Bool.true (Body.cells [(At.sl 4 0 q0i 3), (At.sl 5 0 q0r 3), (At.sl 6 0 q0q 3), (At.sl 7 0 q35 3), (At.int IntKind.i64 q39), (At.flt FloatKind.f32 q38), (At.flt FloatKind.f32 q3d)])), (Blk.mk Bool.true (Body.fl FloatKind.f32 b4)), (Blk.mk Bool.true (Body.fl FloatKind.f32 b5)), (Blk.mk Bool.true (Body.fl FloatKind.f32 b6)), (Blk.mk Bool.true (Body.fl FloatKind.f32 b7)), (Blk.mk Bool.true (Body.cells [(At.sl 9 0 q32 1), (At.sl 10 0 q33 1), (At.sl 11 0 q34 1), (At.sl 12 0 r.2.2.1 3), (At.int IntKind.i64 q3a), (At.flt FloatKind.f32 q3b), (At.flt FloatKind.f32 q3c)])), (Blk.mk Bool.true (Body.fl FloatKind.f32 b9)), (Blk.mk Bool.true (Body.fl FloatKind.f32 b10)), (Blk.mk Bool.true (Body.fl FloatKind.f32 b11)), (Blk.mk Bool.true (Body.fl FloatKind.f32 r.2.2.2))]))
def zn0 (q0a : Int) (hub : Nat) (tip : Nat) (q0k : Nat) (q0l : Nat) (b0 : List Nat) (b1 : List Nat) (b2 : List Nat) (q0i : Nat) (q0r : Nat) (q0q : Nat) (q35 : Nat) (q39 : Int) (q38 : Nat) (q3d : Nat) (b4 : List Nat) (b5 : List Nat) (b6 : List Nat) (b7 : List Nat) (q32 : Nat) (q33 : Nat) (q34 : Nat) (q3a : Int) (q3b : Nat) (q3c : Nat) (b9 : List Nat) (b10 : List Nat) (b11 : List Nat) (x : Option ((Int × Bool × Nat × (List Nat)))) : LO := (LO.one (Ex.exit 0) (St.mk [(2, (AV.v (TV.one (At.int IntKind.i64 q0a)))), (3, (AV.v (TV.one (At.flt FloatKind.f32 hub)))), (4, (AV.v (TV.one (At.flt FloatKind.f32 tip)))), (5, (AV.v (TV.one (At.flt FloatKind.f32 q0k)))), (6, (AV.v (TV.one (At.flt FloatKind.f32 q0l)))), (14, (AV.v (TV.one (At.ptr 3 0 7)))), (16, (AV.v (TV.one (At.ptr 8 0 7)))), (17, (AV.v (TV.one (At.int IntKind.i64 (x.getD default).1)))), (34, (AV.v (TV.one (At.bool (x.getD default).2.1))))] [(Blk.mk Bool.false (Body.fl FloatKind.f32 b0)), (Blk.mk Bool.false (Body.fl FloatKind.f32 b1)), (Blk.mk Bool.false (Body.fl FloatKind.f32 b2)), (Blk.mk Bool.true (Body.cells [(At.sl 4 0 q0i 3), (At.sl 5 0 q0r 3), (At.sl 6 0 q0q 3), (At.sl 7 0 q35 3), (At.int IntKind.i64 q39), (At.flt FloatKind.f32 q38), (At.flt FloatKind.f32 q3d)])), (Blk.mk Bool.true (Body.fl FloatKind.f32 b4)), (Blk.mk Bool.true (Body.fl FloatKind.f32 b5)), (Blk.mk Bool.true (Body.fl FloatKind.f32 b6)), (Blk.mk Bool.true (Body.fl FloatKind.f32 b7)), (Blk.mk Bool.true (Body.cells [(At.sl 9 0 q32 1), (At.sl 10 0 q33 1), (At.sl 11 0 q34 1), (At.sl 12 0 (x.getD default).2.2.1 3), (At.int IntKind.i64 q3a), (At.flt FloatKind.f32 q3b), (At.flt FloatKind.f32 q3c)])), (Blk.mk Bool.true (Body.fl FloatKind.f32 b9)), (Blk.mk Bool.true (Body.fl FloatKind.f32 b10)), (Blk.mk Bool.true (Body.fl FloatKind.f32 b11)), (Blk.mk Bool.true (Body.fl FloatKind.f32 (x.getD default).2.2.2))]))
theorem znb (q0a : Int) (hub : Nat) (tip : Nat) (q0k : Nat) (q0l : Nat) (b0 : List Nat) (b1 : List Nat) (b2 : List Nat) (q0i : Nat) (q0r : Nat) (q0q : Nat) (q35 : Nat) (q39 : Int) (q38 : Nat) (q3d : Nat) (b4 : List Nat) (b5 : List Nat) (b6 : List Nat) (b7 : List Nat) (q32 : Nat) (q33 : Nat) (q34 : Nat) (q3a : Int) (q3b : Nat) (q3c : Nat) (b9 : List Nat) (b10 : List Nat) (b11 : List Nat) : ∀ x : Option ((Int × Bool × Nat × (List Nat))), x.isSome = true → (zdz q0a hub tip q0k q0l b0 b1 b2 q0i q0r q0q q35 q39 q38 q3d b4 b5 b6 b7 q32 q33 q34 q3a q3b q3c b9 b10 b11) x = some (pick (zn0 q0a hub tip q0k q0l b0 b1 b2 q0i q0r q0q q35 q39 q38 q3d b4 b5 b6 b7 q32 q33 q34 q3a q3b q3c b9 b10 b11 x))
  | none, h => by cases h
  | some r, _ => rfl
theorem znn (q0a : Int) (hub : Nat) (tip : Nat) (q0k : Nat) (q0l : Nat) (k : Int) (b0 : List Nat) (b1 : List Nat) (b2 : List Nat) (q0i : Nat) (q0r : Nat) (q0q : Nat) (q35 : Nat) (q39 : Int) (q38 : Nat) (q3d : Nat) (b4 : List Nat) (b5 : List Nat) (b6 : List Nat) (b7 : List Nat) (q32 : Nat) (q33 : Nat) (q34 : Nat) (q1k : Nat) (q3a : Int) (q3b : Nat) (q3c : Nat) (b9 : List Nat) (b10 : List Nat) (b11 : List Nat) (b12 : List Nat) (K : Ex → St → Option (Ex × St)) : evC (R := Ex × St) Γ10 (evFn Γ10 8 8) 28 3 fi28.nt fi28.live fi28.nl 8 (findL 5 (loopsIn fi28.code)) (St.mk [(2, (AV.v (TV.one (At.int IntKind.i64 q0a)))), (3, (AV.v (TV.one (At.flt FloatKind.f32 hub)))), (4, (AV.v (TV.one (At.flt FloatKind.f32 tip)))), (5, (AV.v (TV.one (At.flt FloatKind.f32 q0k)))), (6, (AV.v (TV.one (At.flt FloatKind.f32 q0l)))), (14, (AV.v (TV.one (At.ptr 3 0 7)))), (16, (AV.v (TV.one (At.ptr 8 0 7)))), (17, (AV.v (TV.one (At.int IntKind.i64 k))))] [(Blk.mk Bool.false (Body.fl FloatKind.f32 b0)), (Blk.mk Bool.false (Body.fl FloatKind.f32 b1)), (Blk.mk Bool.false (Body.fl FloatKind.f32 b2)), (Blk.mk Bool.true (Body.cells [(At.sl 4 0 q0i 3), (At.sl 5 0 q0r 3), (At.sl 6 0 q0q 3), (At.sl 7 0 q35 3), (At.int IntKind.i64 q39), (At.flt FloatKind.f32 q38), (At.flt FloatKind.f32 q3d)])), (Blk.mk Bool.true (Body.fl FloatKind.f32 b4)), (Blk.mk Bool.true (Body.fl FloatKind.f32 b5)), (Blk.mk Bool.true (Body.fl FloatKind.f32 b6)), (Blk.mk Bool.true (Body.fl FloatKind.f32 b7)), (Blk.mk Bool.true (Body.cells [(At.sl 9 0 q32 1), (At.sl 10 0 q33 1), (At.sl 11 0 q34 1), (At.sl 12 0 q1k 3), (At.int IntKind.i64 q3a), (At.flt FloatKind.f32 q3b), (At.flt FloatKind.f32 q3c)])), (Blk.mk Bool.true (Body.fl FloatKind.f32 b9)), (Blk.mk Bool.true (Body.fl FloatKind.f32 b10)), (Blk.mk Bool.true (Body.fl FloatKind.f32 b11)), (Blk.mk Bool.true (Body.fl FloatKind.f32 b12))]) K = z72 q0a hub tip q0k q0l k q1k b12 (fun k' q1k' b12' => K .normal (St.mk [(2, (AV.v (TV.one (At.int IntKind.i64 q0a)))), (3, (AV.v (TV.one (At.flt FloatKind.f32 hub)))), (4, (AV.v (TV.one (At.flt FloatKind.f32 tip)))), (5, (AV.v (TV.one (At.flt FloatKind.f32 q0k)))), (6, (AV.v (TV.one (At.flt FloatKind.f32 q0l)))), (14, (AV.v (TV.one (At.ptr 3 0 7)))), (16, (AV.v (TV.one (At.ptr 8 0 7)))), (17, (AV.v (TV.one (At.int IntKind.i64 k'))))] [(Blk.mk Bool.false (Body.fl FloatKind.f32 b0)), (Blk.mk Bool.false (Body.fl FloatKind.f32 b1)), (Blk.mk Bool.false (Body.fl FloatKind.f32 b2)), (Blk.mk Bool.true (Body.cells [(At.sl 4 0 q0i 3), (At.sl 5 0 q0r 3), (At.sl 6 0 q0q 3), (At.sl 7 0 q35 3), (At.int IntKind.i64 q39), (At.flt FloatKind.f32 q38), (At.flt FloatKind.f32 q3d)])), (Blk.mk Bool.true (Body.fl FloatKind.f32 b4)), (Blk.mk Bool.true (Body.fl FloatKind.f32 b5)), (Blk.mk Bool.true (Body.fl FloatKind.f32 b6)), (Blk.mk Bool.true (Body.fl FloatKind.f32 b7)), (Blk.mk Bool.true (Body.cells [(At.sl 9 0 q32 1), (At.sl 10 0 q33 1), (At.sl 11 0 q34 1), (At.sl 12 0 q1k' 3), (At.int IntKind.i64 q3a), (At.flt FloatKind.f32 q3b), (At.flt FloatKind.f32 q3c)])), (Blk.mk Bool.true (Body.fl FloatKind.f32 b9)), (Blk.mk Bool.true (Body.fl FloatKind.f32 b10)), (Blk.mk Bool.true (Body.fl FloatKind.f32 b11)), (Blk.mk Bool.true (Body.fl FloatKind.f32 b12'))])) (fun c0_ c1_ c2_ c3_ => K (Ex.exit 0) (St.mk [(2, (AV.v (TV.one (At.int IntKind.i64 q0a)))), (3, (AV.v (TV.one (At.flt FloatKind.f32 hub)))), (4, (AV.v (TV.one (At.flt FloatKind.f32 tip)))), (5, (AV.v (TV.one (At.flt FloatKind.f32 q0k)))), (6, (AV.v (TV.one (At.flt FloatKind.f32 q0l)))), (14, (AV.v (TV.one (At.ptr 3 0 7)))), (16, (AV.v (TV.one (At.ptr 8 0 7)))), (17, (AV.v (TV.one (At.int IntKind.i64 c0_)))), (34, (AV.v (TV.one (At.bool c1_))))] [(Blk.mk Bool.false (Body.fl FloatKind.f32 b0)), (Blk.mk Bool.false (Body.fl FloatKind.f32 b1)), (Blk.mk Bool.false (Body.fl FloatKind.f32 b2)), (Blk.mk Bool.true (Body.cells [(At.sl 4 0 q0i 3), (At.sl 5 0 q0r 3), (At.sl 6 0 q0q 3), (At.sl 7 0 q35 3), (At.int IntKind.i64 q39), (At.flt FloatKind.f32 q38), (At.flt FloatKind.f32 q3d)])), (Blk.mk Bool.true (Body.fl FloatKind.f32 b4)), (Blk.mk Bool.true (Body.fl FloatKind.f32 b5)), (Blk.mk Bool.true (Body.fl FloatKind.f32 b6)), (Blk.mk Bool.true (Body.fl FloatKind.f32 b7)), (Blk.mk Bool.true (Body.cells [(At.sl 9 0 q32 1), (At.sl 10 0 q33 1), (At.sl 11 0 q34 1), (At.sl 12 0 c2_ 3), (At.int IntKind.i64 q3a), (At.flt FloatKind.f32 q3b), (At.flt FloatKind.f32 q3c)])), (Blk.mk Bool.true (Body.fl FloatKind.f32 b9)), (Blk.mk Bool.true (Body.fl FloatKind.f32 b10)), (Blk.mk Bool.true (Body.fl FloatKind.f32 b11)), (Blk.mk Bool.true (Body.fl FloatKind.f32 c3_))])) := by kernel_rfl
theorem znf (q0a : Int) (hub : Nat) (tip : Nat) (q0k : Nat) (q0l : Nat) (b0 : List Nat) (b1 : List Nat) (b2 : List Nat) (q0i : Nat) (q0r : Nat) (q0q : Nat) (q35 : Nat) (q39 : Int) (q38 : Nat) (q3d : Nat) (b4 : List Nat) (b5 : List Nat) (b6 : List Nat) (b7 : List Nat) (q32 : Nat) (q33 : Nat) (q34 : Nat) (q3a : Int) (q3b : Nat) (q3c : Nat) (b9 : List Nat) (b10 : List Nat) (b11 : List Nat) : ∀ (n : Nat) (k : Int) (q1k : Nat) (b12 : List Nat), iter 28 5 3 (evC (R := Ex × St) Γ10 (evFn Γ10 8 8) 28 3 fi28.nt fi28.live fi28.nl 8 (findL 5 (loopsIn fi28.code))) n (St.mk [(2, (AV.v (TV.one (At.int IntKind.i64 q0a)))), (3, (AV.v (TV.one (At.flt FloatKind.f32 hub)))), (4, (AV.v (TV.one (At.flt FloatKind.f32 tip)))), (5, (AV.v (TV.one (At.flt FloatKind.f32 q0k)))), (6, (AV.v (TV.one (At.flt FloatKind.f32 q0l)))), (14, (AV.v (TV.one (At.ptr 3 0 7)))), (16, (AV.v (TV.one (At.ptr 8 0 7)))), (17, (AV.v (TV.one (At.int IntKind.i64 k))))] [(Blk.mk Bool.false (Body.fl FloatKind.f32 b0)), (Blk.mk Bool.false (Body.fl FloatKind.f32 b1)), (Blk.mk Bool.false (Body.fl FloatKind.f32 b2)), (Blk.mk Bool.true (Body.cells [(At.sl 4 0 q0i 3), (At.sl 5 0 q0r 3), (At.sl 6 0 q0q 3), (At.sl 7 0 q35 3), (At.int IntKind.i64 q39), (At.flt FloatKind.f32 q38), (At.flt FloatKind.f32 q3d)])), (Blk.mk Bool.true (Body.fl FloatKind.f32 b4)), (Blk.mk Bool.true (Body.fl FloatKind.f32 b5)), (Blk.mk Bool.true (Body.fl FloatKind.f32 b6)), (Blk.mk Bool.true (Body.fl FloatKind.f32 b7)), (Blk.mk Bool.true (Body.cells [(At.sl 9 0 q32 1), (At.sl 10 0 q33 1), (At.sl 11 0 q34 1), (At.sl 12 0 q1k 3), (At.int IntKind.i64 q3a), (At.flt FloatKind.f32 q3b), (At.flt FloatKind.f32 q3c)])), (Blk.mk Bool.true (Body.fl FloatKind.f32 b9)), (Blk.mk Bool.true (Body.fl FloatKind.f32 b10)), (Blk.mk Bool.true (Body.fl FloatKind.f32 b11)), (Blk.mk Bool.true (Body.fl FloatKind.f32 b12))]) (fun e st => some (e, st)) = (zdz q0a hub tip q0k q0l b0 b1 b2 q0i q0r q0q q35 q39 q38 q3d b4 b5 b6 b7 q32 q33 q34 q3a q3b q3c b9 b10 b11) (z4b q0a hub tip q0k q0l n k q1k b12) := by
  intro n
  induction n with
  | zero => intros; rfl
  | succ n ih =>
    intro k q1k b12
    refine Eq.trans (iter_succ ..) (Eq.trans (znn q0a hub tip q0k q0l k b0 b1 b2 q0i q0r q0q q35 q39 q38 q3d b4 b5 b6 b7 q32 q33 q34 q1k q3a q3b q3c b9 b10 b11 b12 (nextK 28 5 3 (evC (R := Ex × St) Γ10 (evFn Γ10 8 8) 28 3 fi28.nt fi28.live fi28.nl 8 (findL 5 (loopsIn fi28.code))) n (fun e st => some (e, st)))) (Eq.trans ?_ (zl1 (zdz q0a hub tip q0k q0l b0 b1 b2 q0i q0r q0q q35 q39 q38 q3d b4 b5 b6 b7 q32 q33 q34 q3a q3b q3c b9 b10 b11) rfl q0a hub tip q0k q0l k q1k b12 (fun k' q1k' b12' => z4b q0a hub tip q0k q0l n k' q1k' b12') (fun c0_ c1_ c2_ c3_ => some (c0_, c1_, c2_, c3_)))))
    exact congrArg (fun kn_ => z72 q0a hub tip q0k q0l k q1k b12 kn_ (fun c0_ c1_ c2_ c3_ => (zdz q0a hub tip q0k q0l b0 b1 b2 q0i q0r q0q q35 q39 q38 q3d b4 b5 b6 b7 q32 q33 q34 q3a q3b q3c b9 b10 b11) (some (c0_, c1_, c2_, c3_)))) (funext fun k' => funext fun q1k' => funext fun b12' => ih k' q1k' b12')
theorem z2u : LoopOne Try.prog fnTab 28 5 z3e := lp_of (Γ := Γ10) tyTab_ok (FnL.ok fnTab_ok _ _) (LpL.ok lt10_ok) (SumL.ok tb10_ok _) mixed (fi := fi28) (by kernel_rfl) (by kernel_rfl) (by
  intro lo st out hp
  obtain ⟨hs, e1, e2, e3⟩ := lpT_inv hp
  clear hp
  obtain rfl : st = (St.mk [(2, (AV.v (TV.one (At.int IntKind.i64 (hvI (hGet hs 0)))))), (3, (AV.v (TV.one (At.flt FloatKind.f32 (hvN (hGet hs 1)))))), (4, (AV.v (TV.one (At.flt FloatKind.f32 (hvN (hGet hs 2)))))), (5, (AV.v (TV.one (At.flt FloatKind.f32 (hvN (hGet hs 3)))))), (6, (AV.v (TV.one (At.flt FloatKind.f32 (hvN (hGet hs 4)))))), (14, (AV.v (TV.one (At.ptr 3 0 7)))), (16, (AV.v (TV.one (At.ptr 8 0 7)))), (17, (AV.v (TV.one (At.int IntKind.i64 (hvI (hGet hs 5))))))] [(Blk.mk Bool.false (Body.fl FloatKind.f32 (hvLn (hGet hs 6)))), (Blk.mk Bool.false (Body.fl FloatKind.f32 (hvLn (hGet hs 7)))), (Blk.mk Bool.false (Body.fl FloatKind.f32 (hvLn (hGet hs 8)))), (Blk.mk Bool.true (Body.cells [(At.sl 4 0 (hvN (hGet hs 9)) 3), (At.sl 5 0 (hvN (hGet hs 10)) 3), (At.sl 6 0 (hvN (hGet hs 11)) 3), (At.sl 7 0 (hvN (hGet hs 12)) 3), (At.int IntKind.i64 (hvI (hGet hs 13))), (At.flt FloatKind.f32 (hvN (hGet hs 14))), (At.flt FloatKind.f32 (hvN (hGet hs 15)))])), (Blk.mk Bool.true (Body.fl FloatKind.f32 (hvLn (hGet hs 16)))), (Blk.mk Bool.true (Body.fl FloatKind.f32 (hvLn (hGet hs 17)))), (Blk.mk Bool.true (Body.fl FloatKind.f32 (hvLn (hGet hs 18)))), (Blk.mk Bool.true (Body.fl FloatKind.f32 (hvLn (hGet hs 19)))), (Blk.mk Bool.true (Body.cells [(At.sl 9 0 (hvN (hGet hs 20)) 1), (At.sl 10 0 (hvN (hGet hs 21)) 1), (At.sl 11 0 (hvN (hGet hs 22)) 1), (At.sl 12 0 (hvN (hGet hs 23)) 3), (At.int IntKind.i64 (hvI (hGet hs 24))), (At.flt FloatKind.f32 (hvN (hGet hs 25))), (At.flt FloatKind.f32 (hvN (hGet hs 26)))])), (Blk.mk Bool.true (Body.fl FloatKind.f32 (hvLn (hGet hs 27)))), (Blk.mk Bool.true (Body.fl FloatKind.f32 (hvLn (hGet hs 28)))), (Blk.mk Bool.true (Body.fl FloatKind.f32 (hvLn (hGet hs 29)))), (Blk.mk Bool.true (Body.fl FloatKind.f32 (hvLn (hGet hs 30))))]) := e2.trans (by kernel_rfl)
  clear e2
  subst e1
  unfold zjl at e3
  injection e3 with h1 h2
  subst h2
  exact ⟨8, 8, big, Eq.trans (znf (hvI (hGet hs 0)) (hvN (hGet hs 1)) (hvN (hGet hs 2)) (hvN (hGet hs 3)) (hvN (hGet hs 4)) (hvLn (hGet hs 6)) (hvLn (hGet hs 7)) (hvLn (hGet hs 8)) (hvN (hGet hs 9)) (hvN (hGet hs 10)) (hvN (hGet hs 11)) (hvN (hGet hs 12)) (hvI (hGet hs 13)) (hvN (hGet hs 14)) (hvN (hGet hs 15)) (hvLn (hGet hs 16)) (hvLn (hGet hs 17)) (hvLn (hGet hs 18)) (hvLn (hGet hs 19)) (hvN (hGet hs 20)) (hvN (hGet hs 21)) (hvN (hGet hs 22)) (hvI (hGet hs 24)) (hvN (hGet hs 25)) (hvN (hGet hs 26)) (hvLn (hGet hs 27)) (hvLn (hGet hs 28)) (hvLn (hGet hs 29)) big (hvI (hGet hs 5)) (hvN (hGet hs 23)) (hvLn (hGet hs 30))) (znb (hvI (hGet hs 0)) (hvN (hGet hs 1)) (hvN (hGet hs 2)) (hvN (hGet hs 3)) (hvN (hGet hs 4)) (hvLn (hGet hs 6)) (hvLn (hGet hs 7)) (hvLn (hGet hs 8)) (hvN (hGet hs 9)) (hvN (hGet hs 10)) (hvN (hGet hs 11)) (hvN (hGet hs 12)) (hvI (hGet hs 13)) (hvN (hGet hs 14)) (hvN (hGet hs 15)) (hvLn (hGet hs 16)) (hvLn (hGet hs 17)) (hvLn (hGet hs 18)) (hvLn (hGet hs 19)) (hvN (hGet hs 20)) (hvN (hGet hs 21)) (hvN (hGet hs 22)) (hvI (hGet hs 24)) (hvN (hGet hs 25)) (hvN (hGet hs 26)) (hvLn (hGet hs 27)) (hvLn (hGet hs 28)) (hvLn (hGet hs 29)) (z4b (hvI (hGet hs 0)) (hvN (hGet hs 1)) (hvN (hGet hs 2)) (hvN (hGet hs 3)) (hvN (hGet hs 4)) big (hvI (hGet hs 5)) (hvN (hGet hs 23)) (hvLn (hGet hs 30))) h1)⟩)
noncomputable def tb11 : List (Nat × (List PT → Option (Bool × AV × List Blk))) := [(125, z25), (128, z0q), (134, z1c), (137, z24), (18, z2e), (48, z1x), (54, z2x), (61, z2c), (63, z3s), (64, z3l), (66, z3k), (97, z2w), (104, z0m), (14, z2j), (67, z1q), (103, z32), (105, z2i), (111, z3d), (114, z33), (118, z1p), (122, z13), (52, z28), (72, z1g), (79, z1i), (119, z29), (16, z30), (36, z20), (57, z2g), (19, z37), (33, z36), (62, z41), (69, z2r), (99, z0d), (99, z08), (30, z3q), (99, z0h), (117, z0c), (117, z0f), (117, z05), (91, z47), (95, z3i), (96, z3p), (112, z31), (53, z3a)]
noncomputable def lt11 : List ((Nat × Nat) × (Nat → St → Option (Bool × LO))) := [((52, 3), z18), ((72, 2), z0x), ((79, 2), z0v), ((57, 4), z1d), ((62, 5), z3f), ((69, 4), z1k), ((99, 2), z03), ((99, 2), z01), ((99, 2), z09), ((91, 6), z3o), ((53, 5), z26), ((28, 5), z3e)]
noncomputable def Γ11 : Ctx := ⟨tyTab, fnTab, tblSum tb11, tblLp lt11⟩
theorem tb11_ok : SumL Try.prog tb11 := SumL.cons z1b (SumL.cons z0j (SumL.cons z0z (SumL.cons z1a (SumL.cons z1f (SumL.cons z17 (SumL.cons z1w (SumL.cons z1h (SumL.cons z39 (SumL.cons z2t (SumL.cons z2s (SumL.cons z1v (SumL.cons z0i (SumL.cons z1r (SumL.cons z15 (SumL.cons z22 (SumL.cons z1s (SumL.cons z2f (SumL.cons z21 (SumL.cons z14 (SumL.cons z0s (SumL.cons z1j (SumL.cons z11 (SumL.cons z12 (SumL.cons z1l (SumL.cons z23 (SumL.cons z1e (SumL.cons z1t (SumL.cons z2b (SumL.cons z2d (SumL.cons z3m (SumL.cons z1y (SumL.cons z0b (SumL.cons z06 (SumL.cons z3b (SumL.cons z0g (SumL.cons z0a (SumL.cons z0e (SumL.cons z04 (SumL.cons z3v (SumL.cons z35 (SumL.cons z3c (SumL.cons z2a (SumL.cons z2v (SumL.nil))))))))))))))))))))))))))))))))))))))))))))
theorem lt11_ok : LpL Try.prog fnTab lt11 := LpL.cons z0t (LpL.cons z0k (LpL.cons z0l (LpL.cons z0y (LpL.cons z2h (LpL.cons z10 (LpL.cons z02 (LpL.cons z00 (LpL.cons z07 (LpL.cons z38 (LpL.cons z1m (LpL.cons z2u (LpL.nil))))))))))))
noncomputable def z3w : List PT → Option (Bool × AV × List Blk)
  | [.agg [.row 1 q06 (.fl .f32 q09), .row 1 q08 (.fl .f32 q0c), .row 1 q07 (.fl .f32 q0b)], .one (.s (.int .i64 q19)), .one (.s (.int .i64 q0a)), .one (.s (.flt .f32 hub)), .one (.s (.flt .f32 tip)), .one (.s (.flt .f32 q0k)), .one (.s (.flt .f32 q0l))] => some ((zic q06 q09 q08 q0c q07 q0b q19 q0a hub tip q0k q0l), ((AV.tup [(TV.agg [(At.sl 0 0 (zgj q06 q09 q08 q0c q07 q0b q19 q0a hub tip q0k q0l) 1), (At.sl 1 0 (zga q06 q09 q08 q0c q07 q0b q19 q0a hub tip q0k q0l) 1), (At.sl 2 0 (zgg q06 q09 q08 q0c q07 q0b q19 q0a hub tip q0k q0l) 1), (At.sl 3 0 (zgn q06 q09 q08 q0c q07 q0b q19 q0a hub tip q0k q0l) 3), (At.int IntKind.i64 (zgb q06 q09 q08 q0c q07 q0b q19 q0a hub tip q0k q0l)), (At.flt FloatKind.f32 (zgq q06 q09 q08 q0c q07 q0b q19 q0a hub tip q0k q0l)), (At.flt FloatKind.f32 (zgr q06 q09 q08 q0c q07 q0b q19 q0a hub tip q0k q0l))]), (TV.one (At.bool (zgm q06 q09 q08 q0c q07 q0b q19 q0a hub tip q0k q0l)))]), [(Blk.mk Bool.true (Body.fl FloatKind.f32 (zgh q06 q09 q08 q0c q07 q0b q19 q0a hub tip q0k q0l))), (Blk.mk Bool.true (Body.fl FloatKind.f32 (zge q06 q09 q08 q0c q07 q0b q19 q0a hub tip q0k q0l))), (Blk.mk Bool.true (Body.fl FloatKind.f32 (zew q06 q09 q08 q0c q07 q0b q19 q0a hub tip q0k q0l))), (Blk.mk Bool.true (Body.fl FloatKind.f32 (zfe q06 q09 q08 q0c q07 q0b q19 q0a hub tip q0k q0l)))]))
  | _ => none
def zkj (q06 : Nat) (q09 : List Nat) (q08 : Nat) (q0c : List Nat) (q07 : Nat) (q0b : List Nat) (q19 : Int) (q0a : Int) (hub : Nat) (tip : Nat) (q0k : Nat) (q0l : Nat) : Option (Nat × Nat × Nat × Nat × Int × Nat × Nat × Bool × (List Nat) × (List Nat) × (List Nat) × (List Nat)) → Option (AV × List Blk)
  | some r => some ((AV.tup [(TV.agg [(At.sl 0 0 r.1 1), (At.sl 1 0 r.2.1 1), (At.sl 2 0 r.2.2.1 1), (At.sl 3 0 r.2.2.2.1 3), (At.int IntKind.i64 r.2.2.2.2.1), (At.flt FloatKind.f32 r.2.2.2.2.2.1), (At.flt FloatKind.f32 r.2.2.2.2.2.2.1)]), (TV.one (At.bool r.2.2.2.2.2.2.2.1))]), [(Blk.mk Bool.true (Body.fl FloatKind.f32 r.2.2.2.2.2.2.2.2.1)), (Blk.mk Bool.true (Body.fl FloatKind.f32 r.2.2.2.2.2.2.2.2.2.1)), (Blk.mk Bool.true (Body.fl FloatKind.f32 r.2.2.2.2.2.2.2.2.2.2.1)), (Blk.mk Bool.true (Body.fl FloatKind.f32 r.2.2.2.2.2.2.2.2.2.2.2))])
  | none => none
theorem zom (q06 : Nat) (q09 : List Nat) (q08 : Nat) (q0c : List Nat) (q07 : Nat) (q0b : List Nat) (q19 : Int) (q0a : Int) (hub : Nat) (tip : Nat) (q0k : Nat) (q0l : Nat) : evFn Γ11 8 8 28 (impTs 0 [.agg [.row 1 q06 (.fl .f32 q09), .row 1 q08 (.fl .f32 q0c), .row 1 q07 (.fl .f32 q0b)], .one (.s (.int .i64 q19)), .one (.s (.int .i64 q0a)), .one (.s (.flt .f32 hub)), .one (.s (.flt .f32 tip)), .one (.s (.flt .f32 q0k)), .one (.s (.flt .f32 q0l))]).1 (impTs 0 [.agg [.row 1 q06 (.fl .f32 q09), .row 1 q08 (.fl .f32 q0c), .row 1 q07 (.fl .f32 q0b)], .one (.s (.int .i64 q19)), .one (.s (.int .i64 q0a)), .one (.s (.flt .f32 hub)), .one (.s (.flt .f32 tip)), .one (.s (.flt .f32 q0k)), .one (.s (.flt .f32 q0l))]).2 (expo (impTs 0 [.agg [.row 1 q06 (.fl .f32 q09), .row 1 q08 (.fl .f32 q0c), .row 1 q07 (.fl .f32 q0b)], .one (.s (.int .i64 q19)), .one (.s (.int .i64 q0a)), .one (.s (.flt .f32 hub)), .one (.s (.flt .f32 tip)), .one (.s (.flt .f32 q0k)), .one (.s (.flt .f32 q0l))]).2.length) = zcl q06 q09 q08 q0c q07 q0b q19 q0a hub tip q0k q0l (fun c0_ c1_ c2_ c3_ c4_ c5_ c6_ c7_ c8_ c9_ c10_ c11_ => some ((AV.tup [(TV.agg [(At.sl 0 0 c0_ 1), (At.sl 1 0 c1_ 1), (At.sl 2 0 c2_ 1), (At.sl 3 0 c3_ 3), (At.int IntKind.i64 c4_), (At.flt FloatKind.f32 c5_), (At.flt FloatKind.f32 c6_)]), (TV.one (At.bool c7_))]), [(Blk.mk Bool.true (Body.fl FloatKind.f32 c8_)), (Blk.mk Bool.true (Body.fl FloatKind.f32 c9_)), (Blk.mk Bool.true (Body.fl FloatKind.f32 c10_)), (Blk.mk Bool.true (Body.fl FloatKind.f32 c11_))])) := by kernel_rfl
theorem z3n : SumOne Try.prog 28 z3w := sum_of (Γ := Γ11) (fuel := 8) (d := 8) tyTab_ok (FnL.ok fnTab_ok _ _) (LpL.ok lt11_ok) (SumL.ok tb11_ok _) mixed (by
  intro pts v news hp hc
  clear hc
  unfold z3w at hp
  split at hp
  · rename_i q06 q09 q08 q0c q07 q0b q19 q0a hub tip q0k q0l
    exact Eq.trans (Eq.trans (zom q06 q09 q08 q0c q07 q0b q19 q0a hub tip q0k q0l) (zmm (zkj q06 q09 q08 q0c q07 q0b q19 q0a hub tip q0k q0l) rfl q06 q09 q08 q0c q07 q0b q19 q0a hub tip q0k q0l (fun c0_ c1_ c2_ c3_ c4_ c5_ c6_ c7_ c8_ c9_ c10_ c11_ => some (c0_, c1_, c2_, c3_, c4_, c5_, c6_, c7_, c8_, c9_, c10_, c11_)))) (fin_out (o := (zkj q06 q09 q08 q0c q07 q0b q19 q0a hub tip q0k q0l)) (x := z4x q06 q09 q08 q0c q07 q0b q19 q0a hub tip q0k q0l) (d := default) (V := fun r => ((AV.tup [(TV.agg [(At.sl 0 0 r.1 1), (At.sl 1 0 r.2.1 1), (At.sl 2 0 r.2.2.1 1), (At.sl 3 0 r.2.2.2.1 3), (At.int IntKind.i64 r.2.2.2.2.1), (At.flt FloatKind.f32 r.2.2.2.2.2.1), (At.flt FloatKind.f32 r.2.2.2.2.2.2.1)]), (TV.one (At.bool r.2.2.2.2.2.2.2.1))]), [(Blk.mk Bool.true (Body.fl FloatKind.f32 r.2.2.2.2.2.2.2.2.1)), (Blk.mk Bool.true (Body.fl FloatKind.f32 r.2.2.2.2.2.2.2.2.2.1)), (Blk.mk Bool.true (Body.fl FloatKind.f32 r.2.2.2.2.2.2.2.2.2.2.1)), (Blk.mk Bool.true (Body.fl FloatKind.f32 r.2.2.2.2.2.2.2.2.2.2.2))])) (fun r => rfl) hp)
  · cases hp)
noncomputable def tb12 : List (Nat × (List PT → Option (Bool × AV × List Blk))) := [(125, z25), (128, z0q), (134, z1c), (137, z24), (18, z2e), (48, z1x), (54, z2x), (61, z2c), (63, z3s), (64, z3l), (66, z3k), (97, z2w), (104, z0m), (14, z2j), (67, z1q), (103, z32), (105, z2i), (111, z3d), (114, z33), (118, z1p), (122, z13), (52, z28), (72, z1g), (79, z1i), (119, z29), (16, z30), (36, z20), (57, z2g), (19, z37), (33, z36), (62, z41), (69, z2r), (99, z0d), (99, z08), (30, z3q), (99, z0h), (117, z0c), (117, z0f), (117, z05), (91, z47), (95, z3i), (96, z3p), (112, z31), (53, z3a), (28, z3w)]
noncomputable def lt12 : List ((Nat × Nat) × (Nat → St → Option (Bool × LO))) := [((52, 3), z18), ((72, 2), z0x), ((79, 2), z0v), ((57, 4), z1d), ((62, 5), z3f), ((69, 4), z1k), ((99, 2), z03), ((99, 2), z01), ((99, 2), z09), ((91, 6), z3o), ((53, 5), z26), ((28, 5), z3e)]
noncomputable def Γ12 : Ctx := ⟨tyTab, fnTab, tblSum tb12, tblLp lt12⟩
theorem tb12_ok : SumL Try.prog tb12 := SumL.cons z1b (SumL.cons z0j (SumL.cons z0z (SumL.cons z1a (SumL.cons z1f (SumL.cons z17 (SumL.cons z1w (SumL.cons z1h (SumL.cons z39 (SumL.cons z2t (SumL.cons z2s (SumL.cons z1v (SumL.cons z0i (SumL.cons z1r (SumL.cons z15 (SumL.cons z22 (SumL.cons z1s (SumL.cons z2f (SumL.cons z21 (SumL.cons z14 (SumL.cons z0s (SumL.cons z1j (SumL.cons z11 (SumL.cons z12 (SumL.cons z1l (SumL.cons z23 (SumL.cons z1e (SumL.cons z1t (SumL.cons z2b (SumL.cons z2d (SumL.cons z3m (SumL.cons z1y (SumL.cons z0b (SumL.cons z06 (SumL.cons z3b (SumL.cons z0g (SumL.cons z0a (SumL.cons z0e (SumL.cons z04 (SumL.cons z3v (SumL.cons z35 (SumL.cons z3c (SumL.cons z2a (SumL.cons z2v (SumL.cons z3n (SumL.nil)))))))))))))))))))))))))))))))))))))))))))))
theorem lt12_ok : LpL Try.prog fnTab lt12 := LpL.cons z0t (LpL.cons z0k (LpL.cons z0l (LpL.cons z0y (LpL.cons z2h (LpL.cons z10 (LpL.cons z02 (LpL.cons z00 (LpL.cons z07 (LpL.cons z38 (LpL.cons z1m (LpL.cons z2u (LpL.nil))))))))))))
noncomputable def zjh (t4 : Nat) (q2p : Nat) (t44 : Int) (t45 : Int) (b0 : List Nat) (b1 : List Nat) (b2 : List Nat) (b3 : List Nat) (q15 : Nat) (q14 : Nat) (q16 : Nat) (q0w : Nat) (q1d : Int) (q1c : Nat) (q0y : Nat) : Bool × LO := ((z8g q2p t44 b3 q0y t4 t45), (LO.two (z86 q2p t44 b3 q0y t4 t45) (LO.one Ex.ret (St.mk [(2, (AV.v (TV.one (At.bool Bool.false))))] [(Blk.mk Bool.false (Body.fl FloatKind.f32 b0)), (Blk.mk Bool.false (Body.fl FloatKind.f32 b1)), (Blk.mk Bool.false (Body.fl FloatKind.f32 b2)), (Blk.mk Bool.false (Body.fl FloatKind.f32 b3))])) (LO.one (Ex.exit 0) (St.mk [(1, (AV.v (TV.one (At.ptr 4 0 7)))), (4, (AV.v (TV.one (At.flt FloatKind.f32 (zeo q2p t44 b3 q0y t4 t45))))), (43, (AV.v (TV.one (At.vw 3 0 q2p 3)))), (44, (AV.v (TV.one (At.int IntKind.i64 t44)))), (45, (AV.v (TV.one (At.int IntKind.i64 (zeg q2p t44 b3 q0y t4 t45))))), (46, (AV.v (TV.one (At.bool (zeq q2p t44 b3 q0y t4 t45)))))] [(Blk.mk Bool.false (Body.fl FloatKind.f32 b0)), (Blk.mk Bool.false (Body.fl FloatKind.f32 b1)), (Blk.mk Bool.false (Body.fl FloatKind.f32 b2)), (Blk.mk Bool.false (Body.fl FloatKind.f32 b3)), (Blk.mk Bool.true (Body.cells [(At.vw 0 0 q15 1), (At.vw 1 0 q14 1), (At.vw 2 0 q16 1), (At.vw 3 0 q0w 3), (At.int IntKind.i64 q1d), (At.flt FloatKind.f32 q1c), (At.flt FloatKind.f32 q0y)]))]))))
noncomputable def z3h : Nat → St → Option (Bool × LO) := lpT 4 (pSt [(pTm 1 (pV (pOne (pPtr 4 (liN 0) 7)))), (pTm 4 (pV (pOne (pFlt FloatKind.f32)))), (pTm 43 (pV (pOne (pVw 3 (liN 0) 3)))), (pTm 44 (pV (pOne (pInt IntKind.i64)))), (pTm 45 (pV (pOne (pInt IntKind.i64))))] [(pBlk Bool.false (pFl FloatKind.f32)), (pBlk Bool.false (pFl FloatKind.f32)), (pBlk Bool.false (pFl FloatKind.f32)), (pBlk Bool.false (pFl FloatKind.f32)), (pBlk Bool.true (pCells [(pVw 0 (liN 0) 1), (pVw 1 (liN 0) 1), (pVw 2 (liN 0) 1), (pVw 3 (liN 0) 3), (pInt IntKind.i64), (pFlt FloatKind.f32), (pFlt FloatKind.f32)]))]) (fun hs => zjh (hvN (hGet hs 0)) (hvN (hGet hs 1)) (hvI (hGet hs 2)) (hvI (hGet hs 3)) (hvLn (hGet hs 4)) (hvLn (hGet hs 5)) (hvLn (hGet hs 6)) (hvLn (hGet hs 7)) (hvN (hGet hs 8)) (hvN (hGet hs 9)) (hvN (hGet hs 10)) (hvN (hGet hs 11)) (hvI (hGet hs 12)) (hvN (hGet hs 13)) (hvN (hGet hs 14)))
def zbf (q2p : Nat) (t44 : Int) (b0 : List Nat) (b1 : List Nat) (b2 : List Nat) (b3 : List Nat) (q15 : Nat) (q14 : Nat) (q16 : Nat) (q0w : Nat) (q1d : Int) (q1c : Nat) (q0y : Nat) : Option ((Unit) ⊕ (Nat × Int × Bool)) → Option (Ex × St)
  | none => none
  | some (Sum.inl r) => some (Ex.ret, (St.mk [(2, (AV.v (TV.one (At.bool Bool.false))))] [(Blk.mk Bool.false (Body.fl FloatKind.f32 b0)), (Blk.mk Bool.false (Body.fl FloatKind.f32 b1)), (Blk.mk Bool.false (Body.fl FloatKind.f32 b2)), (Blk.mk Bool.false (Body.fl FloatKind.f32 b3))]))
  | some (Sum.inr r) => some ((Ex.exit 0), (St.mk [(1, (AV.v (TV.one (At.ptr 4 0 7)))), (4, (AV.v (TV.one (At.flt FloatKind.f32 r.1)))), (43, (AV.v (TV.one (At.vw 3 0 q2p 3)))), (44, (AV.v (TV.one (At.int IntKind.i64 t44)))), (45, (AV.v (TV.one (At.int IntKind.i64 r.2.1)))), (46, (AV.v (TV.one (At.bool r.2.2))))] [(Blk.mk Bool.false (Body.fl FloatKind.f32 b0)), (Blk.mk Bool.false (Body.fl FloatKind.f32 b1)), (Blk.mk Bool.false (Body.fl FloatKind.f32 b2)), (Blk.mk Bool.false (Body.fl FloatKind.f32 b3)), (Blk.mk Bool.true (Body.cells [(At.vw 0 0 q15 1), (At.vw 1 0 q14 1), (At.vw 2 0 q16 1), (At.vw 3 0 q0w 3), (At.int IntKind.i64 q1d), (At.flt FloatKind.f32 q1c), (At.flt FloatKind.f32 q0y)]))]))
def zm3 (q2p : Nat) (t44 : Int) (b0 : List Nat) (b1 : List Nat) (b2 : List Nat) (b3 : List Nat) (q15 : Nat) (q14 : Nat) (q16 : Nat) (q0w : Nat) (q1d : Int) (q1c : Nat) (q0y : Nat) (x : Option ((Unit) ⊕ (Nat × Int × Bool))) : LO := (LO.two (oL x) (LO.one Ex.ret (St.mk [(2, (AV.v (TV.one (At.bool Bool.false))))] [(Blk.mk Bool.false (Body.fl FloatKind.f32 b0)), (Blk.mk Bool.false (Body.fl FloatKind.f32 b1)), (Blk.mk Bool.false (Body.fl FloatKind.f32 b2)), (Blk.mk Bool.false (Body.fl FloatKind.f32 b3))])) (LO.one (Ex.exit 0) (St.mk [(1, (AV.v (TV.one (At.ptr 4 0 7)))), (4, (AV.v (TV.one (At.flt FloatKind.f32 ((tR x).getD default).1)))), (43, (AV.v (TV.one (At.vw 3 0 q2p 3)))), (44, (AV.v (TV.one (At.int IntKind.i64 t44)))), (45, (AV.v (TV.one (At.int IntKind.i64 ((tR x).getD default).2.1)))), (46, (AV.v (TV.one (At.bool ((tR x).getD default).2.2))))] [(Blk.mk Bool.false (Body.fl FloatKind.f32 b0)), (Blk.mk Bool.false (Body.fl FloatKind.f32 b1)), (Blk.mk Bool.false (Body.fl FloatKind.f32 b2)), (Blk.mk Bool.false (Body.fl FloatKind.f32 b3)), (Blk.mk Bool.true (Body.cells [(At.vw 0 0 q15 1), (At.vw 1 0 q14 1), (At.vw 2 0 q16 1), (At.vw 3 0 q0w 3), (At.int IntKind.i64 q1d), (At.flt FloatKind.f32 q1c), (At.flt FloatKind.f32 q0y)]))])))
theorem zmh (q2p : Nat) (t44 : Int) (b0 : List Nat) (b1 : List Nat) (b2 : List Nat) (b3 : List Nat) (q15 : Nat) (q14 : Nat) (q16 : Nat) (q0w : Nat) (q1d : Int) (q1c : Nat) (q0y : Nat) : ∀ x : Option ((Unit) ⊕ (Nat × Int × Bool)), x.isSome = true → (zbf q2p t44 b0 b1 b2 b3 q15 q14 q16 q0w q1d q1c q0y) x = some (pick (zm3 q2p t44 b0 b1 b2 b3 q15 q14 q16 q0w q1d q1c q0y x))
  | none, h => by cases h
  | some (Sum.inl r), _ => rfl
  | some (Sum.inr r), _ => rfl
theorem zmk (t4 : Nat) (q2p : Nat) (t44 : Int) (t45 : Int) (b0 : List Nat) (b1 : List Nat) (b2 : List Nat) (b3 : List Nat) (q15 : Nat) (q14 : Nat) (q16 : Nat) (q0w : Nat) (q1d : Int) (q1c : Nat) (q0y : Nat) (K : Ex → St → Option (Ex × St)) : evC (R := Ex × St) Γ12 (evFn Γ12 8 8) 87 4 fi87.nt fi87.live fi87.nl 8 (findL 6 (loopsIn fi87.code)) (St.mk [(1, (AV.v (TV.one (At.ptr 4 0 7)))), (4, (AV.v (TV.one (At.flt FloatKind.f32 t4)))), (43, (AV.v (TV.one (At.vw 3 0 q2p 3)))), (44, (AV.v (TV.one (At.int IntKind.i64 t44)))), (45, (AV.v (TV.one (At.int IntKind.i64 t45))))] [(Blk.mk Bool.false (Body.fl FloatKind.f32 b0)), (Blk.mk Bool.false (Body.fl FloatKind.f32 b1)), (Blk.mk Bool.false (Body.fl FloatKind.f32 b2)), (Blk.mk Bool.false (Body.fl FloatKind.f32 b3)), (Blk.mk Bool.true (Body.cells [(At.vw 0 0 q15 1), (At.vw 1 0 q14 1), (At.vw 2 0 q16 1), (At.vw 3 0 q0w 3), (At.int IntKind.i64 q1d), (At.flt FloatKind.f32 q1c), (At.flt FloatKind.f32 q0y)]))]) K = z6s q2p t44 b3 q0y t4 t45 (fun t4' t45' => K .normal (St.mk [(1, (AV.v (TV.one (At.ptr 4 0 7)))), (4, (AV.v (TV.one (At.flt FloatKind.f32 t4')))), (43, (AV.v (TV.one (At.vw 3 0 q2p 3)))), (44, (AV.v (TV.one (At.int IntKind.i64 t44)))), (45, (AV.v (TV.one (At.int IntKind.i64 t45'))))] [(Blk.mk Bool.false (Body.fl FloatKind.f32 b0)), (Blk.mk Bool.false (Body.fl FloatKind.f32 b1)), (Blk.mk Bool.false (Body.fl FloatKind.f32 b2)), (Blk.mk Bool.false (Body.fl FloatKind.f32 b3)), (Blk.mk Bool.true (Body.cells [(At.vw 0 0 q15 1), (At.vw 1 0 q14 1), (At.vw 2 0 q16 1), (At.vw 3 0 q0w 3), (At.int IntKind.i64 q1d), (At.flt FloatKind.f32 q1c), (At.flt FloatKind.f32 q0y)]))])) (fun _ => K Ex.ret (St.mk [(2, (AV.v (TV.one (At.bool Bool.false))))] [(Blk.mk Bool.false (Body.fl FloatKind.f32 b0)), (Blk.mk Bool.false (Body.fl FloatKind.f32 b1)), (Blk.mk Bool.false (Body.fl FloatKind.f32 b2)), (Blk.mk Bool.false (Body.fl FloatKind.f32 b3))])) (fun c0_ c1_ c2_ => K (Ex.exit 0) (St.mk [(1, (AV.v (TV.one (At.ptr 4 0 7)))), (4, (AV.v (TV.one (At.flt FloatKind.f32 c0_)))), (43, (AV.v (TV.one (At.vw 3 0 q2p 3)))), (44, (AV.v (TV.one (At.int IntKind.i64 t44)))), (45, (AV.v (TV.one (At.int IntKind.i64 c1_)))), (46, (AV.v (TV.one (At.bool c2_))))] [(Blk.mk Bool.false (Body.fl FloatKind.f32 b0)), (Blk.mk Bool.false (Body.fl FloatKind.f32 b1)), (Blk.mk Bool.false (Body.fl FloatKind.f32 b2)), (Blk.mk Bool.false (Body.fl FloatKind.f32 b3)), (Blk.mk Bool.true (Body.cells [(At.vw 0 0 q15 1), (At.vw 1 0 q14 1), (At.vw 2 0 q16 1), (At.vw 3 0 q0w 3), (At.int IntKind.i64 q1d), (At.flt FloatKind.f32 q1c), (At.flt FloatKind.f32 q0y)]))])) := by kernel_rfl
theorem zmd (q2p : Nat) (t44 : Int) (b0 : List Nat) (b1 : List Nat) (b2 : List Nat) (b3 : List Nat) (q15 : Nat) (q14 : Nat) (q16 : Nat) (q0w : Nat) (q1d : Int) (q1c : Nat) (q0y : Nat) : ∀ (n : Nat) (t4 : Nat) (t45 : Int), iter 87 6 4 (evC (R := Ex × St) Γ12 (evFn Γ12 8 8) 87 4 fi87.nt fi87.live fi87.nl 8 (findL 6 (loopsIn fi87.code))) n (St.mk [(1, (AV.v (TV.one (At.ptr 4 0 7)))), (4, (AV.v (TV.one (At.flt FloatKind.f32 t4)))), (43, (AV.v (TV.one (At.vw 3 0 q2p 3)))), (44, (AV.v (TV.one (At.int IntKind.i64 t44)))), (45, (AV.v (TV.one (At.int IntKind.i64 t45))))] [(Blk.mk Bool.false (Body.fl FloatKind.f32 b0)), (Blk.mk Bool.false (Body.fl FloatKind.f32 b1)), (Blk.mk Bool.false (Body.fl FloatKind.f32 b2)), (Blk.mk Bool.false (Body.fl FloatKind.f32 b3)), (Blk.mk Bool.true (Body.cells [(At.vw 0 0 q15 1), (At.vw 1 0 q14 1), (At.vw 2 0 q16 1), (At.vw 3 0 q0w 3), (At.int IntKind.i64 q1d), (At.flt FloatKind.f32 q1c), (At.flt FloatKind.f32 q0y)]))]) (fun e st => some (e, st)) = (zbf q2p t44 b0 b1 b2 b3 q15 q14 q16 q0w q1d q1c q0y) (z49 q2p t44 b3 q0y n t4 t45) := by
  intro n
  induction n with
  | zero => intros; rfl
  | succ n ih =>
    intro t4 t45
    refine Eq.trans (iter_succ ..) (Eq.trans (zmk t4 q2p t44 t45 b0 b1 b2 b3 q15 q14 q16 q0w q1d q1c q0y (nextK 87 6 4 (evC (R := Ex × St) Γ12 (evFn Γ12 8 8) 87 4 fi87.nt fi87.live fi87.nl 8 (findL 6 (loopsIn fi87.code))) n (fun e st => some (e, st)))) (Eq.trans ?_ (zkx (zbf q2p t44 b0 b1 b2 b3 q15 q14 q16 q0w q1d q1c q0y) rfl q2p t44 b3 q0y t4 t45 (fun t4' t45' => z49 q2p t44 b3 q0y n t4' t45') (fun _ => some (Sum.inl ())) (fun c0_ c1_ c2_ => some (Sum.inr (c0_, c1_, c2_))))))
    exact congrArg (fun kn_ => z6s q2p t44 b3 q0y t4 t45 kn_ (fun _ => (zbf q2p t44 b0 b1 b2 b3 q15 q14 q16 q0w q1d q1c q0y) (some (Sum.inl ()))) (fun c0_ c1_ c2_ => (zbf q2p t44 b0 b1 b2 b3 q15 q14 q16 q0w q1d q1c q0y) (some (Sum.inr (c0_, c1_, c2_))))) (funext fun t4' => funext fun t45' => ih t4' t45')
theorem z34 : LoopOne Try.prog fnTab 87 6 z3h := lp_of (Γ := Γ12) tyTab_ok (FnL.ok fnTab_ok _ _) (LpL.ok lt12_ok) (SumL.ok tb12_ok _) mixed (fi := fi87) (by kernel_rfl) (by kernel_rfl) (by
  intro lo st out hp
  obtain ⟨hs, e1, e2, e3⟩ := lpT_inv hp
  clear hp
  obtain rfl : st = (St.mk [(1, (AV.v (TV.one (At.ptr 4 0 7)))), (4, (AV.v (TV.one (At.flt FloatKind.f32 (hvN (hGet hs 0)))))), (43, (AV.v (TV.one (At.vw 3 0 (hvN (hGet hs 1)) 3)))), (44, (AV.v (TV.one (At.int IntKind.i64 (hvI (hGet hs 2)))))), (45, (AV.v (TV.one (At.int IntKind.i64 (hvI (hGet hs 3))))))] [(Blk.mk Bool.false (Body.fl FloatKind.f32 (hvLn (hGet hs 4)))), (Blk.mk Bool.false (Body.fl FloatKind.f32 (hvLn (hGet hs 5)))), (Blk.mk Bool.false (Body.fl FloatKind.f32 (hvLn (hGet hs 6)))), (Blk.mk Bool.false (Body.fl FloatKind.f32 (hvLn (hGet hs 7)))), (Blk.mk Bool.true (Body.cells [(At.vw 0 0 (hvN (hGet hs 8)) 1), (At.vw 1 0 (hvN (hGet hs 9)) 1), (At.vw 2 0 (hvN (hGet hs 10)) 1), (At.vw 3 0 (hvN (hGet hs 11)) 3), (At.int IntKind.i64 (hvI (hGet hs 12))), (At.flt FloatKind.f32 (hvN (hGet hs 13))), (At.flt FloatKind.f32 (hvN (hGet hs 14)))]))]) := e2.trans (by kernel_rfl)
  clear e2
  subst e1
  unfold zjh at e3
  injection e3 with h1 h2
  subst h2
  exact ⟨8, 8, big, Eq.trans (zmd (hvN (hGet hs 1)) (hvI (hGet hs 2)) (hvLn (hGet hs 4)) (hvLn (hGet hs 5)) (hvLn (hGet hs 6)) (hvLn (hGet hs 7)) (hvN (hGet hs 8)) (hvN (hGet hs 9)) (hvN (hGet hs 10)) (hvN (hGet hs 11)) (hvI (hGet hs 12)) (hvN (hGet hs 13)) (hvN (hGet hs 14)) big (hvN (hGet hs 0)) (hvI (hGet hs 3))) (zmh (hvN (hGet hs 1)) (hvI (hGet hs 2)) (hvLn (hGet hs 4)) (hvLn (hGet hs 5)) (hvLn (hGet hs 6)) (hvLn (hGet hs 7)) (hvN (hGet hs 8)) (hvN (hGet hs 9)) (hvN (hGet hs 10)) (hvN (hGet hs 11)) (hvI (hGet hs 12)) (hvN (hGet hs 13)) (hvN (hGet hs 14)) (z49 (hvN (hGet hs 1)) (hvI (hGet hs 2)) (hvLn (hGet hs 7)) (hvN (hGet hs 14)) big (hvN (hGet hs 0)) (hvI (hGet hs 3))) h1)⟩)
noncomputable def tb13 : List (Nat × (List PT → Option (Bool × AV × List Blk))) := [(125, z25), (128, z0q), (134, z1c), (137, z24), (18, z2e), (48, z1x), (54, z2x), (61, z2c), (63, z3s), (64, z3l), (66, z3k), (97, z2w), (104, z0m), (14, z2j), (67, z1q), (103, z32), (105, z2i), (111, z3d), (114, z33), (118, z1p), (122, z13), (52, z28), (72, z1g), (79, z1i), (119, z29), (16, z30), (36, z20), (57, z2g), (19, z37), (33, z36), (62, z41), (69, z2r), (99, z0d), (99, z08), (30, z3q), (99, z0h), (117, z0c), (117, z0f), (117, z05), (91, z47), (95, z3i), (96, z3p), (112, z31), (53, z3a), (28, z3w)]
noncomputable def lt13 : List ((Nat × Nat) × (Nat → St → Option (Bool × LO))) := [((52, 3), z18), ((72, 2), z0x), ((79, 2), z0v), ((57, 4), z1d), ((62, 5), z3f), ((69, 4), z1k), ((99, 2), z03), ((99, 2), z01), ((99, 2), z09), ((91, 6), z3o), ((53, 5), z26), ((28, 5), z3e), ((87, 6), z3h)]
noncomputable def Γ13 : Ctx := ⟨tyTab, fnTab, tblSum tb13, tblLp lt13⟩
theorem tb13_ok : SumL Try.prog tb13 := SumL.cons z1b (SumL.cons z0j (SumL.cons z0z (SumL.cons z1a (SumL.cons z1f (SumL.cons z17 (SumL.cons z1w (SumL.cons z1h (SumL.cons z39 (SumL.cons z2t (SumL.cons z2s (SumL.cons z1v (SumL.cons z0i (SumL.cons z1r (SumL.cons z15 (SumL.cons z22 (SumL.cons z1s (SumL.cons z2f (SumL.cons z21 (SumL.cons z14 (SumL.cons z0s (SumL.cons z1j (SumL.cons z11 (SumL.cons z12 (SumL.cons z1l (SumL.cons z23 (SumL.cons z1e (SumL.cons z1t (SumL.cons z2b (SumL.cons z2d (SumL.cons z3m (SumL.cons z1y (SumL.cons z0b (SumL.cons z06 (SumL.cons z3b (SumL.cons z0g (SumL.cons z0a (SumL.cons z0e (SumL.cons z04 (SumL.cons z3v (SumL.cons z35 (SumL.cons z3c (SumL.cons z2a (SumL.cons z2v (SumL.cons z3n (SumL.nil)))))))))))))))))))))))))))))))))))))))))))))
theorem lt13_ok : LpL Try.prog fnTab lt13 := LpL.cons z0t (LpL.cons z0k (LpL.cons z0l (LpL.cons z0y (LpL.cons z2h (LpL.cons z10 (LpL.cons z02 (LpL.cons z00 (LpL.cons z07 (LpL.cons z38 (LpL.cons z1m (LpL.cons z2u (LpL.cons z34 (LpL.nil)))))))))))))
noncomputable def z3x : List PT → Option (Bool × AV × List Blk)
  | [.agg [.row 1 q0e (.fl .f32 q0m), .row 1 q0g (.fl .f32 q0o), .row 1 q0f (.fl .f32 q0n), .row 3 q0s (.fl .f32 q11), .s (.int .i64 q18), .s (.flt .f32 q1a), .s (.flt .f32 q1b)]] => some ((zg8 q0e q0m q0g q0o q0f q0n q0s q11 q18 q1a q1b), ((AV.v (TV.one (At.bool (zf4 q0e q0m q0g q0o q0f q0n q0s q11 q18 q1a q1b)))), []))
  | _ => none
def zk4 (q0e : Nat) (q0m : List Nat) (q0g : Nat) (q0o : List Nat) (q0f : Nat) (q0n : List Nat) (q0s : Nat) (q11 : List Nat) (q18 : Int) (q1a : Nat) (q1b : Nat) : Option (Bool) → Option (AV × List Blk)
  | some r => some ((AV.v (TV.one (At.bool r))), [])
  | none => none
theorem zoj (q0e : Nat) (q0m : List Nat) (q0g : Nat) (q0o : List Nat) (q0f : Nat) (q0n : List Nat) (q0s : Nat) (q11 : List Nat) (q18 : Int) (q1a : Nat) (q1b : Nat) : evFn Γ13 8 8 87 (impTs 0 [.agg [.row 1 q0e (.fl .f32 q0m), .row 1 q0g (.fl .f32 q0o), .row 1 q0f (.fl .f32 q0n), .row 3 q0s (.fl .f32 q11), .s (.int .i64 q18), .s (.flt .f32 q1a), .s (.flt .f32 q1b)]]).1 (impTs 0 [.agg [.row 1 q0e (.fl .f32 q0m), .row 1 q0g (.fl .f32 q0o), .row 1 q0f (.fl .f32 q0n), .row 3 q0s (.fl .f32 q11), .s (.int .i64 q18), .s (.flt .f32 q1a), .s (.flt .f32 q1b)]]).2 (expo (impTs 0 [.agg [.row 1 q0e (.fl .f32 q0m), .row 1 q0g (.fl .f32 q0o), .row 1 q0f (.fl .f32 q0n), .row 3 q0s (.fl .f32 q11), .s (.int .i64 q18), .s (.flt .f32 q1a), .s (.flt .f32 q1b)]]).2.length) = zbr q0e q0m q0g q0o q0f q0n q0s q11 q18 q1a q1b (fun c0_ => some ((AV.v (TV.one (At.bool c0_))), [])) := by kernel_rfl
theorem z3r : SumOne Try.prog 87 z3x := sum_of (Γ := Γ13) (fuel := 8) (d := 8) tyTab_ok (FnL.ok fnTab_ok _ _) (LpL.ok lt13_ok) (SumL.ok tb13_ok _) mixed (by
  intro pts v news hp hc
  clear hc
  unfold z3x at hp
  split at hp
  · rename_i q0e q0m q0g q0o q0f q0n q0s q11 q18 q1a q1b
    exact Eq.trans (Eq.trans (zoj q0e q0m q0g q0o q0f q0n q0s q11 q18 q1a q1b) (zm0 (zk4 q0e q0m q0g q0o q0f q0n q0s q11 q18 q1a q1b) rfl q0e q0m q0g q0o q0f q0n q0s q11 q18 q1a q1b (fun c0_ => some c0_))) (fin_out (o := (zk4 q0e q0m q0g q0o q0f q0n q0s q11 q18 q1a q1b)) (x := zbp q0e q0m q0g q0o q0f q0n q0s q11 q18 q1a q1b) (d := default) (V := fun r => ((AV.v (TV.one (At.bool r))), [])) (fun r => rfl) hp)
  · cases hp)
noncomputable def tb14 : List (Nat × (List PT → Option (Bool × AV × List Blk))) := [(125, z25), (128, z0q), (134, z1c), (137, z24), (18, z2e), (48, z1x), (54, z2x), (61, z2c), (63, z3s), (64, z3l), (66, z3k), (97, z2w), (104, z0m), (14, z2j), (67, z1q), (103, z32), (105, z2i), (111, z3d), (114, z33), (118, z1p), (122, z13), (52, z28), (72, z1g), (79, z1i), (119, z29), (16, z30), (36, z20), (57, z2g), (19, z37), (33, z36), (62, z41), (69, z2r), (99, z0d), (99, z08), (30, z3q), (99, z0h), (117, z0c), (117, z0f), (117, z05), (91, z47), (95, z3i), (96, z3p), (112, z31), (53, z3a), (28, z3w), (87, z3x)]
noncomputable def lt14 : List ((Nat × Nat) × (Nat → St → Option (Bool × LO))) := [((52, 3), z18), ((72, 2), z0x), ((79, 2), z0v), ((57, 4), z1d), ((62, 5), z3f), ((69, 4), z1k), ((99, 2), z03), ((99, 2), z01), ((99, 2), z09), ((91, 6), z3o), ((53, 5), z26), ((28, 5), z3e), ((87, 6), z3h)]
noncomputable def Γ14 : Ctx := ⟨tyTab, fnTab, tblSum tb14, tblLp lt14⟩
theorem tb14_ok : SumL Try.prog tb14 := SumL.cons z1b (SumL.cons z0j (SumL.cons z0z (SumL.cons z1a (SumL.cons z1f (SumL.cons z17 (SumL.cons z1w (SumL.cons z1h (SumL.cons z39 (SumL.cons z2t (SumL.cons z2s (SumL.cons z1v (SumL.cons z0i (SumL.cons z1r (SumL.cons z15 (SumL.cons z22 (SumL.cons z1s (SumL.cons z2f (SumL.cons z21 (SumL.cons z14 (SumL.cons z0s (SumL.cons z1j (SumL.cons z11 (SumL.cons z12 (SumL.cons z1l (SumL.cons z23 (SumL.cons z1e (SumL.cons z1t (SumL.cons z2b (SumL.cons z2d (SumL.cons z3m (SumL.cons z1y (SumL.cons z0b (SumL.cons z06 (SumL.cons z3b (SumL.cons z0g (SumL.cons z0a (SumL.cons z0e (SumL.cons z04 (SumL.cons z3v (SumL.cons z35 (SumL.cons z3c (SumL.cons z2a (SumL.cons z2v (SumL.cons z3n (SumL.cons z3r (SumL.nil))))))))))))))))))))))))))))))))))))))))))))))
theorem lt14_ok : LpL Try.prog fnTab lt14 := LpL.cons z0t (LpL.cons z0k (LpL.cons z0l (LpL.cons z0y (LpL.cons z2h (LpL.cons z10 (LpL.cons z02 (LpL.cons z00 (LpL.cons z07 (LpL.cons z38 (LpL.cons z1m (LpL.cons z2u (LpL.cons z34 (LpL.nil)))))))))))))
noncomputable def tb15 : List (Nat × (List PT → Option (Bool × AV × List Blk))) := [(125, z25), (128, z0q), (134, z1c), (137, z24), (18, z2e), (48, z1x), (54, z2x), (61, z2c), (63, z3s), (64, z3l), (66, z3k), (97, z2w), (104, z0m), (14, z2j), (67, z1q), (103, z32), (105, z2i), (111, z3d), (114, z33), (118, z1p), (122, z13), (52, z28), (72, z1g), (79, z1i), (119, z29), (16, z30), (36, z20), (57, z2g), (19, z37), (33, z36), (62, z41), (69, z2r), (99, z0d), (99, z08), (30, z3q), (99, z0h), (117, z0c), (117, z0f), (117, z05), (91, z47), (95, z3i), (96, z3p), (112, z31), (53, z3a), (28, z3w), (87, z3x)]
noncomputable def lt15 : List ((Nat × Nat) × (Nat → St → Option (Bool × LO))) := [((52, 3), z18), ((72, 2), z0x), ((79, 2), z0v), ((57, 4), z1d), ((62, 5), z3f), ((69, 4), z1k), ((99, 2), z03), ((99, 2), z01), ((99, 2), z09), ((91, 6), z3o), ((53, 5), z26), ((28, 5), z3e), ((87, 6), z3h)]
noncomputable def Γ15 : Ctx := ⟨tyTab, fnTab, tblSum tb15, tblLp lt15⟩
theorem tb15_ok : SumL Try.prog tb15 := SumL.cons z1b (SumL.cons z0j (SumL.cons z0z (SumL.cons z1a (SumL.cons z1f (SumL.cons z17 (SumL.cons z1w (SumL.cons z1h (SumL.cons z39 (SumL.cons z2t (SumL.cons z2s (SumL.cons z1v (SumL.cons z0i (SumL.cons z1r (SumL.cons z15 (SumL.cons z22 (SumL.cons z1s (SumL.cons z2f (SumL.cons z21 (SumL.cons z14 (SumL.cons z0s (SumL.cons z1j (SumL.cons z11 (SumL.cons z12 (SumL.cons z1l (SumL.cons z23 (SumL.cons z1e (SumL.cons z1t (SumL.cons z2b (SumL.cons z2d (SumL.cons z3m (SumL.cons z1y (SumL.cons z0b (SumL.cons z06 (SumL.cons z3b (SumL.cons z0g (SumL.cons z0a (SumL.cons z0e (SumL.cons z04 (SumL.cons z3v (SumL.cons z35 (SumL.cons z3c (SumL.cons z2a (SumL.cons z2v (SumL.cons z3n (SumL.cons z3r (SumL.nil))))))))))))))))))))))))))))))))))))))))))))))
theorem lt15_ok : LpL Try.prog fnTab lt15 := LpL.cons z0t (LpL.cons z0k (LpL.cons z0l (LpL.cons z0y (LpL.cons z2h (LpL.cons z10 (LpL.cons z02 (LpL.cons z00 (LpL.cons z07 (LpL.cons z38 (LpL.cons z1m (LpL.cons z2u (LpL.cons z34 (LpL.nil)))))))))))))
noncomputable def tb16 : List (Nat × (List PT → Option (Bool × AV × List Blk))) := [(125, z25), (128, z0q), (134, z1c), (137, z24), (18, z2e), (48, z1x), (54, z2x), (61, z2c), (63, z3s), (64, z3l), (66, z3k), (97, z2w), (104, z0m), (14, z2j), (67, z1q), (103, z32), (105, z2i), (111, z3d), (114, z33), (118, z1p), (122, z13), (52, z28), (72, z1g), (79, z1i), (119, z29), (16, z30), (36, z20), (57, z2g), (19, z37), (33, z36), (62, z41), (69, z2r), (99, z0d), (99, z08), (30, z3q), (99, z0h), (117, z0c), (117, z0f), (117, z05), (91, z47), (95, z3i), (96, z3p), (112, z31), (53, z3a), (28, z3w), (87, z3x)]
noncomputable def lt16 : List ((Nat × Nat) × (Nat → St → Option (Bool × LO))) := [((52, 3), z18), ((72, 2), z0x), ((79, 2), z0v), ((57, 4), z1d), ((62, 5), z3f), ((69, 4), z1k), ((99, 2), z03), ((99, 2), z01), ((99, 2), z09), ((91, 6), z3o), ((53, 5), z26), ((28, 5), z3e), ((87, 6), z3h)]
noncomputable def Γ16 : Ctx := ⟨tyTab, fnTab, tblSum tb16, tblLp lt16⟩
theorem tb16_ok : SumL Try.prog tb16 := SumL.cons z1b (SumL.cons z0j (SumL.cons z0z (SumL.cons z1a (SumL.cons z1f (SumL.cons z17 (SumL.cons z1w (SumL.cons z1h (SumL.cons z39 (SumL.cons z2t (SumL.cons z2s (SumL.cons z1v (SumL.cons z0i (SumL.cons z1r (SumL.cons z15 (SumL.cons z22 (SumL.cons z1s (SumL.cons z2f (SumL.cons z21 (SumL.cons z14 (SumL.cons z0s (SumL.cons z1j (SumL.cons z11 (SumL.cons z12 (SumL.cons z1l (SumL.cons z23 (SumL.cons z1e (SumL.cons z1t (SumL.cons z2b (SumL.cons z2d (SumL.cons z3m (SumL.cons z1y (SumL.cons z0b (SumL.cons z06 (SumL.cons z3b (SumL.cons z0g (SumL.cons z0a (SumL.cons z0e (SumL.cons z04 (SumL.cons z3v (SumL.cons z35 (SumL.cons z3c (SumL.cons z2a (SumL.cons z2v (SumL.cons z3n (SumL.cons z3r (SumL.nil))))))))))))))))))))))))))))))))))))))))))))))
theorem lt16_ok : LpL Try.prog fnTab lt16 := LpL.cons z0t (LpL.cons z0k (LpL.cons z0l (LpL.cons z0y (LpL.cons z2h (LpL.cons z10 (LpL.cons z02 (LpL.cons z00 (LpL.cons z07 (LpL.cons z38 (LpL.cons z1m (LpL.cons z2u (LpL.cons z34 (LpL.nil)))))))))))))
noncomputable def zjm (q0a : Int) (hub : Nat) (tip : Nat) (q0k : Nat) (q0l : Nat) (t29 : Int) (t30 : Int) (b0 : List Nat) (b1 : List Nat) (b2 : List Nat) (q0i : Nat) (q0r : Nat) (q0q : Nat) (q35 : Nat) (q39 : Int) (q38 : Nat) (q3d : Nat) (b4 : List Nat) (b5 : List Nat) (b6 : List Nat) (b7 : List Nat) (q32 : Nat) (q33 : Nat) (q34 : Nat) (q1k : Nat) (q3a : Int) (q3b : Nat) (q3c : Nat) (b9 : List Nat) (b10 : List Nat) (b11 : List Nat) (b12 : List Nat) : Bool × LO := ((zdx q0a hub tip q0k q0l t29 t30 q1k b12), (LO.one (Ex.exit 0) (St.mk [(2, (AV.v (TV.one (At.int IntKind.i64 q0a)))), (3, (AV.v (TV.one (At.flt FloatKind.f32 hub)))), (4, (AV.v (TV.one (At.flt FloatKind.f32 tip)))), (5, (AV.v (TV.one (At.flt FloatKind.f32 q0k)))), (6, (AV.v (TV.one (At.flt FloatKind.f32 q0l)))), (14, (AV.v (TV.one (At.ptr 3 0 7)))), (16, (AV.v (TV.one (At.ptr 8 0 7)))), (29, (AV.v (TV.one (At.int IntKind.i64 t29)))), (30, (AV.v (TV.one (At.int IntKind.i64 (zfp q0a hub tip q0k q0l t29 t30 q1k b12))))), (31, (AV.v (TV.one (At.bool (zfu q0a hub tip q0k q0l t29 t30 q1k b12)))))] [(Blk.mk Bool.false (Body.fl FloatKind.f32 b0)), (Blk.mk Bool.false (Body.fl FloatKind.f32 b1)), (Blk.mk Bool.false (Body.fl FloatKind.f32 b2)), (Blk.mk Bool.true (Body.cells [(At.sl 4 0 q0i 3), (At.sl 5 0 q0r 3), (At.sl 6 0 q0q 3), (At.sl 7 0 q35 3), (At.int IntKind.i64 q39), (At.flt FloatKind.f32 q38), (At.flt FloatKind.f32 q3d)])), (Blk.mk Bool.true (Body.fl FloatKind.f32 b4)), (Blk.mk Bool.true (Body.fl FloatKind.f32 b5)), (Blk.mk Bool.true (Body.fl FloatKind.f32 b6)), (Blk.mk Bool.true (Body.fl FloatKind.f32 b7)), (Blk.mk Bool.true (Body.cells [(At.sl 9 0 q32 1), (At.sl 10 0 q33 1), (At.sl 11 0 q34 1), (At.sl 12 0 (z6x q0a hub tip q0k q0l t29 t30 q1k b12) 3), (At.int IntKind.i64 q3a), (At.flt FloatKind.f32 q3b), (At.flt FloatKind.f32 q3c)])), (Blk.mk Bool.true (Body.fl FloatKind.f32 b9)), (Blk.mk Bool.true (Body.fl FloatKind.f32 b10)), (Blk.mk Bool.true (Body.fl FloatKind.f32 b11)), (Blk.mk Bool.true (Body.fl FloatKind.f32 (z8k q0a hub tip q0k q0l t29 t30 q1k b12)))])))
noncomputable def z44 : Nat → St → Option (Bool × LO) := lpT 3 (pSt [(pTm 2 (pV (pOne (pInt IntKind.i64)))), (pTm 3 (pV (pOne (pFlt FloatKind.f32)))), (pTm 4 (pV (pOne (pFlt FloatKind.f32)))), (pTm 5 (pV (pOne (pFlt FloatKind.f32)))), (pTm 6 (pV (pOne (pFlt FloatKind.f32)))), (pTm 14 (pV (pOne (pPtr 3 (liN 0) 7)))), (pTm 16 (pV (pOne (pPtr 8 (liN 0) 7)))), (pTm 29 (pV (pOne (pInt IntKind.i64)))), (pTm 30 (pV (pOne (pInt IntKind.i64))))] [(pBlk Bool.false (pFl FloatKind.f32)), (pBlk Bool.false (pFl FloatKind.f32)), (pBlk Bool.false (pFl FloatKind.f32)), (pBlk Bool.true (pCells [(pSl 4 (liN 0) 3), (pSl 5 (liN 0) 3), (pSl 6 (liN 0) 3), (pSl 7 (liN 0) 3), (pInt IntKind.i64), (pFlt FloatKind.f32), (pFlt FloatKind.f32)])), (pBlk Bool.true (pFl FloatKind.f32)), (pBlk Bool.true (pFl FloatKind.f32)), (pBlk Bool.true (pFl FloatKind.f32)), (pBlk Bool.true (pFl FloatKind.f32)), (pBlk Bool.true (pCells [(pSl 9 (liN 0) 1), (pSl 10 (liN 0) 1), (pSl 11 (liN 0) 1), (pSl 12 (liN 0) 3), (pInt IntKind.i64), (pFlt FloatKind.f32), (pFlt FloatKind.f32)])), (pBlk Bool.true (pFl FloatKind.f32)), (pBlk Bool.true (pFl FloatKind.f32)), (pBlk Bool.true (pFl FloatKind.f32)), (pBlk Bool.true (pFl FloatKind.f32))]) (fun hs => zjm (hvI (hGet hs 0)) (hvN (hGet hs 1)) (hvN (hGet hs 2)) (hvN (hGet hs 3)) (hvN (hGet hs 4)) (hvI (hGet hs 5)) (hvI (hGet hs 6)) (hvLn (hGet hs 7)) (hvLn (hGet hs 8)) (hvLn (hGet hs 9)) (hvN (hGet hs 10)) (hvN (hGet hs 11)) (hvN (hGet hs 12)) (hvN (hGet hs 13)) (hvI (hGet hs 14)) (hvN (hGet hs 15)) (hvN (hGet hs 16)) (hvLn (hGet hs 17)) (hvLn (hGet hs 18)) (hvLn (hGet hs 19)) (hvLn (hGet hs 20)) (hvN (hGet hs 21)) (hvN (hGet hs 22)) (hvN (hGet hs 23)) (hvN (hGet hs 24)) (hvI (hGet hs 25)) (hvN (hGet hs 26)) (hvN (hGet hs 27)) (hvLn (hGet hs 28)) (hvLn (hGet hs 29)) (hvLn (hGet hs 30)) (hvLn (hGet hs 31)))
def ze2 (q0a : Int) (hub : Nat) (tip : Nat) (q0k : Nat) (q0l : Nat) (t29 : Int) (b0 : List Nat) (b1 : List Nat) (b2 : List Nat) (q0i : Nat) (q0r : Nat) (q0q : Nat) (q35 : Nat) (q39 : Int) (q38 : Nat) (q3d : Nat) (b4 : List Nat) (b5 : List Nat) (b6 : List Nat) (b7 : List Nat) (q32 : Nat) (q33 : Nat) (q34 : Nat) (q3a : Int) (q3b : Nat) (q3c : Nat) (b9 : List Nat) (b10 : List Nat) (b11 : List Nat) : Option ((Int × Bool × Nat × (List Nat))) → Option (Ex × St)
  | none => none
  | some r => some ((Ex.exit 0), (St.mk [(2, (AV.v (TV.one (At.int IntKind.i64 q0a)))), (3, (AV.v (TV.one (At.flt FloatKind.f32 hub)))), (4, (AV.v (TV.one (At.flt FloatKind.f32 tip)))), (5, (AV.v (TV.one (At.flt FloatKind.f32 q0k)))), (6, (AV.v (TV.one (At.flt FloatKind.f32 q0l)))), (14, (AV.v (TV.one (At.ptr 3 0 7)))), (16, (AV.v (TV.one (At.ptr 8 0 7)))), (29, (AV.v (TV.one (At.int IntKind.i64 t29)))), (30, (AV.v (TV.one (At.int IntKind.i64 r.1)))), (31, (AV.v (TV.one (At.bool r.2.1))))] [(Blk.mk Bool.false (Body.fl FloatKind.f32 b0)), (Blk.mk Bool.false (Body.fl FloatKind.f32 b1)), (Blk.mk Bool.false (Body.fl FloatKind.f32 b2)), (Blk.mk Bool.true (Body.cells [(At.sl 4 0 q0i 3), (At.sl 5 0 q0r 3), (At.sl 6 0 q0q 3), (At.sl 7 0 q35 3), (At.int IntKind.i64 q39), (At.flt FloatKind.f32 q38), (At.flt FloatKind.f32 q3d)])), (Blk.mk Bool.true (Body.fl FloatKind.f32 b4)), (Blk.mk Bool.true (Body.fl FloatKind.f32 b5)), (Blk.mk Bool.true (Body.fl FloatKind.f32 b6)), (Blk.mk Bool.true (Body.fl FloatKind.f32 b7)), (Blk.mk Bool.true (Body.cells [(At.sl 9 0 q32 1), (At.sl 10 0 q33 1), (At.sl 11 0 q34 1), (At.sl 12 0 r.2.2.1 3), (At.int IntKind.i64 q3a), (At.flt FloatKind.f32 q3b), (At.flt FloatKind.f32 q3c)])), (Blk.mk Bool.true (Body.fl FloatKind.f32 b9)), (Blk.mk Bool.true (Body.fl FloatKind.f32 b10)), (Blk.mk Bool.true (Body.fl FloatKind.f32 b11)), (Blk.mk Bool.true (Body.fl FloatKind.f32 r.2.2.2))]))
def zmg (q0a : Int) (hub : Nat) (tip : Nat) (q0k : Nat) (q0l : Nat) (t29 : Int) (b0 : List Nat) (b1 : List Nat) (b2 : List Nat) (q0i : Nat) (q0r : Nat) (q0q : Nat) (q35 : Nat) (q39 : Int) (q38 : Nat) (q3d : Nat) (b4 : List Nat) (b5 : List Nat) (b6 : List Nat) (b7 : List Nat) (q32 : Nat) (q33 : Nat) (q34 : Nat) (q3a : Int) (q3b : Nat) (q3c : Nat) (b9 : List Nat) (b10 : List Nat) (b11 : List Nat) (x : Option ((Int × Bool × Nat × (List Nat)))) : LO := (LO.one (Ex.exit 0) (St.mk [(2, (AV.v (TV.one (At.int IntKind.i64 q0a)))), (3, (AV.v (TV.one (At.flt FloatKind.f32 hub)))), (4, (AV.v (TV.one (At.flt FloatKind.f32 tip)))), (5, (AV.v (TV.one (At.flt FloatKind.f32 q0k)))), (6, (AV.v (TV.one (At.flt FloatKind.f32 q0l)))), (14, (AV.v (TV.one (At.ptr 3 0 7)))), (16, (AV.v (TV.one (At.ptr 8 0 7)))), (29, (AV.v (TV.one (At.int IntKind.i64 t29)))), (30, (AV.v (TV.one (At.int IntKind.i64 (x.getD default).1)))), (31, (AV.v (TV.one (At.bool (x.getD default).2.1))))] [(Blk.mk Bool.false (Body.fl FloatKind.f32 b0)), (Blk.mk Bool.false (Body.fl FloatKind.f32 b1)), (Blk.mk Bool.false (Body.fl FloatKind.f32 b2)), (Blk.mk Bool.true (Body.cells [(At.sl 4 0 q0i 3), (At.sl 5 0 q0r 3), (At.sl 6 0 q0q 3), (At.sl 7 0 q35 3), (At.int IntKind.i64 q39), (At.flt FloatKind.f32 q38), (At.flt FloatKind.f32 q3d)])), (Blk.mk Bool.true (Body.fl FloatKind.f32 b4)), (Blk.mk Bool.true (Body.fl FloatKind.f32 b5)), (Blk.mk Bool.true (Body.fl FloatKind.f32 b6)), (Blk.mk Bool.true (Body.fl FloatKind.f32 b7)), (Blk.mk Bool.true (Body.cells [(At.sl 9 0 q32 1), (At.sl 10 0 q33 1), (At.sl 11 0 q34 1), (At.sl 12 0 (x.getD default).2.2.1 3), (At.int IntKind.i64 q3a), (At.flt FloatKind.f32 q3b), (At.flt FloatKind.f32 q3c)])), (Blk.mk Bool.true (Body.fl FloatKind.f32 b9)), (Blk.mk Bool.true (Body.fl FloatKind.f32 b10)), (Blk.mk Bool.true (Body.fl FloatKind.f32 b11)), (Blk.mk Bool.true (Body.fl FloatKind.f32 (x.getD default).2.2.2))]))
end Go.Proofs.Ytihlcjjbenkokaa
