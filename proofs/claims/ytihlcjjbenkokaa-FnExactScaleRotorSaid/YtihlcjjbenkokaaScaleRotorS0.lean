/-
  What functions answer: that the evaluator answers so. Printed by a program.
-/
import Derived.Test.YtihlcjjbenkokaaScaleRotorC
set_option linter.unusedVariables false
set_option linter.unusedSimpArgs false
set_option maxRecDepth 100000
set_option maxHeartbeats 4000000
namespace Go.Proofs.Ytihlcjjbenkokaa
open Go Go.Rf
def z2f : List PT → Option (Bool × AV × List Blk)
  | [.one (.s (.flt .f64 x))] => some (bnot (nanQ .f64 x), A1 (.flt .f64 (fint .down x)), [])
  | _ => none
theorem z1g : SumOne Try.prog 125 z2f := by
  intro pts v news hp w vals hv
  unfold z2f at hp
  split at hp
  · rename_i x
    injection hp with hp
    injection hp with h1 hp
    injection hp with h2 h3
    subst h2
    subst h3
    obtain ⟨l, hl⟩ : ∃ l, l = vals.toList := ⟨_, rfl⟩
    rw [← hl] at hv
    cases hv with
    | cons a1 a2 =>
      cases a2
      obtain ⟨b, hb1, hb2, hb3⟩ := a1
      subst hb1
      rename_i hx
      have hvals : vals = #[.float .f64 b] := by rw [← Array.toList_inj, ← hl]
      subst hvals
      have hn : nanB .f64 b = false := by rw [← nanB_cn, hb3]; simpa [bnot, nanQ] using h1
      rw [cn_of_not hn] at hb3
      subst hb3
      refine .inl ⟨_, w, by (simp only [callFunc, Sem.run_bind, run_program, Result.andThen_ok, Try.func125]; change (do let v ← Extern.MathFloor.toIntegral "math.archFloor" .down #[.float .f64 b]; pure (.value v) : Sem Next).run Try.prog w = _; rw [Sem.run_bind, run_fint hn]; rfl), NoB, ⟨⟨(fun t b' h => by cases t <;> cases h), (fun t t' b1 b2 x x' _ h => by cases t <;> cases h)⟩, (fun t x h => by cases h), Fr.refl _ w⟩, fint_rel hn⟩
  · cases hp
def z0w : List PT → Option (Bool × AV × List Blk)
  | [.one (.s (.int .u64 x))] => some (okU .f64 x, A1 (.flt .f64 (cnI .f64 x)), [])
  | _ => none
theorem z0l : SumOne Try.prog 128 z0w := by
  intro pts v news hp w vals hv
  unfold z0w at hp
  split at hp
  · rename_i x
    injection hp with hp
    injection hp with h1 hp
    injection hp with h2 h3
    subst h2
    subst h3
    obtain ⟨l, hl⟩ : ∃ l, l = vals.toList := ⟨_, rfl⟩
    rw [← hl] at hv
    cases hv with
    | cons a1 a2 =>
      cases a2
      have hb1 : _ = Value.int .u64 x := a1
      subst hb1
      rename_i hx
      have hvals : vals = #[.int .u64 x] := by rw [← Array.toList_inj, ← hl]
      subst hvals
      have hw := okU_lt h1
      refine .inl ⟨_, w, by (simp only [callFunc, Sem.run_bind, run_program, Result.andThen_ok, Try.func128]; rfl), NoB, ⟨⟨(fun t b' h => by cases t <;> cases h), (fun t t' b1 b2 x x' _ h => by cases t <;> cases h)⟩, (fun t x h => by cases h), Fr.refl _ w⟩, ⟨_, rfl, hw, rfl⟩⟩
  · cases hp
def z1i : List PT → Option (Bool × AV × List Blk)
  | [.one (.s (.flt .f64 x))] => some (bnot (nanQ .f64 x), A1 (.int .u64 x), [])
  | _ => none
theorem z14 : SumOne Try.prog 134 z1i := by
  intro pts v news hp w vals hv
  unfold z1i at hp
  split at hp
  · rename_i x
    injection hp with hp
    injection hp with h1 hp
    injection hp with h2 h3
    subst h2
    subst h3
    obtain ⟨l, hl⟩ : ∃ l, l = vals.toList := ⟨_, rfl⟩
    rw [← hl] at hv
    cases hv with
    | cons a1 a2 =>
      cases a2
      obtain ⟨b, hb1, hb2, hb3⟩ := a1
      subst hb1
      rename_i hx
      have hvals : vals = #[.float .f64 b] := by rw [← Array.toList_inj, ← hl]
      subst hvals
      have hn : nanB .f64 b = false := by rw [← nanB_cn, hb3]; simpa [bnot, nanQ] using h1
      rw [cn_of_not hn] at hb3
      subst hb3
      refine .inl ⟨_, w, by (simp only [callFunc, Sem.run_bind, run_program, Result.andThen_ok, Try.func134]; rfl), NoB, ⟨⟨(fun t b' h => by cases t <;> cases h), (fun t t' b1 b2 x x' _ h => by cases t <;> cases h)⟩, (fun t x h => by cases h), Fr.refl _ w⟩, rfl⟩
  · cases hp
def z2g : List PT → Option (Bool × AV × List Blk)
  | [.one (.s (.flt .f64 x))] => some (bnot (nanQ .f64 x), A1 (.flt .f64 (fint .zero x)), [])
  | _ => none
theorem z1h : SumOne Try.prog 137 z2g := by
  intro pts v news hp w vals hv
  unfold z2g at hp
  split at hp
  · rename_i x
    injection hp with hp
    injection hp with h1 hp
    injection hp with h2 h3
    subst h2
    subst h3
    obtain ⟨l, hl⟩ : ∃ l, l = vals.toList := ⟨_, rfl⟩
    rw [← hl] at hv
    cases hv with
    | cons a1 a2 =>
      cases a2
      obtain ⟨b, hb1, hb2, hb3⟩ := a1
      subst hb1
      rename_i hx
      have hvals : vals = #[.float .f64 b] := by rw [← Array.toList_inj, ← hl]
      subst hvals
      have hn : nanB .f64 b = false := by rw [← nanB_cn, hb3]; simpa [bnot, nanQ] using h1
      rw [cn_of_not hn] at hb3
      subst hb3
      refine .inl ⟨_, w, by (simp only [callFunc, Sem.run_bind, run_program, Result.andThen_ok, Try.func137]; change (do let v ← Extern.MathFloor.toIntegral "math.archTrunc" .zero #[.float .f64 b]; pure (.value v) : Sem Next).run Try.prog w = _; rw [Sem.run_bind, run_fint hn]; rfl), NoB, ⟨⟨(fun t b' h => by cases t <;> cases h), (fun t t' b1 b2 x x' _ h => by cases t <;> cases h)⟩, (fun t x h => by cases h), Fr.refl _ w⟩, fint_rel hn⟩
  · cases hp
noncomputable def tb0 : List (Nat × (List PT → Option (Bool × AV × List Blk))) := [(125, z2f), (128, z0w), (134, z1i), (137, z2g)]
noncomputable def lt0 : List ((Nat × Nat) × (Nat → St → Option (Bool × LO))) := []
noncomputable def Γ0 : Ctx := ⟨tyTab, fnTab, tblSum tb0, tblLp lt0⟩
theorem tb0_ok : SumL Try.prog tb0 := SumL.cons z1g (SumL.cons z0l (SumL.cons z14 (SumL.cons z1h (SumL.nil))))
theorem lt0_ok : LpL Try.prog fnTab lt0 := LpL.nil
noncomputable def z2o : List PT → Option (Bool × AV × List Blk)
  | [.one (.s (.flt .f64 a)), .one (.s (.flt .f64 b))] => some ((z9h a b), ((AV.v (TV.one (At.bool (z97 a b)))), []))
  | _ => none
def znu (a : Nat) (b : Nat) : Option (Bool) → Option (AV × List Blk)
  | some r => some ((AV.v (TV.one (At.bool r))), [])
  | none => none
theorem zsb (a : Nat) (b : Nat) : evFn Γ0 8 8 18 (impTs 0 [.one (.s (.flt .f64 a)), .one (.s (.flt .f64 b))]).1 (impTs 0 [.one (.s (.flt .f64 a)), .one (.s (.flt .f64 b))]).2 (expo (impTs 0 [.one (.s (.flt .f64 a)), .one (.s (.flt .f64 b))]).2.length) = zdz a b (fun c0_ => some ((AV.v (TV.one (At.bool c0_))), [])) := by kernel_rfl
theorem z1p : SumOne Try.prog 18 z2o := sum_of (Γ := Γ0) (fuel := 8) (d := 8) tyTab_ok (FnL.ok fnTab_ok _ _) (LpL.ok lt0_ok) (SumL.ok tb0_ok _) mixed (by
  intro pts v news hp hc
  clear hc
  unfold z2o at hp
  split at hp
  · rename_i a b
    exact Eq.trans (Eq.trans (zsb a b) (zq7 (znu a b) rfl a b (fun c0_ => some c0_))) (fin_out (o := (znu a b)) (x := ze3 a b) (d := default) (V := fun r => ((AV.v (TV.one (At.bool r))), [])) (fun r => rfl) hp)
  · cases hp)
noncomputable def z2p : List PT → Option (Bool × AV × List Blk)
  | [.agg [.s (.flt .f32 q2j), .s (.flt .f32 q2p), .s (.flt .f32 q2o)]] => some ((zmi q2j q2p q2o), ((AV.v (TV.agg [(At.flt FloatKind.f32 q2j), (At.flt FloatKind.f32 q2p), (At.flt FloatKind.f32 q2o)])), []))
  | _ => none
def znr (q2j : Nat) (q2p : Nat) (q2o : Nat) : Option (Unit) → Option (AV × List Blk)
  | some r => some ((AV.v (TV.agg [(At.flt FloatKind.f32 q2j), (At.flt FloatKind.f32 q2p), (At.flt FloatKind.f32 q2o)])), [])
  | none => none
theorem zsp (q2j : Nat) (q2p : Nat) (q2o : Nat) : evFn Γ0 8 8 44 (impTs 0 [.agg [.s (.flt .f32 q2j), .s (.flt .f32 q2p), .s (.flt .f32 q2o)]]).1 (impTs 0 [.agg [.s (.flt .f32 q2j), .s (.flt .f32 q2p), .s (.flt .f32 q2o)]]).2 (expo (impTs 0 [.agg [.s (.flt .f32 q2j), .s (.flt .f32 q2p), .s (.flt .f32 q2o)]]).2.length) = zfb q2j q2p q2o (fun _ => some ((AV.v (TV.agg [(At.flt FloatKind.f32 q2j), (At.flt FloatKind.f32 q2p), (At.flt FloatKind.f32 q2o)])), [])) := by kernel_rfl
theorem z1q : SumOne Try.prog 44 z2p := sum_of (Γ := Γ0) (fuel := 8) (d := 8) tyTab_ok (FnL.ok fnTab_ok _ _) (LpL.ok lt0_ok) (SumL.ok tb0_ok _) mixed (by
  intro pts v news hp hc
  clear hc
  unfold z2p at hp
  split at hp
  · rename_i q2j q2p q2o
    exact Eq.trans (Eq.trans (zsp q2j q2p q2o) (zqd (znr q2j q2p q2o) rfl q2j q2p q2o (fun _ => some ()))) (fin_out (o := (znr q2j q2p q2o)) (x := zny q2j q2p q2o) (d := default) (V := fun r => ((AV.v (TV.agg [(At.flt FloatKind.f32 q2j), (At.flt FloatKind.f32 q2p), (At.flt FloatKind.f32 q2o)])), [])) (fun r => rfl) hp)
  · cases hp)
noncomputable def z26 : List PT → Option (Bool × AV × List Blk)
  | [.one (.row 1 a_n (.fl .f32 a)), .one (.s (.int .i64 q2c))] => some ((zd8 a_n a q2c), ((AV.v (TV.one (At.int IntKind.i64 (z5m a_n a q2c)))), []))
  | _ => none
def zn7 (a_n : Nat) (a : List Nat) (q2c : Int) : Option (Int) → Option (AV × List Blk)
  | some r => some ((AV.v (TV.one (At.int IntKind.i64 r))), [])
  | none => none
theorem zs7 (a_n : Nat) (a : List Nat) (q2c : Int) : evFn Γ0 8 8 48 (impTs 0 [.one (.row 1 a_n (.fl .f32 a)), .one (.s (.int .i64 q2c))]).1 (impTs 0 [.one (.row 1 a_n (.fl .f32 a)), .one (.s (.int .i64 q2c))]).2 (expo (impTs 0 [.one (.row 1 a_n (.fl .f32 a)), .one (.s (.int .i64 q2c))]).2.length) = zdh a_n a q2c (fun c0_ => some ((AV.v (TV.one (At.int IntKind.i64 c0_))), [])) := by kernel_rfl
theorem z1f : SumOne Try.prog 48 z26 := sum_of (Γ := Γ0) (fuel := 8) (d := 8) tyTab_ok (FnL.ok fnTab_ok _ _) (LpL.ok lt0_ok) (SumL.ok tb0_ok _) mixed (by
  intro pts v news hp hc
  clear hc
  unfold z26 at hp
  split at hp
  · rename_i a_n a q2c
    exact Eq.trans (Eq.trans (zs7 a_n a q2c) (zp7 (zn7 a_n a q2c) rfl a_n a q2c (fun c0_ => some c0_))) (fin_out (o := (zn7 a_n a q2c)) (x := zd9 a_n a q2c) (d := default) (V := fun r => ((AV.v (TV.one (At.int IntKind.i64 r))), [])) (fun r => rfl) hp)
  · cases hp)
noncomputable def z3f : List PT → Option (Bool × AV × List Blk)
  | [.one (.s (.flt .f32 x))] => some ((za5 x), ((AV.v (TV.one (At.bool (z9i x)))), []))
  | _ => none
def zof (x : Nat) : Option (Bool) → Option (AV × List Blk)
  | some r => some ((AV.v (TV.one (At.bool r))), [])
  | none => none
theorem zsx (x : Nat) : evFn Γ0 8 8 54 (impTs 0 [.one (.s (.flt .f32 x))]).1 (impTs 0 [.one (.s (.flt .f32 x))]).2 (expo (impTs 0 [.one (.s (.flt .f32 x))]).2.length) = zgx x (fun c0_ => some ((AV.v (TV.one (At.bool c0_))), [])) := by kernel_rfl
theorem z24 : SumOne Try.prog 54 z3f := sum_of (Γ := Γ0) (fuel := 8) (d := 8) tyTab_ok (FnL.ok fnTab_ok _ _) (LpL.ok lt0_ok) (SumL.ok tb0_ok _) mixed (by
  intro pts v news hp hc
  clear hc
  unfold z3f at hp
  split at hp
  · rename_i x
    exact Eq.trans (Eq.trans (zsx x) (zr1 (zof x) rfl x (fun c0_ => some c0_))) (fin_out (o := (zof x)) (x := zhs x) (d := default) (V := fun r => ((AV.v (TV.one (At.bool r))), [])) (fun r => rfl) hp)
  · cases hp)
noncomputable def z2n : List PT → Option (Bool × AV × List Blk)
  | [.one (.s (.flt .f32 x))] => some ((z81 x), ((AV.v (TV.one (At.bool (z7p x)))), []))
  | _ => none
def zo5 (x : Nat) : Option (Bool) → Option (AV × List Blk)
  | some r => some ((AV.v (TV.one (At.bool r))), [])
  | none => none
theorem zsi (x : Nat) : evFn Γ0 8 8 61 (impTs 0 [.one (.s (.flt .f32 x))]).1 (impTs 0 [.one (.s (.flt .f32 x))]).2 (expo (impTs 0 [.one (.s (.flt .f32 x))]).2.length) = zfh x (fun c0_ => some ((AV.v (TV.one (At.bool c0_))), [])) := by kernel_rfl
theorem z1o : SumOne Try.prog 61 z2n := sum_of (Γ := Γ0) (fuel := 8) (d := 8) tyTab_ok (FnL.ok fnTab_ok _ _) (LpL.ok lt0_ok) (SumL.ok tb0_ok _) mixed (by
  intro pts v news hp hc
  clear hc
  unfold z2n at hp
  split at hp
  · rename_i x
    exact Eq.trans (Eq.trans (zsi x) (zps (zo5 x) rfl x (fun c0_ => some c0_))) (fin_out (o := (zo5 x)) (x := zfi x) (d := default) (V := fun r => ((AV.v (TV.one (At.bool r))), [])) (fun r => rfl) hp)
  · cases hp)
noncomputable def z4f : List PT → Option (Bool × AV × List Blk)
  | [.one (.s (.int .i64 n_)), .one (.s (.int .i64 low)), .one (.s (.int .i64 q2v))] => some ((zmj n_ low q2v), ((AV.v (TV.one (At.bool (zmg n_ low q2v)))), []))
  | _ => none
def zrc (n_ : Int) (low : Int) (q2v : Int) : Option (Bool) → Option (AV × List Blk)
  | some r => some ((AV.v (TV.one (At.bool r))), [])
  | none => none
theorem zth (n_ : Int) (low : Int) (q2v : Int) : evFn Γ0 8 8 63 (impTs 0 [.one (.s (.int .i64 n_)), .one (.s (.int .i64 low)), .one (.s (.int .i64 q2v))]).1 (impTs 0 [.one (.s (.int .i64 n_)), .one (.s (.int .i64 low)), .one (.s (.int .i64 q2v))]).2 (expo (impTs 0 [.one (.s (.int .i64 n_)), .one (.s (.int .i64 low)), .one (.s (.int .i64 q2v))]).2.length) = zk1 n_ low q2v (fun c0_ => some ((AV.v (TV.one (At.bool c0_))), [])) := by kernel_rfl
theorem z3r : SumOne Try.prog 63 z4f := sum_of (Γ := Γ0) (fuel := 8) (d := 8) tyTab_ok (FnL.ok fnTab_ok _ _) (LpL.ok lt0_ok) (SumL.ok tb0_ok _) mixed (by
  intro pts v news hp hc
  clear hc
  unfold z4f at hp
  split at hp
  · rename_i n_ low q2v
    exact Eq.trans (Eq.trans (zth n_ low q2v) (zsg (zrc n_ low q2v) rfl n_ low q2v (fun c0_ => some c0_))) (fin_out (o := (zrc n_ low q2v)) (x := zkd n_ low q2v) (d := default) (V := fun r => ((AV.v (TV.one (At.bool r))), [])) (fun r => rfl) hp)
  · cases hp)
noncomputable def z42 : List PT → Option (Bool × AV × List Blk)
  | [.ptr [.row 1 q11 (.fl .f32 q1r), .row 1 q1c (.fl .f32 q25), .row 1 q1b (.fl .f32 q26)]] => some ((zmd q11 q1r q1c q25 q1b q26), ((AV.v (TV.agg [(At.sl 0 0 (zm4 q11 q1r q1c q25 q1b q26) 1), (At.sl 1 0 (zm0 q11 q1r q1c q25 q1b q26) 1), (At.sl 2 0 (zm3 q11 q1r q1c q25 q1b q26) 1)])), [(Blk.mk Bool.true (Body.fl FloatKind.f32 (zm2 q11 q1r q1c q25 q1b q26))), (Blk.mk Bool.true (Body.fl FloatKind.f32 (zm5 q11 q1r q1c q25 q1b q26))), (Blk.mk Bool.true (Body.fl FloatKind.f32 (zlz q11 q1r q1c q25 q1b q26)))]))
  | _ => none
def zqs (q11 : Nat) (q1r : List Nat) (q1c : Nat) (q25 : List Nat) (q1b : Nat) (q26 : List Nat) : Option (Nat × Nat × Nat × (List Nat) × (List Nat) × (List Nat)) → Option (AV × List Blk)
  | some r => some ((AV.v (TV.agg [(At.sl 0 0 r.1 1), (At.sl 1 0 r.2.1 1), (At.sl 2 0 r.2.2.1 1)])), [(Blk.mk Bool.true (Body.fl FloatKind.f32 r.2.2.2.1)), (Blk.mk Bool.true (Body.fl FloatKind.f32 r.2.2.2.2.1)), (Blk.mk Bool.true (Body.fl FloatKind.f32 r.2.2.2.2.2))])
  | none => none
theorem ztc (q11 : Nat) (q1r : List Nat) (q1c : Nat) (q25 : List Nat) (q1b : Nat) (q26 : List Nat) : evFn Γ0 8 8 64 (impTs 0 [.ptr [.row 1 q11 (.fl .f32 q1r), .row 1 q1c (.fl .f32 q25), .row 1 q1b (.fl .f32 q26)]]).1 (impTs 0 [.ptr [.row 1 q11 (.fl .f32 q1r), .row 1 q1c (.fl .f32 q25), .row 1 q1b (.fl .f32 q26)]]).2 (expo (impTs 0 [.ptr [.row 1 q11 (.fl .f32 q1r), .row 1 q1c (.fl .f32 q25), .row 1 q1b (.fl .f32 q26)]]).2.length) = zgu q11 q1r q1c q25 q1b q26 (fun c0_ c1_ c2_ c3_ c4_ c5_ => some ((AV.v (TV.agg [(At.sl 0 0 c0_ 1), (At.sl 1 0 c1_ 1), (At.sl 2 0 c2_ 1)])), [(Blk.mk Bool.true (Body.fl FloatKind.f32 c3_)), (Blk.mk Bool.true (Body.fl FloatKind.f32 c4_)), (Blk.mk Bool.true (Body.fl FloatKind.f32 c5_))])) := by kernel_rfl
theorem z3a : SumOne Try.prog 64 z42 := sum_of (Γ := Γ0) (fuel := 8) (d := 8) tyTab_ok (FnL.ok fnTab_ok _ _) (LpL.ok lt0_ok) (SumL.ok tb0_ok _) mixed (by
  intro pts v news hp hc
  clear hc
  unfold z42 at hp
  split at hp
  · rename_i q11 q1r q1c q25 q1b q26
    exact Eq.trans (Eq.trans (ztc q11 q1r q1c q25 q1b q26) (zrv (zqs q11 q1r q1c q25 q1b q26) rfl q11 q1r q1c q25 q1b q26 (fun c0_ c1_ c2_ c3_ c4_ c5_ => some (c0_, c1_, c2_, c3_, c4_, c5_)))) (fin_out (o := (zqs q11 q1r q1c q25 q1b q26)) (x := z9q q11 q1r q1c q25 q1b q26) (d := default) (V := fun r => ((AV.v (TV.agg [(At.sl 0 0 r.1 1), (At.sl 1 0 r.2.1 1), (At.sl 2 0 r.2.2.1 1)])), [(Blk.mk Bool.true (Body.fl FloatKind.f32 r.2.2.2.1)), (Blk.mk Bool.true (Body.fl FloatKind.f32 r.2.2.2.2.1)), (Blk.mk Bool.true (Body.fl FloatKind.f32 r.2.2.2.2.2))])) (fun r => rfl) hp)
  · cases hp)
noncomputable def z43 : List PT → Option (Bool × AV × List Blk)
  | [.one (.s (.int .i64 n_)), .one (.s (.int .i64 low)), .one (.s (.int .i64 q2v))] => some ((zme n_ low q2v), ((AV.v (TV.one (At.bool (zm1 n_ low q2v)))), []))
  | _ => none
def zqr (n_ : Int) (low : Int) (q2v : Int) : Option (Bool) → Option (AV × List Blk)
  | some r => some ((AV.v (TV.one (At.bool r))), [])
  | none => none
theorem ztf (n_ : Int) (low : Int) (q2v : Int) : evFn Γ0 8 8 66 (impTs 0 [.one (.s (.int .i64 n_)), .one (.s (.int .i64 low)), .one (.s (.int .i64 q2v))]).1 (impTs 0 [.one (.s (.int .i64 n_)), .one (.s (.int .i64 low)), .one (.s (.int .i64 q2v))]).2 (expo (impTs 0 [.one (.s (.int .i64 n_)), .one (.s (.int .i64 low)), .one (.s (.int .i64 q2v))]).2.length) = zgs n_ low q2v (fun c0_ => some ((AV.v (TV.one (At.bool c0_))), [])) := by kernel_rfl
theorem z38 : SumOne Try.prog 66 z43 := sum_of (Γ := Γ0) (fuel := 8) (d := 8) tyTab_ok (FnL.ok fnTab_ok _ _) (LpL.ok lt0_ok) (SumL.ok tb0_ok _) mixed (by
  intro pts v news hp hc
  clear hc
  unfold z43 at hp
  split at hp
  · rename_i n_ low q2v
    exact Eq.trans (Eq.trans (ztf n_ low q2v) (zrt (zqr n_ low q2v) rfl n_ low q2v (fun c0_ => some c0_))) (fin_out (o := (zqr n_ low q2v)) (x := zgt n_ low q2v) (d := default) (V := fun r => ((AV.v (TV.one (At.bool r))), [])) (fun r => rfl) hp)
  · cases hp)
noncomputable def z28 : List PT → Option (Bool × AV × List Blk)
  | [.one (.row 3 a_n (.fl .f32 a)), .one (.s (.int .i64 q2c))] => some ((zjl a_n a q2c), ((AV.v (TV.one (At.int IntKind.i64 (ze6 a_n a q2c)))), []))
  | _ => none
def znd (a_n : Nat) (a : List Nat) (q2c : Int) : Option (Int) → Option (AV × List Blk)
  | some r => some ((AV.v (TV.one (At.int IntKind.i64 r))), [])
  | none => none
theorem zrp (a_n : Nat) (a : List Nat) (q2c : Int) : evFn Γ0 8 8 80 (impTs 0 [.one (.row 3 a_n (.fl .f32 a)), .one (.s (.int .i64 q2c))]).1 (impTs 0 [.one (.row 3 a_n (.fl .f32 a)), .one (.s (.int .i64 q2c))]).2 (expo (impTs 0 [.one (.row 3 a_n (.fl .f32 a)), .one (.s (.int .i64 q2c))]).2.length) = zd1 a_n a q2c (fun c0_ => some ((AV.v (TV.one (At.int IntKind.i64 c0_))), [])) := by kernel_rfl
theorem z1e : SumOne Try.prog 80 z28 := sum_of (Γ := Γ0) (fuel := 8) (d := 8) tyTab_ok (FnL.ok fnTab_ok _ _) (LpL.ok lt0_ok) (SumL.ok tb0_ok _) mixed (by
  intro pts v news hp hc
  clear hc
  unfold z28 at hp
  split at hp
  · rename_i a_n a q2c
    exact Eq.trans (Eq.trans (zrp a_n a q2c) (zpo (znd a_n a q2c) rfl a_n a q2c (fun c0_ => some c0_))) (fin_out (o := (znd a_n a q2c)) (x := zd0 a_n a q2c) (d := default) (V := fun r => ((AV.v (TV.one (At.int IntKind.i64 r))), [])) (fun r => rfl) hp)
  · cases hp)
noncomputable def z3e : List PT → Option (Bool × AV × List Blk)
  | [.one (.s (.flt .f32 x)), .one (.s (.flt .f32 low)), .one (.s (.flt .f32 q2v))] => some ((zlk x low q2v), ((AV.v (TV.one (At.bool (zl2 x low q2v)))), []))
  | _ => none
def zoi (x : Nat) (low : Nat) (q2v : Nat) : Option (Bool) → Option (AV × List Blk)
  | some r => some ((AV.v (TV.one (At.bool r))), [])
  | none => none
theorem zt0 (x : Nat) (low : Nat) (q2v : Nat) : evFn Γ0 8 8 97 (impTs 0 [.one (.s (.flt .f32 x)), .one (.s (.flt .f32 low)), .one (.s (.flt .f32 q2v))]).1 (impTs 0 [.one (.s (.flt .f32 x)), .one (.s (.flt .f32 low)), .one (.s (.flt .f32 q2v))]).2 (expo (impTs 0 [.one (.s (.flt .f32 x)), .one (.s (.flt .f32 low)), .one (.s (.flt .f32 q2v))]).2.length) = ze9 x low q2v (fun c0_ => some ((AV.v (TV.one (At.bool c0_))), [])) := by kernel_rfl
theorem z25 : SumOne Try.prog 97 z3e := sum_of (Γ := Γ0) (fuel := 8) (d := 8) tyTab_ok (FnL.ok fnTab_ok _ _) (LpL.ok lt0_ok) (SumL.ok tb0_ok _) mixed (by
  intro pts v news hp hc
  clear hc
  unfold z3e at hp
  split at hp
  · rename_i x low q2v
    exact Eq.trans (Eq.trans (zt0 x low q2v) (zqx (zoi x low q2v) rfl x low q2v (fun c0_ => some c0_))) (fin_out (o := (zoi x low q2v)) (x := zeb x low q2v) (d := default) (V := fun r => ((AV.v (TV.one (At.bool r))), [])) (fun r => rfl) hp)
  · cases hp)
noncomputable def z0s : List PT → Option (Bool × AV × List Blk)
  | [.one (.row 1 s_n (.fl .f32 s))] => some ((z9d s_n s), ((AV.v (TV.one (At.sl 0 0 (z99 s_n s) 1))), [(Blk.mk Bool.true (Body.fl FloatKind.f32 (z9c s_n s)))]))
  | _ => none
def zaj (s_n : Nat) (s : List Nat) : Option (Nat × (List Nat)) → Option (AV × List Blk)
  | some r => some ((AV.v (TV.one (At.sl 0 0 r.1 1))), [(Blk.mk Bool.true (Body.fl FloatKind.f32 r.2))])
  | none => none
theorem zng (s_n : Nat) (s : List Nat) : ∀ a b, (zaj s_n s) a = (zaj s_n s) b → a = b := by
  intro a b h
  cases a <;> cases b <;> simp_all [zaj, Prod.ext_iff]
theorem zo8 (s_n : Nat) (s : List Nat) : evFn Γ0 8 8 104 (impTs 0 [.one (.row 1 s_n (.fl .f32 s))]).1 (impTs 0 [.one (.row 1 s_n (.fl .f32 s))]).2 (expo (impTs 0 [.one (.row 1 s_n (.fl .f32 s))]).2.length) = z9g s_n s (fun c0_ c1_ => some ((AV.v (TV.one (At.sl 0 0 c0_ 1))), [(Blk.mk Bool.true (Body.fl FloatKind.f32 c1_))])) := by kernel_rfl
theorem z0k : SumOne Try.prog 104 z0s := sum_of (Γ := Γ0) (fuel := 8) (d := 8) tyTab_ok (FnL.ok fnTab_ok _ _) (LpL.ok lt0_ok) (SumL.ok tb0_ok _) mixed (by
  intro pts v news hp hc
  clear hc
  unfold z0s at hp
  split at hp
  · rename_i s_n s
    exact Eq.trans (Eq.trans (zo8 s_n s) (zmx (zaj s_n s) rfl (zng s_n s) s_n s (fun c0_ c1_ => some (c0_, c1_)))) (fin_out (o := (zaj s_n s)) (x := z88 s_n s) (d := default) (V := fun r => ((AV.v (TV.one (At.sl 0 0 r.1 1))), [(Blk.mk Bool.true (Body.fl FloatKind.f32 r.2))])) (fun r => rfl) hp)
  · cases hp)
noncomputable def z01 : List PT → Option (Bool × AV × List Blk)
  | [.one (.row 3 s_n (.fl .f32 s))] => some ((z7n s_n s), ((AV.v (TV.one (At.sl 0 0 (z7d s_n s) 3))), [(Blk.mk Bool.true (Body.fl FloatKind.f32 (z7c s_n s)))]))
  | _ => none
def z68 (s_n : Nat) (s : List Nat) : Option (Nat × (List Nat)) → Option (AV × List Blk)
  | some r => some ((AV.v (TV.one (At.sl 0 0 r.1 3))), [(Blk.mk Bool.true (Body.fl FloatKind.f32 r.2))])
  | none => none
theorem zix (s_n : Nat) (s : List Nat) : ∀ a b, (z68 s_n s) a = (z68 s_n s) b → a = b := by
  intro a b h
  cases a <;> cases b <;> simp_all [z68, Prod.ext_iff]
theorem zkg (s_n : Nat) (s : List Nat) : evFn Γ0 8 8 115 (impTs 0 [.one (.row 3 s_n (.fl .f32 s))]).1 (impTs 0 [.one (.row 3 s_n (.fl .f32 s))]).2 (expo (impTs 0 [.one (.row 3 s_n (.fl .f32 s))]).2.length) = z5p s_n s (fun c0_ c1_ => some ((AV.v (TV.one (At.sl 0 0 c0_ 3))), [(Blk.mk Bool.true (Body.fl FloatKind.f32 c1_))])) := by kernel_rfl
theorem z00 : SumOne Try.prog 115 z01 := sum_of (Γ := Γ0) (fuel := 8) (d := 8) tyTab_ok (FnL.ok fnTab_ok _ _) (LpL.ok lt0_ok) (SumL.ok tb0_ok _) mixed (by
  intro pts v news hp hc
  clear hc
  unfold z01 at hp
  split at hp
  · rename_i s_n s
    exact Eq.trans (Eq.trans (zkg s_n s) (zhn (z68 s_n s) rfl (zix s_n s) s_n s (fun c0_ c1_ => some (c0_, c1_)))) (fin_out (o := (z68 s_n s)) (x := z55 s_n s) (d := default) (V := fun r => ((AV.v (TV.one (At.sl 0 0 r.1 3))), [(Blk.mk Bool.true (Body.fl FloatKind.f32 r.2))])) (fun r => rfl) hp)
  · cases hp)
noncomputable def tb1 : List (Nat × (List PT → Option (Bool × AV × List Blk))) := [(125, z2f), (128, z0w), (134, z1i), (137, z2g), (18, z2o), (44, z2p), (48, z26), (54, z3f), (61, z2n), (63, z4f), (64, z42), (66, z43), (80, z28), (97, z3e), (104, z0s), (115, z01)]
noncomputable def lt1 : List ((Nat × Nat) × (Nat → St → Option (Bool × LO))) := []
noncomputable def Γ1 : Ctx := ⟨tyTab, fnTab, tblSum tb1, tblLp lt1⟩
theorem tb1_ok : SumL Try.prog tb1 := SumL.cons z1g (SumL.cons z0l (SumL.cons z14 (SumL.cons z1h (SumL.cons z1p (SumL.cons z1q (SumL.cons z1f (SumL.cons z24 (SumL.cons z1o (SumL.cons z3r (SumL.cons z3a (SumL.cons z38 (SumL.cons z1e (SumL.cons z25 (SumL.cons z0k (SumL.cons z00 (SumL.nil))))))))))))))))
theorem lt1_ok : LpL Try.prog fnTab lt1 := LpL.nil
noncomputable def z35 : List PT → Option (Bool × AV × List Blk)
  | [.agg [.row 1 q0t (.fl .f32 q0z), .row 1 q0v (.fl .f32 q15), .row 1 q0x (.fl .f32 q18)], .one (.s (.int .i64 q2c))] => some ((zkz q0t q0z q0v q15 q0x q18 q2c), ((AV.v (TV.one (At.int IntKind.i64 (zam q0t q0z q0v q15 q0x q18 q2c)))), []))
  | _ => none
def znx (q0t : Nat) (q0z : List Nat) (q0v : Nat) (q15 : List Nat) (q0x : Nat) (q18 : List Nat) (q2c : Int) : Option (Int) → Option (AV × List Blk)
  | some r => some ((AV.v (TV.one (At.int IntKind.i64 r))), [])
  | none => none
theorem zsk (q0t : Nat) (q0z : List Nat) (q0v : Nat) (q15 : List Nat) (q0x : Nat) (q18 : List Nat) (q2c : Int) : evFn Γ1 8 8 14 (impTs 0 [.agg [.row 1 q0t (.fl .f32 q0z), .row 1 q0v (.fl .f32 q15), .row 1 q0x (.fl .f32 q18)], .one (.s (.int .i64 q2c))]).1 (impTs 0 [.agg [.row 1 q0t (.fl .f32 q0z), .row 1 q0v (.fl .f32 q15), .row 1 q0x (.fl .f32 q18)], .one (.s (.int .i64 q2c))]).2 (expo (impTs 0 [.agg [.row 1 q0t (.fl .f32 q0z), .row 1 q0v (.fl .f32 q15), .row 1 q0x (.fl .f32 q18)], .one (.s (.int .i64 q2c))]).2.length) = zdr q0t q0z q0v q15 q0x q18 q2c (fun c0_ => some ((AV.v (TV.one (At.int IntKind.i64 c0_))), [])) := by kernel_rfl
theorem z1z : SumOne Try.prog 14 z35 := sum_of (Γ := Γ1) (fuel := 8) (d := 8) tyTab_ok (FnL.ok fnTab_ok _ _) (LpL.ok lt1_ok) (SumL.ok tb1_ok _) mixed (by
  intro pts v news hp hc
  clear hc
  unfold z35 at hp
  split at hp
  · rename_i q0t q0z q0v q15 q0x q18 q2c
    exact Eq.trans (Eq.trans (zsk q0t q0z q0v q15 q0x q18 q2c) (zq4 (znx q0t q0z q0v q15 q0x q18 q2c) rfl q0t q0z q0v q15 q0x q18 q2c (fun c0_ => some c0_))) (fin_out (o := (znx q0t q0z q0v q15 q0x q18 q2c)) (x := ze1 q0t q0z q0v q15 q0x q18 q2c) (d := default) (V := fun r => ((AV.v (TV.one (At.int IntKind.i64 r))), [])) (fun r => rfl) hp)
  · cases hp)
noncomputable def z1y : List PT → Option (Bool × AV × List Blk)
  | [.agg [.row 1 q11 (.fl .f32 q1r), .row 1 q1c (.fl .f32 q25), .row 1 q1b (.fl .f32 q26)]] => some ((zhd q11 q1r q1c q25 q1b q26), ((AV.v (TV.agg [(At.sl 0 0 (zg0 q11 q1r q1c q25 q1b q26) 1), (At.sl 1 0 (zfr q11 q1r q1c q25 q1b q26) 1), (At.sl 2 0 (zfs q11 q1r q1c q25 q1b q26) 1)])), [(Blk.mk Bool.true (Body.fl FloatKind.f32 (zft q11 q1r q1c q25 q1b q26))), (Blk.mk Bool.true (Body.fl FloatKind.f32 (zfz q11 q1r q1c q25 q1b q26))), (Blk.mk Bool.true (Body.fl FloatKind.f32 (zfp q11 q1r q1c q25 q1b q26)))]))
  | _ => none
def zmu (q11 : Nat) (q1r : List Nat) (q1c : Nat) (q25 : List Nat) (q1b : Nat) (q26 : List Nat) : Option (Nat × Nat × Nat × (List Nat) × (List Nat) × (List Nat)) → Option (AV × List Blk)
  | some r => some ((AV.v (TV.agg [(At.sl 0 0 r.1 1), (At.sl 1 0 r.2.1 1), (At.sl 2 0 r.2.2.1 1)])), [(Blk.mk Bool.true (Body.fl FloatKind.f32 r.2.2.2.1)), (Blk.mk Bool.true (Body.fl FloatKind.f32 r.2.2.2.2.1)), (Blk.mk Bool.true (Body.fl FloatKind.f32 r.2.2.2.2.2))])
  | none => none
theorem zrd (q11 : Nat) (q1r : List Nat) (q1c : Nat) (q25 : List Nat) (q1b : Nat) (q26 : List Nat) : evFn Γ1 8 8 67 (impTs 0 [.agg [.row 1 q11 (.fl .f32 q1r), .row 1 q1c (.fl .f32 q25), .row 1 q1b (.fl .f32 q26)]]).1 (impTs 0 [.agg [.row 1 q11 (.fl .f32 q1r), .row 1 q1c (.fl .f32 q25), .row 1 q1b (.fl .f32 q26)]]).2 (expo (impTs 0 [.agg [.row 1 q11 (.fl .f32 q1r), .row 1 q1c (.fl .f32 q25), .row 1 q1b (.fl .f32 q26)]]).2.length) = zci q11 q1r q1c q25 q1b q26 (fun c0_ c1_ c2_ c3_ c4_ c5_ => some ((AV.v (TV.agg [(At.sl 0 0 c0_ 1), (At.sl 1 0 c1_ 1), (At.sl 2 0 c2_ 1)])), [(Blk.mk Bool.true (Body.fl FloatKind.f32 c3_)), (Blk.mk Bool.true (Body.fl FloatKind.f32 c4_)), (Blk.mk Bool.true (Body.fl FloatKind.f32 c5_))])) := by kernel_rfl
theorem z1c : SumOne Try.prog 67 z1y := sum_of (Γ := Γ1) (fuel := 8) (d := 8) tyTab_ok (FnL.ok fnTab_ok _ _) (LpL.ok lt1_ok) (SumL.ok tb1_ok _) mixed (by
  intro pts v news hp hc
  clear hc
  unfold z1y at hp
  split at hp
  · rename_i q11 q1r q1c q25 q1b q26
    exact Eq.trans (Eq.trans (zrd q11 q1r q1c q25 q1b q26) (zp4 (zmu q11 q1r q1c q25 q1b q26) rfl q11 q1r q1c q25 q1b q26 (fun c0_ c1_ c2_ c3_ c4_ c5_ => some (c0_, c1_, c2_, c3_, c4_, c5_)))) (fin_out (o := (zmu q11 q1r q1c q25 q1b q26)) (x := z6y q11 q1r q1c q25 q1b q26) (d := default) (V := fun r => ((AV.v (TV.agg [(At.sl 0 0 r.1 1), (At.sl 1 0 r.2.1 1), (At.sl 2 0 r.2.2.1 1)])), [(Blk.mk Bool.true (Body.fl FloatKind.f32 r.2.2.2.1)), (Blk.mk Bool.true (Body.fl FloatKind.f32 r.2.2.2.2.1)), (Blk.mk Bool.true (Body.fl FloatKind.f32 r.2.2.2.2.2))])) (fun r => rfl) hp)
  · cases hp)
noncomputable def z46 : List PT → Option (Bool × AV × List Blk)
  | [.ptr [.row 1 q08 (.fl .f32 q0e), .row 1 q0b (.fl .f32 q0h), .row 1 q0a (.fl .f32 q0g), .row 3 q0f (.fl .f32 q0i), .s (.int .i64 q0n), .s (.flt .f32 q0r), .s (.flt .f32 q0s)]] => some ((zmh q08 q0e q0b q0h q0a q0g q0f q0i q0n q0r q0s), ((AV.v (TV.agg [(At.sl 0 0 (zcc q08 q0e q0b q0h q0a q0g q0f q0i q0n q0r q0s) 1), (At.sl 1 0 (zc4 q08 q0e q0b q0h q0a q0g q0f q0i q0n q0r q0s) 1), (At.sl 2 0 (zcb q08 q0e q0b q0h q0a q0g q0f q0i q0n q0r q0s) 1), (At.sl 3 0 (z6a q08 q0e q0b q0h q0a q0g q0f q0i q0n q0r q0s) 3), (At.int IntKind.i64 q0n), (At.flt FloatKind.f32 q0r), (At.flt FloatKind.f32 q0s)])), [(Blk.mk Bool.true (Body.fl FloatKind.f32 (zf7 q08 q0e q0b q0h q0a q0g q0f q0i q0n q0r q0s))), (Blk.mk Bool.true (Body.fl FloatKind.f32 (zf8 q08 q0e q0b q0h q0a q0g q0f q0i q0n q0r q0s))), (Blk.mk Bool.true (Body.fl FloatKind.f32 (zf2 q08 q0e q0b q0h q0a q0g q0f q0i q0n q0r q0s))), (Blk.mk Bool.true (Body.fl FloatKind.f32 (zdu q08 q0e q0b q0h q0a q0g q0f q0i q0n q0r q0s)))]))
  | _ => none
def zqp (q08 : Nat) (q0e : List Nat) (q0b : Nat) (q0h : List Nat) (q0a : Nat) (q0g : List Nat) (q0f : Nat) (q0i : List Nat) (q0n : Int) (q0r : Nat) (q0s : Nat) : Option (Nat × Nat × Nat × Nat × (List Nat) × (List Nat) × (List Nat) × (List Nat)) → Option (AV × List Blk)
  | some r => some ((AV.v (TV.agg [(At.sl 0 0 r.1 1), (At.sl 1 0 r.2.1 1), (At.sl 2 0 r.2.2.1 1), (At.sl 3 0 r.2.2.2.1 3), (At.int IntKind.i64 q0n), (At.flt FloatKind.f32 q0r), (At.flt FloatKind.f32 q0s)])), [(Blk.mk Bool.true (Body.fl FloatKind.f32 r.2.2.2.2.1)), (Blk.mk Bool.true (Body.fl FloatKind.f32 r.2.2.2.2.2.1)), (Blk.mk Bool.true (Body.fl FloatKind.f32 r.2.2.2.2.2.2.1)), (Blk.mk Bool.true (Body.fl FloatKind.f32 r.2.2.2.2.2.2.2))])
  | none => none
theorem ztg (q08 : Nat) (q0e : List Nat) (q0b : Nat) (q0h : List Nat) (q0a : Nat) (q0g : List Nat) (q0f : Nat) (q0i : List Nat) (q0n : Int) (q0r : Nat) (q0s : Nat) : evFn Γ1 8 8 92 (impTs 0 [.ptr [.row 1 q08 (.fl .f32 q0e), .row 1 q0b (.fl .f32 q0h), .row 1 q0a (.fl .f32 q0g), .row 3 q0f (.fl .f32 q0i), .s (.int .i64 q0n), .s (.flt .f32 q0r), .s (.flt .f32 q0s)]]).1 (impTs 0 [.ptr [.row 1 q08 (.fl .f32 q0e), .row 1 q0b (.fl .f32 q0h), .row 1 q0a (.fl .f32 q0g), .row 3 q0f (.fl .f32 q0i), .s (.int .i64 q0n), .s (.flt .f32 q0r), .s (.flt .f32 q0s)]]).2 (expo (impTs 0 [.ptr [.row 1 q08 (.fl .f32 q0e), .row 1 q0b (.fl .f32 q0h), .row 1 q0a (.fl .f32 q0g), .row 3 q0f (.fl .f32 q0i), .s (.int .i64 q0n), .s (.flt .f32 q0r), .s (.flt .f32 q0s)]]).2.length) = zgr q08 q0e q0b q0h q0a q0g q0f q0i q0n q0r q0s (fun c0_ c1_ c2_ c3_ c4_ c5_ c6_ c7_ => some ((AV.v (TV.agg [(At.sl 0 0 c0_ 1), (At.sl 1 0 c1_ 1), (At.sl 2 0 c2_ 1), (At.sl 3 0 c3_ 3), (At.int IntKind.i64 q0n), (At.flt FloatKind.f32 q0r), (At.flt FloatKind.f32 q0s)])), [(Blk.mk Bool.true (Body.fl FloatKind.f32 c4_)), (Blk.mk Bool.true (Body.fl FloatKind.f32 c5_)), (Blk.mk Bool.true (Body.fl FloatKind.f32 c6_)), (Blk.mk Bool.true (Body.fl FloatKind.f32 c7_))])) := by kernel_rfl
theorem z3h : SumOne Try.prog 92 z46 := sum_of (Γ := Γ1) (fuel := 8) (d := 8) tyTab_ok (FnL.ok fnTab_ok _ _) (LpL.ok lt1_ok) (SumL.ok tb1_ok _) mixed (by
  intro pts v news hp hc
  clear hc
  unfold z46 at hp
  split at hp
  · rename_i q08 q0e q0b q0h q0a q0g q0f q0i q0n q0r q0s
    exact Eq.trans (Eq.trans (ztg q08 q0e q0b q0h q0a q0g q0f q0i q0n q0r q0s) (zs9 (zqp q08 q0e q0b q0h q0a q0g q0f q0i q0n q0r q0s) rfl q08 q0e q0b q0h q0a q0g q0f q0i q0n q0r q0s (fun c0_ c1_ c2_ c3_ c4_ c5_ c6_ c7_ => some (c0_, c1_, c2_, c3_, c4_, c5_, c6_, c7_)))) (fin_out (o := (zqp q08 q0e q0b q0h q0a q0g q0f q0i q0n q0r q0s)) (x := z8m q08 q0e q0b q0h q0a q0g q0f q0i q0n q0r q0s) (d := default) (V := fun r => ((AV.v (TV.agg [(At.sl 0 0 r.1 1), (At.sl 1 0 r.2.1 1), (At.sl 2 0 r.2.2.1 1), (At.sl 3 0 r.2.2.2.1 3), (At.int IntKind.i64 q0n), (At.flt FloatKind.f32 q0r), (At.flt FloatKind.f32 q0s)])), [(Blk.mk Bool.true (Body.fl FloatKind.f32 r.2.2.2.2.1)), (Blk.mk Bool.true (Body.fl FloatKind.f32 r.2.2.2.2.2.1)), (Blk.mk Bool.true (Body.fl FloatKind.f32 r.2.2.2.2.2.2.1)), (Blk.mk Bool.true (Body.fl FloatKind.f32 r.2.2.2.2.2.2.2))])) (fun r => rfl) hp)
  · cases hp)
noncomputable def z3k : List PT → Option (Bool × AV × List Blk)
  | [.one (.s (.flt .f32 x))] => some ((zas x), ((AV.v (TV.one (At.bool (zab x)))), []))
  | _ => none
def zoe (x : Nat) : Option (Bool) → Option (AV × List Blk)
  | some r => some ((AV.v (TV.one (At.bool r))), [])
  | none => none
theorem zt4 (x : Nat) : evFn Γ1 8 8 103 (impTs 0 [.one (.s (.flt .f32 x))]).1 (impTs 0 [.one (.s (.flt .f32 x))]).2 (expo (impTs 0 [.one (.s (.flt .f32 x))]).2.length) = zed x (fun c0_ => some ((AV.v (TV.one (At.bool c0_))), [])) := by kernel_rfl
theorem z2a : SumOne Try.prog 103 z3k := sum_of (Γ := Γ1) (fuel := 8) (d := 8) tyTab_ok (FnL.ok fnTab_ok _ _) (LpL.ok lt1_ok) (SumL.ok tb1_ok _) mixed (by
  intro pts v news hp hc
  clear hc
  unfold z3k at hp
  split at hp
  · rename_i x
    exact Eq.trans (Eq.trans (zt4 x) (zr2 (zoe x) rfl x (fun c0_ => some c0_))) (fin_out (o := (zoe x)) (x := zee x) (d := default) (V := fun r => ((AV.v (TV.one (At.bool r))), [])) (fun r => rfl) hp)
  · cases hp)
noncomputable def z34 : List PT → Option (Bool × AV × List Blk)
  | [.agg [.s (.flt .f32 q2j), .s (.flt .f32 q2p), .s (.flt .f32 q2o)], .agg [.s (.flt .f32 q38), .s (.flt .f32 q3b), .s (.flt .f32 q3c)]] => some ((zl6 q2j q2p q2o q38 q3b q3c), ((AV.v (TV.one (At.bool (zjn q2j q2p q2o q38 q3b q3c)))), []))
  | _ => none
def zni (q2j : Nat) (q2p : Nat) (q2o : Nat) (q38 : Nat) (q3b : Nat) (q3c : Nat) : Option (Bool) → Option (AV × List Blk)
  | some r => some ((AV.v (TV.one (At.bool r))), [])
  | none => none
theorem zsj (q2j : Nat) (q2p : Nat) (q2o : Nat) (q38 : Nat) (q3b : Nat) (q3c : Nat) : evFn Γ1 8 8 105 (impTs 0 [.agg [.s (.flt .f32 q2j), .s (.flt .f32 q2p), .s (.flt .f32 q2o)], .agg [.s (.flt .f32 q38), .s (.flt .f32 q3b), .s (.flt .f32 q3c)]]).1 (impTs 0 [.agg [.s (.flt .f32 q2j), .s (.flt .f32 q2p), .s (.flt .f32 q2o)], .agg [.s (.flt .f32 q38), .s (.flt .f32 q3b), .s (.flt .f32 q3c)]]).2 (expo (impTs 0 [.agg [.s (.flt .f32 q2j), .s (.flt .f32 q2p), .s (.flt .f32 q2o)], .agg [.s (.flt .f32 q38), .s (.flt .f32 q3b), .s (.flt .f32 q3c)]]).2.length) = zds q2j q2p q2o q38 q3b q3c (fun c0_ => some ((AV.v (TV.one (At.bool c0_))), [])) := by kernel_rfl
theorem z20 : SumOne Try.prog 105 z34 := sum_of (Γ := Γ1) (fuel := 8) (d := 8) tyTab_ok (FnL.ok fnTab_ok _ _) (LpL.ok lt1_ok) (SumL.ok tb1_ok _) mixed (by
  intro pts v news hp hc
  clear hc
  unfold z34 at hp
  split at hp
  · rename_i q2j q2p q2o q38 q3b q3c
    exact Eq.trans (Eq.trans (zsj q2j q2p q2o q38 q3b q3c) (zqe (zni q2j q2p q2o q38 q3b q3c) rfl q2j q2p q2o q38 q3b q3c (fun c0_ => some c0_))) (fin_out (o := (zni q2j q2p q2o q38 q3b q3c)) (x := zdq q2j q2p q2o q38 q3b q3c) (d := default) (V := fun r => ((AV.v (TV.one (At.bool r))), [])) (fun r => rfl) hp)
  · cases hp)
noncomputable def z3w : List PT → Option (Bool × AV × List Blk)
  | [.one (.s (.flt .f32 x))] => some ((zka x), ((AV.v (TV.one (At.bool (zhe x)))), []))
  | _ => none
def zpk (x : Nat) : Option (Bool) → Option (AV × List Blk)
  | some r => some ((AV.v (TV.one (At.bool r))), [])
  | none => none
theorem ztb (x : Nat) : evFn Γ1 8 8 111 (impTs 0 [.one (.s (.flt .f32 x))]).1 (impTs 0 [.one (.s (.flt .f32 x))]).2 (expo (impTs 0 [.one (.s (.flt .f32 x))]).2.length) = zf4 x (fun c0_ => some ((AV.v (TV.one (At.bool c0_))), [])) := by kernel_rfl
theorem z32 : SumOne Try.prog 111 z3w := sum_of (Γ := Γ1) (fuel := 8) (d := 8) tyTab_ok (FnL.ok fnTab_ok _ _) (LpL.ok lt1_ok) (SumL.ok tb1_ok _) mixed (by
  intro pts v news hp hc
  clear hc
  unfold z3w at hp
  split at hp
  · rename_i x
    exact Eq.trans (Eq.trans (ztb x) (zrl (zpk x) rfl x (fun c0_ => some c0_))) (fin_out (o := (zpk x)) (x := zf3 x) (d := default) (V := fun r => ((AV.v (TV.one (At.bool r))), [])) (fun r => rfl) hp)
  · cases hp)
noncomputable def z3j : List PT → Option (Bool × AV × List Blk)
  | [.one (.s (.flt .f32 x))] => some ((zlc x), ((AV.v (TV.one (At.bool (zl7 x)))), []))
  | _ => none
def zog (x : Nat) : Option (Bool) → Option (AV × List Blk)
  | some r => some ((AV.v (TV.one (At.bool r))), [])
  | none => none
theorem zss (x : Nat) : evFn Γ1 8 8 114 (impTs 0 [.one (.s (.flt .f32 x))]).1 (impTs 0 [.one (.s (.flt .f32 x))]).2 (expo (impTs 0 [.one (.s (.flt .f32 x))]).2.length) = zeh x (fun c0_ => some ((AV.v (TV.one (At.bool c0_))), [])) := by kernel_rfl
theorem z2c : SumOne Try.prog 114 z3j := sum_of (Γ := Γ1) (fuel := 8) (d := 8) tyTab_ok (FnL.ok fnTab_ok _ _) (LpL.ok lt1_ok) (SumL.ok tb1_ok _) mixed (by
  intro pts v news hp hc
  clear hc
  unfold z3j at hp
  split at hp
  · rename_i x
    exact Eq.trans (Eq.trans (zss x) (zr6 (zog x) rfl x (fun c0_ => some c0_))) (fin_out (o := (zog x)) (x := zec x) (d := default) (V := fun r => ((AV.v (TV.one (At.bool r))), [])) (fun r => rfl) hp)
  · cases hp)
noncomputable def z1x : List PT → Option (Bool × AV × List Blk)
  | [.one (.s (.flt .f32 x))] => some ((zhp x), ((AV.v (TV.one (At.bool (zfx x)))), []))
  | _ => none
def zmy (x : Nat) : Option (Bool) → Option (AV × List Blk)
  | some r => some ((AV.v (TV.one (At.bool r))), [])
  | none => none
theorem zr9 (x : Nat) : evFn Γ1 8 8 118 (impTs 0 [.one (.s (.flt .f32 x))]).1 (impTs 0 [.one (.s (.flt .f32 x))]).2 (expo (impTs 0 [.one (.s (.flt .f32 x))]).2.length) = zce x (fun c0_ => some ((AV.v (TV.one (At.bool c0_))), [])) := by kernel_rfl
theorem z1b : SumOne Try.prog 118 z1x := sum_of (Γ := Γ1) (fuel := 8) (d := 8) tyTab_ok (FnL.ok fnTab_ok _ _) (LpL.ok lt1_ok) (SumL.ok tb1_ok _) mixed (by
  intro pts v news hp hc
  clear hc
  unfold z1x at hp
  split at hp
  · rename_i x
    exact Eq.trans (Eq.trans (zr9 x) (zoq (zmy x) rfl x (fun c0_ => some c0_))) (fin_out (o := (zmy x)) (x := zc7 x) (d := default) (V := fun r => ((AV.v (TV.one (At.bool r))), [])) (fun r => rfl) hp)
  · cases hp)
noncomputable def z19 : List PT → Option (Bool × AV × List Blk)
  | [.one (.s (.flt .f32 x))] => some ((zen x), ((AV.v (TV.one (At.bool (zej x)))), []))
  | _ => none
def zmm (x : Nat) : Option (Bool) → Option (AV × List Blk)
  | some r => some ((AV.v (TV.one (At.bool r))), [])
  | none => none
theorem zqc (x : Nat) : evFn Γ1 8 8 122 (impTs 0 [.one (.s (.flt .f32 x))]).1 (impTs 0 [.one (.s (.flt .f32 x))]).2 (expo (impTs 0 [.one (.s (.flt .f32 x))]).2.length) = zad x (fun c0_ => some ((AV.v (TV.one (At.bool c0_))), [])) := by kernel_rfl
theorem z0z : SumOne Try.prog 122 z19 := sum_of (Γ := Γ1) (fuel := 8) (d := 8) tyTab_ok (FnL.ok fnTab_ok _ _) (LpL.ok lt1_ok) (SumL.ok tb1_ok _) mixed (by
  intro pts v news hp hc
  clear hc
  unfold z19 at hp
  split at hp
  · rename_i x
    exact Eq.trans (Eq.trans (zqc x) (znj (zmm x) rfl x (fun c0_ => some c0_))) (fin_out (o := (zmm x)) (x := zae x) (d := default) (V := fun r => ((AV.v (TV.one (At.bool r))), [])) (fun r => rfl) hp)
  · cases hp)
noncomputable def zm6 (an : Nat) (q2l : Nat) (i : Int) (b0 : List Nat) (b1 : List Nat) : Bool × LO := ((zcr an q2l b0 i b1), (LO.one (Ex.exit 0) (St.mk [(0, (AV.v (TV.one (At.vw 0 0 an 1)))), (3, (AV.v (TV.one (At.sl 1 0 q2l 1)))), (4, (AV.v (TV.one (At.int IntKind.i64 (zga an q2l b0 i b1))))), (11, (AV.v (TV.one (At.bool (zgg an q2l b0 i b1)))))] [(Blk.mk Bool.false (Body.fl FloatKind.f32 b0)), (Blk.mk Bool.true (Body.fl FloatKind.f32 (zak an q2l b0 i b1)))])))
noncomputable def z1d : Nat → St → Option (Bool × LO) := lpT 1 (pSt [(pTm 0 (pV (pOne (pVw 0 (liN 0) 1)))), (pTm 3 (pV (pOne (pSl 1 (liN 0) 1)))), (pTm 4 (pV (pOne (pInt IntKind.i64))))] [(pBlk Bool.false (pFl FloatKind.f32)), (pBlk Bool.true (pFl FloatKind.f32))]) (fun hs => zm6 (hvN (hGet hs 0)) (hvN (hGet hs 1)) (hvI (hGet hs 2)) (hvLn (hGet hs 3)) (hvLn (hGet hs 4)))
def zf0 (an : Nat) (q2l : Nat) (b0 : List Nat) : Option ((Int × Bool × (List Nat))) → Option (Ex × St)
  | none => none
  | some r => some ((Ex.exit 0), (St.mk [(0, (AV.v (TV.one (At.vw 0 0 an 1)))), (3, (AV.v (TV.one (At.sl 1 0 q2l 1)))), (4, (AV.v (TV.one (At.int IntKind.i64 r.1)))), (11, (AV.v (TV.one (At.bool r.2.1))))] [(Blk.mk Bool.false (Body.fl FloatKind.f32 b0)), (Blk.mk Bool.true (Body.fl FloatKind.f32 r.2.2))]))
def zpj (an : Nat) (q2l : Nat) (b0 : List Nat) (x : Option ((Int × Bool × (List Nat)))) : LO := (LO.one (Ex.exit 0) (St.mk [(0, (AV.v (TV.one (At.vw 0 0 an 1)))), (3, (AV.v (TV.one (At.sl 1 0 q2l 1)))), (4, (AV.v (TV.one (At.int IntKind.i64 (x.getD default).1)))), (11, (AV.v (TV.one (At.bool (x.getD default).2.1))))] [(Blk.mk Bool.false (Body.fl FloatKind.f32 b0)), (Blk.mk Bool.true (Body.fl FloatKind.f32 (x.getD default).2.2))]))
theorem zpw (an : Nat) (q2l : Nat) (b0 : List Nat) : ∀ x : Option ((Int × Bool × (List Nat))), x.isSome = true → (zf0 an q2l b0) x = some (pick (zpj an q2l b0 x))
  | none, h => by cases h
  | some r, _ => rfl
theorem zq3 (an : Nat) (q2l : Nat) (i : Int) (b0 : List Nat) (b1 : List Nat) (K : Ex → St → Option (Ex × St)) : evC (R := Ex × St) Γ1 (evFn Γ1 8 8) 52 1 fi52.nt fi52.live fi52.nl 8 (findL 3 (loopsIn fi52.code)) (St.mk [(0, (AV.v (TV.one (At.vw 0 0 an 1)))), (3, (AV.v (TV.one (At.sl 1 0 q2l 1)))), (4, (AV.v (TV.one (At.int IntKind.i64 i))))] [(Blk.mk Bool.false (Body.fl FloatKind.f32 b0)), (Blk.mk Bool.true (Body.fl FloatKind.f32 b1))]) K = z7q an q2l b0 i b1 (fun i' b1' => K .normal (St.mk [(0, (AV.v (TV.one (At.vw 0 0 an 1)))), (3, (AV.v (TV.one (At.sl 1 0 q2l 1)))), (4, (AV.v (TV.one (At.int IntKind.i64 i'))))] [(Blk.mk Bool.false (Body.fl FloatKind.f32 b0)), (Blk.mk Bool.true (Body.fl FloatKind.f32 b1'))])) (fun c0_ c1_ c2_ => K (Ex.exit 0) (St.mk [(0, (AV.v (TV.one (At.vw 0 0 an 1)))), (3, (AV.v (TV.one (At.sl 1 0 q2l 1)))), (4, (AV.v (TV.one (At.int IntKind.i64 c0_)))), (11, (AV.v (TV.one (At.bool c1_))))] [(Blk.mk Bool.false (Body.fl FloatKind.f32 b0)), (Blk.mk Bool.true (Body.fl FloatKind.f32 c2_))])) := by kernel_rfl
theorem zqb (an : Nat) (q2l : Nat) (b0 : List Nat) : ∀ (n : Nat) (i : Int) (b1 : List Nat), iter 52 3 1 (evC (R := Ex × St) Γ1 (evFn Γ1 8 8) 52 1 fi52.nt fi52.live fi52.nl 8 (findL 3 (loopsIn fi52.code))) n (St.mk [(0, (AV.v (TV.one (At.vw 0 0 an 1)))), (3, (AV.v (TV.one (At.sl 1 0 q2l 1)))), (4, (AV.v (TV.one (At.int IntKind.i64 i))))] [(Blk.mk Bool.false (Body.fl FloatKind.f32 b0)), (Blk.mk Bool.true (Body.fl FloatKind.f32 b1))]) (fun e st => some (e, st)) = (zf0 an q2l b0) (z63 an q2l b0 n i b1) := by
  intro n
  induction n with
  | zero => intros; rfl
  | succ n ih =>
    intro i b1
    refine Eq.trans (iter_succ ..) (Eq.trans (zq3 an q2l i b0 b1 (nextK 52 3 1 (evC (R := Ex × St) Γ1 (evFn Γ1 8 8) 52 1 fi52.nt fi52.live fi52.nl 8 (findL 3 (loopsIn fi52.code))) n (fun e st => some (e, st)))) (Eq.trans ?_ (zo2 (zf0 an q2l b0) rfl an q2l b0 i b1 (fun i' b1' => z63 an q2l b0 n i' b1') (fun c0_ c1_ c2_ => some (c0_, c1_, c2_)))))
    exact congrArg (fun kn_ => z7q an q2l b0 i b1 kn_ (fun c0_ c1_ c2_ => (zf0 an q2l b0) (some (c0_, c1_, c2_)))) (funext fun i' => funext fun b1' => ih i' b1')
theorem z0y : LoopOne Try.prog fnTab 52 3 z1d := lp_of (Γ := Γ1) tyTab_ok (FnL.ok fnTab_ok _ _) (LpL.ok lt1_ok) (SumL.ok tb1_ok _) mixed (fi := fi52) (by kernel_rfl) (by kernel_rfl) (by
  intro lo st out hp
  obtain ⟨hs, e1, e2, e3⟩ := lpT_inv hp
  clear hp
  obtain rfl : st = (St.mk [(0, (AV.v (TV.one (At.vw 0 0 (hvN (hGet hs 0)) 1)))), (3, (AV.v (TV.one (At.sl 1 0 (hvN (hGet hs 1)) 1)))), (4, (AV.v (TV.one (At.int IntKind.i64 (hvI (hGet hs 2))))))] [(Blk.mk Bool.false (Body.fl FloatKind.f32 (hvLn (hGet hs 3)))), (Blk.mk Bool.true (Body.fl FloatKind.f32 (hvLn (hGet hs 4))))]) := e2.trans (by kernel_rfl)
  clear e2
  subst e1
  unfold zm6 at e3
  injection e3 with h1 h2
  subst h2
  exact ⟨8, 8, big, Eq.trans (zqb (hvN (hGet hs 0)) (hvN (hGet hs 1)) (hvLn (hGet hs 3)) big (hvI (hGet hs 2)) (hvLn (hGet hs 4))) (zpw (hvN (hGet hs 0)) (hvN (hGet hs 1)) (hvLn (hGet hs 3)) (z63 (hvN (hGet hs 0)) (hvN (hGet hs 1)) (hvLn (hGet hs 3)) big (hvI (hGet hs 2)) (hvLn (hGet hs 4))) h1)⟩)
noncomputable def zlm (an : Nat) (k : Int) (i : Int) (b0 : List Nat) : Bool × LO := ((ze4 an b0 k i), (LO.two (zdl an b0 k i) (LO.one Ex.ret (St.mk [(4, (AV.v (TV.one (At.int IntKind.i64 (Int.negSucc 0)))))] [(Blk.mk Bool.false (Body.fl FloatKind.f32 b0))])) (LO.one (Ex.exit 0) (St.mk [(0, (AV.v (TV.one (At.vw 0 0 an 3)))), (1, (AV.v (TV.one (At.int IntKind.i64 (zck an b0 k i))))), (5, (AV.v (TV.one (At.int IntKind.i64 (zes an b0 k i))))), (9, (AV.v (TV.one (At.bool (zeo an b0 k i)))))] [(Blk.mk Bool.false (Body.fl FloatKind.f32 b0))]))))
noncomputable def z10 : Nat → St → Option (Bool × LO) := lpT 1 (pSt [(pTm 0 (pV (pOne (pVw 0 (liN 0) 3)))), (pTm 1 (pV (pOne (pInt IntKind.i64)))), (pTm 5 (pV (pOne (pInt IntKind.i64))))] [(pBlk Bool.false (pFl FloatKind.f32))]) (fun hs => zlm (hvN (hGet hs 0)) (hvI (hGet hs 1)) (hvI (hGet hs 2)) (hvLn (hGet hs 3)))
def zb6 (an : Nat) (b0 : List Nat) : Option ((Unit) ⊕ (Int × Int × Bool)) → Option (Ex × St)
  | none => none
  | some (Sum.inl r) => some (Ex.ret, (St.mk [(4, (AV.v (TV.one (At.int IntKind.i64 (Int.negSucc 0)))))] [(Blk.mk Bool.false (Body.fl FloatKind.f32 b0))]))
  | some (Sum.inr r) => some ((Ex.exit 0), (St.mk [(0, (AV.v (TV.one (At.vw 0 0 an 3)))), (1, (AV.v (TV.one (At.int IntKind.i64 r.1)))), (5, (AV.v (TV.one (At.int IntKind.i64 r.2.1)))), (9, (AV.v (TV.one (At.bool r.2.2))))] [(Blk.mk Bool.false (Body.fl FloatKind.f32 b0))]))
def zo9 (an : Nat) (b0 : List Nat) (x : Option ((Unit) ⊕ (Int × Int × Bool))) : LO := (LO.two (oL x) (LO.one Ex.ret (St.mk [(4, (AV.v (TV.one (At.int IntKind.i64 (Int.negSucc 0)))))] [(Blk.mk Bool.false (Body.fl FloatKind.f32 b0))])) (LO.one (Ex.exit 0) (St.mk [(0, (AV.v (TV.one (At.vw 0 0 an 3)))), (1, (AV.v (TV.one (At.int IntKind.i64 ((tR x).getD default).1)))), (5, (AV.v (TV.one (At.int IntKind.i64 ((tR x).getD default).2.1)))), (9, (AV.v (TV.one (At.bool ((tR x).getD default).2.2))))] [(Blk.mk Bool.false (Body.fl FloatKind.f32 b0))])))
theorem zoy (an : Nat) (b0 : List Nat) : ∀ x : Option ((Unit) ⊕ (Int × Int × Bool)), x.isSome = true → (zb6 an b0) x = some (pick (zo9 an b0 x))
  | none, h => by cases h
  | some (Sum.inl r), _ => rfl
  | some (Sum.inr r), _ => rfl
theorem zol (an : Nat) (k : Int) (i : Int) (b0 : List Nat) (K : Ex → St → Option (Ex × St)) : evC (R := Ex × St) Γ1 (evFn Γ1 8 8) 72 1 fi72.nt fi72.live fi72.nl 8 (findL 2 (loopsIn fi72.code)) (St.mk [(0, (AV.v (TV.one (At.vw 0 0 an 3)))), (1, (AV.v (TV.one (At.int IntKind.i64 k)))), (5, (AV.v (TV.one (At.int IntKind.i64 i))))] [(Blk.mk Bool.false (Body.fl FloatKind.f32 b0))]) K = z6r an b0 k i (fun k' i' => K .normal (St.mk [(0, (AV.v (TV.one (At.vw 0 0 an 3)))), (1, (AV.v (TV.one (At.int IntKind.i64 k')))), (5, (AV.v (TV.one (At.int IntKind.i64 i'))))] [(Blk.mk Bool.false (Body.fl FloatKind.f32 b0))])) (fun _ => K Ex.ret (St.mk [(4, (AV.v (TV.one (At.int IntKind.i64 (Int.negSucc 0)))))] [(Blk.mk Bool.false (Body.fl FloatKind.f32 b0))])) (fun c0_ c1_ c2_ => K (Ex.exit 0) (St.mk [(0, (AV.v (TV.one (At.vw 0 0 an 3)))), (1, (AV.v (TV.one (At.int IntKind.i64 c0_)))), (5, (AV.v (TV.one (At.int IntKind.i64 c1_)))), (9, (AV.v (TV.one (At.bool c2_))))] [(Blk.mk Bool.false (Body.fl FloatKind.f32 b0))])) := by kernel_rfl
theorem zp3 (an : Nat) (b0 : List Nat) : ∀ (n : Nat) (k : Int) (i : Int), iter 72 2 1 (evC (R := Ex × St) Γ1 (evFn Γ1 8 8) 72 1 fi72.nt fi72.live fi72.nl 8 (findL 2 (loopsIn fi72.code))) n (St.mk [(0, (AV.v (TV.one (At.vw 0 0 an 3)))), (1, (AV.v (TV.one (At.int IntKind.i64 k)))), (5, (AV.v (TV.one (At.int IntKind.i64 i))))] [(Blk.mk Bool.false (Body.fl FloatKind.f32 b0))]) (fun e st => some (e, st)) = (zb6 an b0) (z4r an b0 n k i) := by
  intro n
  induction n with
  | zero => intros; rfl
  | succ n ih =>
    intro k i
    refine Eq.trans (iter_succ ..) (Eq.trans (zol an k i b0 (nextK 72 2 1 (evC (R := Ex × St) Γ1 (evFn Γ1 8 8) 72 1 fi72.nt fi72.live fi72.nl 8 (findL 2 (loopsIn fi72.code))) n (fun e st => some (e, st)))) (Eq.trans ?_ (zn0 (zb6 an b0) rfl an b0 k i (fun k' i' => z4r an b0 n k' i') (fun _ => some (Sum.inl ())) (fun c0_ c1_ c2_ => some (Sum.inr (c0_, c1_, c2_))))))
    exact congrArg (fun kn_ => z6r an b0 k i kn_ (fun _ => (zb6 an b0) (some (Sum.inl ()))) (fun c0_ c1_ c2_ => (zb6 an b0) (some (Sum.inr (c0_, c1_, c2_))))) (funext fun k' => funext fun i' => ih k' i')
theorem z0r : LoopOne Try.prog fnTab 72 2 z10 := lp_of (Γ := Γ1) tyTab_ok (FnL.ok fnTab_ok _ _) (LpL.ok lt1_ok) (SumL.ok tb1_ok _) mixed (fi := fi72) (by kernel_rfl) (by kernel_rfl) (by
  intro lo st out hp
  obtain ⟨hs, e1, e2, e3⟩ := lpT_inv hp
  clear hp
  obtain rfl : st = (St.mk [(0, (AV.v (TV.one (At.vw 0 0 (hvN (hGet hs 0)) 3)))), (1, (AV.v (TV.one (At.int IntKind.i64 (hvI (hGet hs 1)))))), (5, (AV.v (TV.one (At.int IntKind.i64 (hvI (hGet hs 2))))))] [(Blk.mk Bool.false (Body.fl FloatKind.f32 (hvLn (hGet hs 3))))]) := e2.trans (by kernel_rfl)
  clear e2
  subst e1
  unfold zlm at e3
  injection e3 with h1 h2
  subst h2
  exact ⟨8, 8, big, Eq.trans (zp3 (hvN (hGet hs 0)) (hvLn (hGet hs 3)) big (hvI (hGet hs 1)) (hvI (hGet hs 2))) (zoy (hvN (hGet hs 0)) (hvLn (hGet hs 3)) (z4r (hvN (hGet hs 0)) (hvLn (hGet hs 3)) big (hvI (hGet hs 1)) (hvI (hGet hs 2))) h1)⟩)
noncomputable def zls (an : Nat) (k : Int) (i : Int) (b0 : List Nat) : Bool × LO := ((ze5 an b0 k i), (LO.two (zdk an b0 k i) (LO.one Ex.ret (St.mk [(4, (AV.v (TV.one (At.int IntKind.i64 (Int.negSucc 0)))))] [(Blk.mk Bool.false (Body.fl FloatKind.f32 b0))])) (LO.one (Ex.exit 0) (St.mk [(0, (AV.v (TV.one (At.vw 0 0 an 1)))), (1, (AV.v (TV.one (At.int IntKind.i64 (zcj an b0 k i))))), (5, (AV.v (TV.one (At.int IntKind.i64 (zew an b0 k i))))), (9, (AV.v (TV.one (At.bool (zem an b0 k i)))))] [(Blk.mk Bool.false (Body.fl FloatKind.f32 b0))]))))
noncomputable def z11 : Nat → St → Option (Bool × LO) := lpT 1 (pSt [(pTm 0 (pV (pOne (pVw 0 (liN 0) 1)))), (pTm 1 (pV (pOne (pInt IntKind.i64)))), (pTm 5 (pV (pOne (pInt IntKind.i64))))] [(pBlk Bool.false (pFl FloatKind.f32))]) (fun hs => zls (hvN (hGet hs 0)) (hvI (hGet hs 1)) (hvI (hGet hs 2)) (hvLn (hGet hs 3)))
def zb7 (an : Nat) (b0 : List Nat) : Option ((Unit) ⊕ (Int × Int × Bool)) → Option (Ex × St)
  | none => none
  | some (Sum.inl r) => some (Ex.ret, (St.mk [(4, (AV.v (TV.one (At.int IntKind.i64 (Int.negSucc 0)))))] [(Blk.mk Bool.false (Body.fl FloatKind.f32 b0))]))
  | some (Sum.inr r) => some ((Ex.exit 0), (St.mk [(0, (AV.v (TV.one (At.vw 0 0 an 1)))), (1, (AV.v (TV.one (At.int IntKind.i64 r.1)))), (5, (AV.v (TV.one (At.int IntKind.i64 r.2.1)))), (9, (AV.v (TV.one (At.bool r.2.2))))] [(Blk.mk Bool.false (Body.fl FloatKind.f32 b0))]))
def zoc (an : Nat) (b0 : List Nat) (x : Option ((Unit) ⊕ (Int × Int × Bool))) : LO := (LO.two (oL x) (LO.one Ex.ret (St.mk [(4, (AV.v (TV.one (At.int IntKind.i64 (Int.negSucc 0)))))] [(Blk.mk Bool.false (Body.fl FloatKind.f32 b0))])) (LO.one (Ex.exit 0) (St.mk [(0, (AV.v (TV.one (At.vw 0 0 an 1)))), (1, (AV.v (TV.one (At.int IntKind.i64 ((tR x).getD default).1)))), (5, (AV.v (TV.one (At.int IntKind.i64 ((tR x).getD default).2.1)))), (9, (AV.v (TV.one (At.bool ((tR x).getD default).2.2))))] [(Blk.mk Bool.false (Body.fl FloatKind.f32 b0))])))
theorem zok (an : Nat) (b0 : List Nat) : ∀ x : Option ((Unit) ⊕ (Int × Int × Bool)), x.isSome = true → (zb7 an b0) x = some (pick (zoc an b0 x))
  | none, h => by cases h
  | some (Sum.inl r), _ => rfl
  | some (Sum.inr r), _ => rfl
theorem zom (an : Nat) (k : Int) (i : Int) (b0 : List Nat) (K : Ex → St → Option (Ex × St)) : evC (R := Ex × St) Γ1 (evFn Γ1 8 8) 79 1 fi79.nt fi79.live fi79.nl 8 (findL 2 (loopsIn fi79.code)) (St.mk [(0, (AV.v (TV.one (At.vw 0 0 an 1)))), (1, (AV.v (TV.one (At.int IntKind.i64 k)))), (5, (AV.v (TV.one (At.int IntKind.i64 i))))] [(Blk.mk Bool.false (Body.fl FloatKind.f32 b0))]) K = z6t an b0 k i (fun k' i' => K .normal (St.mk [(0, (AV.v (TV.one (At.vw 0 0 an 1)))), (1, (AV.v (TV.one (At.int IntKind.i64 k')))), (5, (AV.v (TV.one (At.int IntKind.i64 i'))))] [(Blk.mk Bool.false (Body.fl FloatKind.f32 b0))])) (fun _ => K Ex.ret (St.mk [(4, (AV.v (TV.one (At.int IntKind.i64 (Int.negSucc 0)))))] [(Blk.mk Bool.false (Body.fl FloatKind.f32 b0))])) (fun c0_ c1_ c2_ => K (Ex.exit 0) (St.mk [(0, (AV.v (TV.one (At.vw 0 0 an 1)))), (1, (AV.v (TV.one (At.int IntKind.i64 c0_)))), (5, (AV.v (TV.one (At.int IntKind.i64 c1_)))), (9, (AV.v (TV.one (At.bool c2_))))] [(Blk.mk Bool.false (Body.fl FloatKind.f32 b0))])) := by kernel_rfl
theorem zoz (an : Nat) (b0 : List Nat) : ∀ (n : Nat) (k : Int) (i : Int), iter 79 2 1 (evC (R := Ex × St) Γ1 (evFn Γ1 8 8) 79 1 fi79.nt fi79.live fi79.nl 8 (findL 2 (loopsIn fi79.code))) n (St.mk [(0, (AV.v (TV.one (At.vw 0 0 an 1)))), (1, (AV.v (TV.one (At.int IntKind.i64 k)))), (5, (AV.v (TV.one (At.int IntKind.i64 i))))] [(Blk.mk Bool.false (Body.fl FloatKind.f32 b0))]) (fun e st => some (e, st)) = (zb7 an b0) (z4t an b0 n k i) := by
  intro n
  induction n with
  | zero => intros; rfl
  | succ n ih =>
    intro k i
    refine Eq.trans (iter_succ ..) (Eq.trans (zom an k i b0 (nextK 79 2 1 (evC (R := Ex × St) Γ1 (evFn Γ1 8 8) 79 1 fi79.nt fi79.live fi79.nl 8 (findL 2 (loopsIn fi79.code))) n (fun e st => some (e, st)))) (Eq.trans ?_ (zmz (zb7 an b0) rfl an b0 k i (fun k' i' => z4t an b0 n k' i') (fun _ => some (Sum.inl ())) (fun c0_ c1_ c2_ => some (Sum.inr (c0_, c1_, c2_))))))
    exact congrArg (fun kn_ => z6t an b0 k i kn_ (fun _ => (zb7 an b0) (some (Sum.inl ()))) (fun c0_ c1_ c2_ => (zb7 an b0) (some (Sum.inr (c0_, c1_, c2_))))) (funext fun k' => funext fun i' => ih k' i')
theorem z0q : LoopOne Try.prog fnTab 79 2 z11 := lp_of (Γ := Γ1) tyTab_ok (FnL.ok fnTab_ok _ _) (LpL.ok lt1_ok) (SumL.ok tb1_ok _) mixed (fi := fi79) (by kernel_rfl) (by kernel_rfl) (by
  intro lo st out hp
  obtain ⟨hs, e1, e2, e3⟩ := lpT_inv hp
  clear hp
  obtain rfl : st = (St.mk [(0, (AV.v (TV.one (At.vw 0 0 (hvN (hGet hs 0)) 1)))), (1, (AV.v (TV.one (At.int IntKind.i64 (hvI (hGet hs 1)))))), (5, (AV.v (TV.one (At.int IntKind.i64 (hvI (hGet hs 2))))))] [(Blk.mk Bool.false (Body.fl FloatKind.f32 (hvLn (hGet hs 3))))]) := e2.trans (by kernel_rfl)
  clear e2
  subst e1
  unfold zls at e3
  injection e3 with h1 h2
  subst h2
  exact ⟨8, 8, big, Eq.trans (zoz (hvN (hGet hs 0)) (hvLn (hGet hs 3)) big (hvI (hGet hs 1)) (hvI (hGet hs 2))) (zok (hvN (hGet hs 0)) (hvLn (hGet hs 3)) (z4t (hvN (hGet hs 0)) (hvLn (hGet hs 3)) big (hvI (hGet hs 1)) (hvI (hGet hs 2))) h1)⟩)
noncomputable def tb2 : List (Nat × (List PT → Option (Bool × AV × List Blk))) := [(125, z2f), (128, z0w), (134, z1i), (137, z2g), (18, z2o), (44, z2p), (48, z26), (54, z3f), (61, z2n), (63, z4f), (64, z42), (66, z43), (80, z28), (97, z3e), (104, z0s), (115, z01), (14, z35), (67, z1y), (92, z46), (103, z3k), (105, z34), (111, z3w), (114, z3j), (118, z1x), (122, z19)]
noncomputable def lt2 : List ((Nat × Nat) × (Nat → St → Option (Bool × LO))) := [((52, 3), z1d), ((72, 2), z10), ((79, 2), z11)]
noncomputable def Γ2 : Ctx := ⟨tyTab, fnTab, tblSum tb2, tblLp lt2⟩
theorem tb2_ok : SumL Try.prog tb2 := SumL.cons z1g (SumL.cons z0l (SumL.cons z14 (SumL.cons z1h (SumL.cons z1p (SumL.cons z1q (SumL.cons z1f (SumL.cons z24 (SumL.cons z1o (SumL.cons z3r (SumL.cons z3a (SumL.cons z38 (SumL.cons z1e (SumL.cons z25 (SumL.cons z0k (SumL.cons z00 (SumL.cons z1z (SumL.cons z1c (SumL.cons z3h (SumL.cons z2a (SumL.cons z20 (SumL.cons z32 (SumL.cons z2c (SumL.cons z1b (SumL.cons z0z (SumL.nil)))))))))))))))))))))))))
theorem lt2_ok : LpL Try.prog fnTab lt2 := LpL.cons z0y (LpL.cons z0r (LpL.cons z0q (LpL.nil)))
noncomputable def z3y : List PT → Option (Bool × AV × List Blk)
  | [.agg [.row 1 q0j (.fl .f32 q0m), .row 1 q0l (.fl .f32 q0o), .row 1 q0k (.fl .f32 q0p), .row 3 q0q (.fl .f32 q0u), .s (.int .i64 q16), .s (.flt .f32 q23), .s (.flt .f32 q24)], .one (.s (.int .i64 q2c))] => some ((zkf q0j q0m q0l q0o q0k q0p q0q q0u q16 q23 q24 q2c), ((AV.v (TV.one (At.int IntKind.i64 (zi5 q0j q0m q0l q0o q0k q0p q0q q0u q16 q23 q24 q2c)))), []))
  | _ => none
def zpf (q0j : Nat) (q0m : List Nat) (q0l : Nat) (q0o : List Nat) (q0k : Nat) (q0p : List Nat) (q0q : Nat) (q0u : List Nat) (q16 : Int) (q23 : Nat) (q24 : Nat) (q2c : Int) : Option (Int) → Option (AV × List Blk)
  | some r => some ((AV.v (TV.one (At.int IntKind.i64 r))), [])
  | none => none
theorem zt8 (q0j : Nat) (q0m : List Nat) (q0l : Nat) (q0o : List Nat) (q0k : Nat) (q0p : List Nat) (q0q : Nat) (q0u : List Nat) (q16 : Int) (q23 : Nat) (q24 : Nat) (q2c : Int) : evFn Γ2 8 8 37 (impTs 0 [.agg [.row 1 q0j (.fl .f32 q0m), .row 1 q0l (.fl .f32 q0o), .row 1 q0k (.fl .f32 q0p), .row 3 q0q (.fl .f32 q0u), .s (.int .i64 q16), .s (.flt .f32 q23), .s (.flt .f32 q24)], .one (.s (.int .i64 q2c))]).1 (impTs 0 [.agg [.row 1 q0j (.fl .f32 q0m), .row 1 q0l (.fl .f32 q0o), .row 1 q0k (.fl .f32 q0p), .row 3 q0q (.fl .f32 q0u), .s (.int .i64 q16), .s (.flt .f32 q23), .s (.flt .f32 q24)], .one (.s (.int .i64 q2c))]).2 (expo (impTs 0 [.agg [.row 1 q0j (.fl .f32 q0m), .row 1 q0l (.fl .f32 q0o), .row 1 q0k (.fl .f32 q0p), .row 3 q0q (.fl .f32 q0u), .s (.int .i64 q16), .s (.flt .f32 q23), .s (.flt .f32 q24)], .one (.s (.int .i64 q2c))]).2.length) = zfa q0j q0m q0l q0o q0k q0p q0q q0u q16 q23 q24 q2c (fun c0_ => some ((AV.v (TV.one (At.int IntKind.i64 c0_))), [])) := by kernel_rfl
theorem z36 : SumOne Try.prog 37 z3y := sum_of (Γ := Γ2) (fuel := 8) (d := 8) tyTab_ok (FnL.ok fnTab_ok _ _) (LpL.ok lt2_ok) (SumL.ok tb2_ok _) mixed (by
  intro pts v news hp hc
  clear hc
  unfold z3y at hp
  split at hp
  · rename_i q0j q0m q0l q0o q0k q0p q0q q0u q16 q23 q24 q2c
    exact Eq.trans (Eq.trans (zt8 q0j q0m q0l q0o q0k q0p q0q q0u q16 q23 q24 q2c) (zri (zpf q0j q0m q0l q0o q0k q0p q0q q0u q16 q23 q24 q2c) rfl q0j q0m q0l q0o q0k q0p q0q q0u q16 q23 q24 q2c (fun c0_ => some c0_))) (fin_out (o := (zpf q0j q0m q0l q0o q0k q0p q0q q0u q16 q23 q24 q2c)) (x := zf6 q0j q0m q0l q0o q0k q0p q0q q0u q16 q23 q24 q2c) (d := default) (V := fun r => ((AV.v (TV.one (At.int IntKind.i64 r))), [])) (fun r => rfl) hp)
  · cases hp)
noncomputable def z2k : List PT → Option (Bool × AV × List Blk)
  | [.one (.row 1 a_n (.fl .f32 a))] => some ((zcz a_n a), ((AV.v (TV.one (At.sl 0 0 (zc8 a_n a) 1))), [(Blk.mk Bool.true (Body.fl FloatKind.f32 (zch a_n a)))]))
  | _ => none
def zn3 (a_n : Nat) (a : List Nat) : Option (Nat × (List Nat)) → Option (AV × List Blk)
  | some r => some ((AV.v (TV.one (At.sl 0 0 r.1 1))), [(Blk.mk Bool.true (Body.fl FloatKind.f32 r.2))])
  | none => none
theorem zs5 (a_n : Nat) (a : List Nat) : evFn Γ2 8 8 52 (impTs 0 [.one (.row 1 a_n (.fl .f32 a))]).1 (impTs 0 [.one (.row 1 a_n (.fl .f32 a))]).2 (expo (impTs 0 [.one (.row 1 a_n (.fl .f32 a))]).2.length) = zd7 a_n a (fun c0_ c1_ => some ((AV.v (TV.one (At.sl 0 0 c0_ 1))), [(Blk.mk Bool.true (Body.fl FloatKind.f32 c1_))])) := by kernel_rfl
theorem z1v : SumOne Try.prog 52 z2k := sum_of (Γ := Γ2) (fuel := 8) (d := 8) tyTab_ok (FnL.ok fnTab_ok _ _) (LpL.ok lt2_ok) (SumL.ok tb2_ok _) mixed (by
  intro pts v news hp hc
  clear hc
  unfold z2k at hp
  split at hp
  · rename_i a_n a
    exact Eq.trans (Eq.trans (zs5 a_n a) (zpc (zn3 a_n a) rfl a_n a (fun c0_ c1_ => some (c0_, c1_)))) (fin_out (o := (zn3 a_n a)) (x := zan a_n a) (d := default) (V := fun r => ((AV.v (TV.one (At.sl 0 0 r.1 1))), [(Blk.mk Bool.true (Body.fl FloatKind.f32 r.2))])) (fun r => rfl) hp)
  · cases hp)
noncomputable def z1r : List PT → Option (Bool × AV × List Blk)
  | [.one (.row 3 a_n (.fl .f32 a)), .one (.s (.int .i64 k))] => some ((zfv a_n a k), ((AV.v (TV.one (At.int IntKind.i64 (zcw a_n a k)))), []))
  | _ => none
def zmq (a_n : Nat) (a : List Nat) (k : Int) : Option (Int) → Option (AV × List Blk)
  | some r => some ((AV.v (TV.one (At.int IntKind.i64 r))), [])
  | none => none
theorem zqz (a_n : Nat) (a : List Nat) (k : Int) : evFn Γ2 8 8 72 (impTs 0 [.one (.row 3 a_n (.fl .f32 a)), .one (.s (.int .i64 k))]).1 (impTs 0 [.one (.row 3 a_n (.fl .f32 a)), .one (.s (.int .i64 k))]).2 (expo (impTs 0 [.one (.row 3 a_n (.fl .f32 a)), .one (.s (.int .i64 k))]).2.length) = zb0 a_n a k (fun c0_ => some ((AV.v (TV.one (At.int IntKind.i64 c0_))), [])) := by kernel_rfl
theorem z18 : SumOne Try.prog 72 z1r := sum_of (Γ := Γ2) (fuel := 8) (d := 8) tyTab_ok (FnL.ok fnTab_ok _ _) (LpL.ok lt2_ok) (SumL.ok tb2_ok _) mixed (by
  intro pts v news hp hc
  clear hc
  unfold z1r at hp
  split at hp
  · rename_i a_n a k
    exact Eq.trans (Eq.trans (zqz a_n a k) (zob (zmq a_n a k) rfl a_n a k (fun c0_ => some c0_))) (fin_out (o := (zmq a_n a k)) (x := zb1 a_n a k) (d := default) (V := fun r => ((AV.v (TV.one (At.int IntKind.i64 r))), [])) (fun r => rfl) hp)
  · cases hp)
noncomputable def z1s : List PT → Option (Bool × AV × List Blk)
  | [.one (.row 1 a_n (.fl .f32 a)), .one (.s (.int .i64 k))] => some ((zb3 a_n a k), ((AV.v (TV.one (At.int IntKind.i64 (z59 a_n a k)))), []))
  | _ => none
def zmp (a_n : Nat) (a : List Nat) (k : Int) : Option (Int) → Option (AV × List Blk)
  | some r => some ((AV.v (TV.one (At.int IntKind.i64 r))), [])
  | none => none
theorem zr3 (a_n : Nat) (a : List Nat) (k : Int) : evFn Γ2 8 8 79 (impTs 0 [.one (.row 1 a_n (.fl .f32 a)), .one (.s (.int .i64 k))]).1 (impTs 0 [.one (.row 1 a_n (.fl .f32 a)), .one (.s (.int .i64 k))]).2 (expo (impTs 0 [.one (.row 1 a_n (.fl .f32 a)), .one (.s (.int .i64 k))]).2.length) = zay a_n a k (fun c0_ => some ((AV.v (TV.one (At.int IntKind.i64 c0_))), [])) := by kernel_rfl
theorem z17 : SumOne Try.prog 79 z1s := sum_of (Γ := Γ2) (fuel := 8) (d := 8) tyTab_ok (FnL.ok fnTab_ok _ _) (LpL.ok lt2_ok) (SumL.ok tb2_ok _) mixed (by
  intro pts v news hp hc
  clear hc
  unfold z1s at hp
  split at hp
  · rename_i a_n a k
    exact Eq.trans (Eq.trans (zr3 a_n a k) (zo7 (zmp a_n a k) rfl a_n a k (fun c0_ => some c0_))) (fin_out (o := (zmp a_n a k)) (x := zaz a_n a k) (d := default) (V := fun r => ((AV.v (TV.one (At.int IntKind.i64 r))), [])) (fun r => rfl) hp)
  · cases hp)
noncomputable def z39 : List PT → Option (Bool × AV × List Blk)
  | [.agg [.row 1 q08 (.fl .f32 q0e), .row 1 q0b (.fl .f32 q0h), .row 1 q0a (.fl .f32 q0g), .row 3 q0f (.fl .f32 q0i), .s (.int .i64 q0n), .s (.flt .f32 q0r), .s (.flt .f32 q0s)]] => some ((zl3 q08 q0e q0b q0h q0a q0g q0f q0i q0n q0r q0s), ((AV.v (TV.agg [(At.sl 0 0 (z9y q08 q0e q0b q0h q0a q0g q0f q0i q0n q0r q0s) 1), (At.sl 1 0 (z9v q08 q0e q0b q0h q0a q0g q0f q0i q0n q0r q0s) 1), (At.sl 2 0 (z9w q08 q0e q0b q0h q0a q0g q0f q0i q0n q0r q0s) 1), (At.sl 3 0 (z6q q08 q0e q0b q0h q0a q0g q0f q0i q0n q0r q0s) 3), (At.int IntKind.i64 q0n), (At.flt FloatKind.f32 q0r), (At.flt FloatKind.f32 q0s)])), [(Blk.mk Bool.true (Body.fl FloatKind.f32 (zdc q08 q0e q0b q0h q0a q0g q0f q0i q0n q0r q0s))), (Blk.mk Bool.true (Body.fl FloatKind.f32 (zd2 q08 q0e q0b q0h q0a q0g q0f q0i q0n q0r q0s))), (Blk.mk Bool.true (Body.fl FloatKind.f32 (zcy q08 q0e q0b q0h q0a q0g q0f q0i q0n q0r q0s))), (Blk.mk Bool.true (Body.fl FloatKind.f32 (zap q08 q0e q0b q0h q0a q0g q0f q0i q0n q0r q0s)))]))
  | _ => none
def zo4 (q08 : Nat) (q0e : List Nat) (q0b : Nat) (q0h : List Nat) (q0a : Nat) (q0g : List Nat) (q0f : Nat) (q0i : List Nat) (q0n : Int) (q0r : Nat) (q0s : Nat) : Option (Nat × Nat × Nat × Nat × (List Nat) × (List Nat) × (List Nat) × (List Nat)) → Option (AV × List Blk)
  | some r => some ((AV.v (TV.agg [(At.sl 0 0 r.1 1), (At.sl 1 0 r.2.1 1), (At.sl 2 0 r.2.2.1 1), (At.sl 3 0 r.2.2.2.1 3), (At.int IntKind.i64 q0n), (At.flt FloatKind.f32 q0r), (At.flt FloatKind.f32 q0s)])), [(Blk.mk Bool.true (Body.fl FloatKind.f32 r.2.2.2.2.1)), (Blk.mk Bool.true (Body.fl FloatKind.f32 r.2.2.2.2.2.1)), (Blk.mk Bool.true (Body.fl FloatKind.f32 r.2.2.2.2.2.2.1)), (Blk.mk Bool.true (Body.fl FloatKind.f32 r.2.2.2.2.2.2.2))])
  | none => none
theorem zsr (q08 : Nat) (q0e : List Nat) (q0b : Nat) (q0h : List Nat) (q0a : Nat) (q0g : List Nat) (q0f : Nat) (q0i : List Nat) (q0n : Int) (q0r : Nat) (q0s : Nat) : evFn Γ2 8 8 93 (impTs 0 [.agg [.row 1 q08 (.fl .f32 q0e), .row 1 q0b (.fl .f32 q0h), .row 1 q0a (.fl .f32 q0g), .row 3 q0f (.fl .f32 q0i), .s (.int .i64 q0n), .s (.flt .f32 q0r), .s (.flt .f32 q0s)]]).1 (impTs 0 [.agg [.row 1 q08 (.fl .f32 q0e), .row 1 q0b (.fl .f32 q0h), .row 1 q0a (.fl .f32 q0g), .row 3 q0f (.fl .f32 q0i), .s (.int .i64 q0n), .s (.flt .f32 q0r), .s (.flt .f32 q0s)]]).2 (expo (impTs 0 [.agg [.row 1 q08 (.fl .f32 q0e), .row 1 q0b (.fl .f32 q0h), .row 1 q0a (.fl .f32 q0g), .row 3 q0f (.fl .f32 q0i), .s (.int .i64 q0n), .s (.flt .f32 q0r), .s (.flt .f32 q0s)]]).2.length) = zdx q08 q0e q0b q0h q0a q0g q0f q0i q0n q0r q0s (fun c0_ c1_ c2_ c3_ c4_ c5_ c6_ c7_ => some ((AV.v (TV.agg [(At.sl 0 0 c0_ 1), (At.sl 1 0 c1_ 1), (At.sl 2 0 c2_ 1), (At.sl 3 0 c3_ 3), (At.int IntKind.i64 q0n), (At.flt FloatKind.f32 q0r), (At.flt FloatKind.f32 q0s)])), [(Blk.mk Bool.true (Body.fl FloatKind.f32 c4_)), (Blk.mk Bool.true (Body.fl FloatKind.f32 c5_)), (Blk.mk Bool.true (Body.fl FloatKind.f32 c6_)), (Blk.mk Bool.true (Body.fl FloatKind.f32 c7_))])) := by kernel_rfl
theorem z27 : SumOne Try.prog 93 z39 := sum_of (Γ := Γ2) (fuel := 8) (d := 8) tyTab_ok (FnL.ok fnTab_ok _ _) (LpL.ok lt2_ok) (SumL.ok tb2_ok _) mixed (by
  intro pts v news hp hc
  clear hc
  unfold z39 at hp
  split at hp
  · rename_i q08 q0e q0b q0h q0a q0g q0f q0i q0n q0r q0s
    exact Eq.trans (Eq.trans (zsr q08 q0e q0b q0h q0a q0g q0f q0i q0n q0r q0s) (zqk (zo4 q08 q0e q0b q0h q0a q0g q0f q0i q0n q0r q0s) rfl q08 q0e q0b q0h q0a q0g q0f q0i q0n q0r q0s (fun c0_ c1_ c2_ c3_ c4_ c5_ c6_ c7_ => some (c0_, c1_, c2_, c3_, c4_, c5_, c6_, c7_)))) (fin_out (o := (zo4 q08 q0e q0b q0h q0a q0g q0f q0i q0n q0r q0s)) (x := z6p q08 q0e q0b q0h q0a q0g q0f q0i q0n q0r q0s) (d := default) (V := fun r => ((AV.v (TV.agg [(At.sl 0 0 r.1 1), (At.sl 1 0 r.2.1 1), (At.sl 2 0 r.2.2.1 1), (At.sl 3 0 r.2.2.2.1 3), (At.int IntKind.i64 q0n), (At.flt FloatKind.f32 q0r), (At.flt FloatKind.f32 q0s)])), [(Blk.mk Bool.true (Body.fl FloatKind.f32 r.2.2.2.2.1)), (Blk.mk Bool.true (Body.fl FloatKind.f32 r.2.2.2.2.2.1)), (Blk.mk Bool.true (Body.fl FloatKind.f32 r.2.2.2.2.2.2.1)), (Blk.mk Bool.true (Body.fl FloatKind.f32 r.2.2.2.2.2.2.2))])) (fun r => rfl) hp)
  · cases hp)
noncomputable def z2j : List PT → Option (Bool × AV × List Blk)
  | [.one (.s (.flt .f32 x))] => some ((zju x), ((AV.v (TV.one (At.bool (zho x)))), []))
  | _ => none
def zn9 (x : Nat) : Option (Bool) → Option (AV × List Blk)
  | some r => some ((AV.v (TV.one (At.bool r))), [])
  | none => none
theorem zrz (x : Nat) : evFn Γ2 8 8 119 (impTs 0 [.one (.s (.flt .f32 x))]).1 (impTs 0 [.one (.s (.flt .f32 x))]).2 (expo (impTs 0 [.one (.s (.flt .f32 x))]).2.length) = zd3 x (fun c0_ => some ((AV.v (TV.one (At.bool c0_))), [])) := by kernel_rfl
theorem z1t : SumOne Try.prog 119 z2j := sum_of (Γ := Γ2) (fuel := 8) (d := 8) tyTab_ok (FnL.ok fnTab_ok _ _) (LpL.ok lt2_ok) (SumL.ok tb2_ok _) mixed (by
  intro pts v news hp hc
  clear hc
  unfold z2j at hp
  split at hp
  · rename_i x
    exact Eq.trans (Eq.trans (zrz x) (zpp (zn9 x) rfl x (fun c0_ => some c0_))) (fin_out (o := (zn9 x)) (x := zcx x) (d := default) (V := fun r => ((AV.v (TV.one (At.bool r))), [])) (fun r => rfl) hp)
  · cases hp)
noncomputable def zm8 (an : Nat) (bn : Nat) (i : Int) (b0 : List Nat) (b1 : List Nat) : Bool × LO := ((zep an bn b0 b1 i), (LO.two (zeg an bn b0 b1 i) (LO.one Ex.ret (St.mk [(4, (AV.v (TV.one (At.bool Bool.false))))] [(Blk.mk Bool.false (Body.fl FloatKind.f32 b0)), (Blk.mk Bool.false (Body.fl FloatKind.f32 b1))])) (LO.one (Ex.exit 0) (St.mk [(0, (AV.v (TV.one (At.vw 0 0 an 1)))), (1, (AV.v (TV.one (At.vw 1 0 bn 1)))), (5, (AV.v (TV.one (At.int IntKind.i64 (zgb an bn b0 b1 i))))), (14, (AV.v (TV.one (At.bool (zgk an bn b0 b1 i)))))] [(Blk.mk Bool.false (Body.fl FloatKind.f32 b0)), (Blk.mk Bool.false (Body.fl FloatKind.f32 b1))]))))
noncomputable def z1k : Nat → St → Option (Bool × LO) := lpT 2 (pSt [(pTm 0 (pV (pOne (pVw 0 (liN 0) 1)))), (pTm 1 (pV (pOne (pVw 1 (liN 0) 1)))), (pTm 5 (pV (pOne (pInt IntKind.i64))))] [(pBlk Bool.false (pFl FloatKind.f32)), (pBlk Bool.false (pFl FloatKind.f32))]) (fun hs => zm8 (hvN (hGet hs 0)) (hvN (hGet hs 1)) (hvI (hGet hs 2)) (hvLn (hGet hs 3)) (hvLn (hGet hs 4)))
def zcp (an : Nat) (bn : Nat) (b0 : List Nat) (b1 : List Nat) : Option ((Unit) ⊕ (Int × Bool)) → Option (Ex × St)
  | none => none
  | some (Sum.inl r) => some (Ex.ret, (St.mk [(4, (AV.v (TV.one (At.bool Bool.false))))] [(Blk.mk Bool.false (Body.fl FloatKind.f32 b0)), (Blk.mk Bool.false (Body.fl FloatKind.f32 b1))]))
  | some (Sum.inr r) => some ((Ex.exit 0), (St.mk [(0, (AV.v (TV.one (At.vw 0 0 an 1)))), (1, (AV.v (TV.one (At.vw 1 0 bn 1)))), (5, (AV.v (TV.one (At.int IntKind.i64 r.1)))), (14, (AV.v (TV.one (At.bool r.2))))] [(Blk.mk Bool.false (Body.fl FloatKind.f32 b0)), (Blk.mk Bool.false (Body.fl FloatKind.f32 b1))]))
def zpa (an : Nat) (bn : Nat) (b0 : List Nat) (b1 : List Nat) (x : Option ((Unit) ⊕ (Int × Bool))) : LO := (LO.two (oL x) (LO.one Ex.ret (St.mk [(4, (AV.v (TV.one (At.bool Bool.false))))] [(Blk.mk Bool.false (Body.fl FloatKind.f32 b0)), (Blk.mk Bool.false (Body.fl FloatKind.f32 b1))])) (LO.one (Ex.exit 0) (St.mk [(0, (AV.v (TV.one (At.vw 0 0 an 1)))), (1, (AV.v (TV.one (At.vw 1 0 bn 1)))), (5, (AV.v (TV.one (At.int IntKind.i64 ((tR x).getD default).1)))), (14, (AV.v (TV.one (At.bool ((tR x).getD default).2))))] [(Blk.mk Bool.false (Body.fl FloatKind.f32 b0)), (Blk.mk Bool.false (Body.fl FloatKind.f32 b1))])))
theorem zpv (an : Nat) (bn : Nat) (b0 : List Nat) (b1 : List Nat) : ∀ x : Option ((Unit) ⊕ (Int × Bool)), x.isSome = true → (zcp an bn b0 b1) x = some (pick (zpa an bn b0 b1 x))
  | none, h => by cases h
  | some (Sum.inl r), _ => rfl
  | some (Sum.inr r), _ => rfl
theorem zq0 (an : Nat) (bn : Nat) (i : Int) (b0 : List Nat) (b1 : List Nat) (K : Ex → St → Option (Ex × St)) : evC (R := Ex × St) Γ2 (evFn Γ2 8 8) 57 2 fi57.nt fi57.live fi57.nl 8 (findL 4 (loopsIn fi57.code)) (St.mk [(0, (AV.v (TV.one (At.vw 0 0 an 1)))), (1, (AV.v (TV.one (At.vw 1 0 bn 1)))), (5, (AV.v (TV.one (At.int IntKind.i64 i))))] [(Blk.mk Bool.false (Body.fl FloatKind.f32 b0)), (Blk.mk Bool.false (Body.fl FloatKind.f32 b1))]) K = z7w an bn b0 b1 i (fun i' => K .normal (St.mk [(0, (AV.v (TV.one (At.vw 0 0 an 1)))), (1, (AV.v (TV.one (At.vw 1 0 bn 1)))), (5, (AV.v (TV.one (At.int IntKind.i64 i'))))] [(Blk.mk Bool.false (Body.fl FloatKind.f32 b0)), (Blk.mk Bool.false (Body.fl FloatKind.f32 b1))])) (fun _ => K Ex.ret (St.mk [(4, (AV.v (TV.one (At.bool Bool.false))))] [(Blk.mk Bool.false (Body.fl FloatKind.f32 b0)), (Blk.mk Bool.false (Body.fl FloatKind.f32 b1))])) (fun c0_ c1_ => K (Ex.exit 0) (St.mk [(0, (AV.v (TV.one (At.vw 0 0 an 1)))), (1, (AV.v (TV.one (At.vw 1 0 bn 1)))), (5, (AV.v (TV.one (At.int IntKind.i64 c0_)))), (14, (AV.v (TV.one (At.bool c1_))))] [(Blk.mk Bool.false (Body.fl FloatKind.f32 b0)), (Blk.mk Bool.false (Body.fl FloatKind.f32 b1))])) := by kernel_rfl
theorem zqn (an : Nat) (bn : Nat) (b0 : List Nat) (b1 : List Nat) : ∀ (n : Nat) (i : Int), iter 57 4 2 (evC (R := Ex × St) Γ2 (evFn Γ2 8 8) 57 2 fi57.nt fi57.live fi57.nl 8 (findL 4 (loopsIn fi57.code))) n (St.mk [(0, (AV.v (TV.one (At.vw 0 0 an 1)))), (1, (AV.v (TV.one (At.vw 1 0 bn 1)))), (5, (AV.v (TV.one (At.int IntKind.i64 i))))] [(Blk.mk Bool.false (Body.fl FloatKind.f32 b0)), (Blk.mk Bool.false (Body.fl FloatKind.f32 b1))]) (fun e st => some (e, st)) = (zcp an bn b0 b1) (z65 an bn b0 b1 n i) := by
  intro n
  induction n with
  | zero => intros; rfl
  | succ n ih =>
    intro i
    refine Eq.trans (iter_succ ..) (Eq.trans (zq0 an bn i b0 b1 (nextK 57 4 2 (evC (R := Ex × St) Γ2 (evFn Γ2 8 8) 57 2 fi57.nt fi57.live fi57.nl 8 (findL 4 (loopsIn fi57.code))) n (fun e st => some (e, st)))) (Eq.trans ?_ (znp (zcp an bn b0 b1) rfl an bn b0 b1 i (fun i' => z65 an bn b0 b1 n i') (fun _ => some (Sum.inl ())) (fun c0_ c1_ => some (Sum.inr (c0_, c1_))))))
    exact congrArg (fun kn_ => z7w an bn b0 b1 i kn_ (fun _ => (zcp an bn b0 b1) (some (Sum.inl ()))) (fun c0_ c1_ => (zcp an bn b0 b1) (some (Sum.inr (c0_, c1_))))) (funext fun i' => ih i')
theorem z12 : LoopOne Try.prog fnTab 57 4 z1k := lp_of (Γ := Γ2) tyTab_ok (FnL.ok fnTab_ok _ _) (LpL.ok lt2_ok) (SumL.ok tb2_ok _) mixed (fi := fi57) (by kernel_rfl) (by kernel_rfl) (by
  intro lo st out hp
  obtain ⟨hs, e1, e2, e3⟩ := lpT_inv hp
  clear hp
  obtain rfl : st = (St.mk [(0, (AV.v (TV.one (At.vw 0 0 (hvN (hGet hs 0)) 1)))), (1, (AV.v (TV.one (At.vw 1 0 (hvN (hGet hs 1)) 1)))), (5, (AV.v (TV.one (At.int IntKind.i64 (hvI (hGet hs 2))))))] [(Blk.mk Bool.false (Body.fl FloatKind.f32 (hvLn (hGet hs 3)))), (Blk.mk Bool.false (Body.fl FloatKind.f32 (hvLn (hGet hs 4))))]) := e2.trans (by kernel_rfl)
  clear e2
  subst e1
  unfold zm8 at e3
  injection e3 with h1 h2
  subst h2
  exact ⟨8, 8, big, Eq.trans (zqn (hvN (hGet hs 0)) (hvN (hGet hs 1)) (hvLn (hGet hs 3)) (hvLn (hGet hs 4)) big (hvI (hGet hs 2))) (zpv (hvN (hGet hs 0)) (hvN (hGet hs 1)) (hvLn (hGet hs 3)) (hvLn (hGet hs 4)) (z65 (hvN (hGet hs 0)) (hvN (hGet hs 1)) (hvLn (hGet hs 3)) (hvLn (hGet hs 4)) big (hvI (hGet hs 2))) h1)⟩)
noncomputable def zmb (an : Nat) (q2l : Nat) (i : Int) (b0 : List Nat) (b1 : List Nat) : Bool × LO := ((zcu an q2l b0 i b1), (LO.one (Ex.exit 0) (St.mk [(0, (AV.v (TV.one (At.vw 0 0 an 3)))), (3, (AV.v (TV.one (At.sl 1 0 q2l 3)))), (4, (AV.v (TV.one (At.int IntKind.i64 (zgq an q2l b0 i b1))))), (11, (AV.v (TV.one (At.bool (zge an q2l b0 i b1)))))] [(Blk.mk Bool.false (Body.fl FloatKind.f32 b0)), (Blk.mk Bool.true (Body.fl FloatKind.f32 (zal an q2l b0 i b1)))])))
noncomputable def z1j : Nat → St → Option (Bool × LO) := lpT 1 (pSt [(pTm 0 (pV (pOne (pVw 0 (liN 0) 3)))), (pTm 3 (pV (pOne (pSl 1 (liN 0) 3)))), (pTm 4 (pV (pOne (pInt IntKind.i64))))] [(pBlk Bool.false (pFl FloatKind.f32)), (pBlk Bool.true (pFl FloatKind.f32))]) (fun hs => zmb (hvN (hGet hs 0)) (hvN (hGet hs 1)) (hvI (hGet hs 2)) (hvLn (hGet hs 3)) (hvLn (hGet hs 4)))
def zf1 (an : Nat) (q2l : Nat) (b0 : List Nat) : Option ((Int × Bool × (List Nat))) → Option (Ex × St)
  | none => none
  | some r => some ((Ex.exit 0), (St.mk [(0, (AV.v (TV.one (At.vw 0 0 an 3)))), (3, (AV.v (TV.one (At.sl 1 0 q2l 3)))), (4, (AV.v (TV.one (At.int IntKind.i64 r.1)))), (11, (AV.v (TV.one (At.bool r.2.1))))] [(Blk.mk Bool.false (Body.fl FloatKind.f32 b0)), (Blk.mk Bool.true (Body.fl FloatKind.f32 r.2.2))]))
def zph (an : Nat) (q2l : Nat) (b0 : List Nat) (x : Option ((Int × Bool × (List Nat)))) : LO := (LO.one (Ex.exit 0) (St.mk [(0, (AV.v (TV.one (At.vw 0 0 an 3)))), (3, (AV.v (TV.one (At.sl 1 0 q2l 3)))), (4, (AV.v (TV.one (At.int IntKind.i64 (x.getD default).1)))), (11, (AV.v (TV.one (At.bool (x.getD default).2.1))))] [(Blk.mk Bool.false (Body.fl FloatKind.f32 b0)), (Blk.mk Bool.true (Body.fl FloatKind.f32 (x.getD default).2.2))]))
theorem zqf (an : Nat) (q2l : Nat) (b0 : List Nat) : ∀ x : Option ((Int × Bool × (List Nat))), x.isSome = true → (zf1 an q2l b0) x = some (pick (zph an q2l b0 x))
  | none, h => by cases h
  | some r, _ => rfl
theorem zpu (an : Nat) (q2l : Nat) (i : Int) (b0 : List Nat) (b1 : List Nat) (K : Ex → St → Option (Ex × St)) : evC (R := Ex × St) Γ2 (evFn Γ2 8 8) 86 1 fi86.nt fi86.live fi86.nl 8 (findL 3 (loopsIn fi86.code)) (St.mk [(0, (AV.v (TV.one (At.vw 0 0 an 3)))), (3, (AV.v (TV.one (At.sl 1 0 q2l 3)))), (4, (AV.v (TV.one (At.int IntKind.i64 i))))] [(Blk.mk Bool.false (Body.fl FloatKind.f32 b0)), (Blk.mk Bool.true (Body.fl FloatKind.f32 b1))]) K = z7u an q2l b0 i b1 (fun i' b1' => K .normal (St.mk [(0, (AV.v (TV.one (At.vw 0 0 an 3)))), (3, (AV.v (TV.one (At.sl 1 0 q2l 3)))), (4, (AV.v (TV.one (At.int IntKind.i64 i'))))] [(Blk.mk Bool.false (Body.fl FloatKind.f32 b0)), (Blk.mk Bool.true (Body.fl FloatKind.f32 b1'))])) (fun c0_ c1_ c2_ => K (Ex.exit 0) (St.mk [(0, (AV.v (TV.one (At.vw 0 0 an 3)))), (3, (AV.v (TV.one (At.sl 1 0 q2l 3)))), (4, (AV.v (TV.one (At.int IntKind.i64 c0_)))), (11, (AV.v (TV.one (At.bool c1_))))] [(Blk.mk Bool.false (Body.fl FloatKind.f32 b0)), (Blk.mk Bool.true (Body.fl FloatKind.f32 c2_))])) := by kernel_rfl
theorem zpx (an : Nat) (q2l : Nat) (b0 : List Nat) : ∀ (n : Nat) (i : Int) (b1 : List Nat), iter 86 3 1 (evC (R := Ex × St) Γ2 (evFn Γ2 8 8) 86 1 fi86.nt fi86.live fi86.nl 8 (findL 3 (loopsIn fi86.code))) n (St.mk [(0, (AV.v (TV.one (At.vw 0 0 an 3)))), (3, (AV.v (TV.one (At.sl 1 0 q2l 3)))), (4, (AV.v (TV.one (At.int IntKind.i64 i))))] [(Blk.mk Bool.false (Body.fl FloatKind.f32 b0)), (Blk.mk Bool.true (Body.fl FloatKind.f32 b1))]) (fun e st => some (e, st)) = (zf1 an q2l b0) (z58 an q2l b0 n i b1) := by
  intro n
  induction n with
  | zero => intros; rfl
  | succ n ih =>
    intro i b1
    refine Eq.trans (iter_succ ..) (Eq.trans (zpu an q2l i b0 b1 (nextK 86 3 1 (evC (R := Ex × St) Γ2 (evFn Γ2 8 8) 86 1 fi86.nt fi86.live fi86.nl 8 (findL 3 (loopsIn fi86.code))) n (fun e st => some (e, st)))) (Eq.trans ?_ (zo1 (zf1 an q2l b0) rfl an q2l b0 i b1 (fun i' b1' => z58 an q2l b0 n i' b1') (fun c0_ c1_ c2_ => some (c0_, c1_, c2_)))))
    exact congrArg (fun kn_ => z7u an q2l b0 i b1 kn_ (fun c0_ c1_ c2_ => (zf1 an q2l b0) (some (c0_, c1_, c2_)))) (funext fun i' => funext fun b1' => ih i' b1')
theorem z13 : LoopOne Try.prog fnTab 86 3 z1j := lp_of (Γ := Γ2) tyTab_ok (FnL.ok fnTab_ok _ _) (LpL.ok lt2_ok) (SumL.ok tb2_ok _) mixed (fi := fi86) (by kernel_rfl) (by kernel_rfl) (by
  intro lo st out hp
  obtain ⟨hs, e1, e2, e3⟩ := lpT_inv hp
  clear hp
  obtain rfl : st = (St.mk [(0, (AV.v (TV.one (At.vw 0 0 (hvN (hGet hs 0)) 3)))), (3, (AV.v (TV.one (At.sl 1 0 (hvN (hGet hs 1)) 3)))), (4, (AV.v (TV.one (At.int IntKind.i64 (hvI (hGet hs 2))))))] [(Blk.mk Bool.false (Body.fl FloatKind.f32 (hvLn (hGet hs 3)))), (Blk.mk Bool.true (Body.fl FloatKind.f32 (hvLn (hGet hs 4))))]) := e2.trans (by kernel_rfl)
  clear e2
  subst e1
  unfold zmb at e3
  injection e3 with h1 h2
  subst h2
  exact ⟨8, 8, big, Eq.trans (zpx (hvN (hGet hs 0)) (hvN (hGet hs 1)) (hvLn (hGet hs 3)) big (hvI (hGet hs 2)) (hvLn (hGet hs 4))) (zqf (hvN (hGet hs 0)) (hvN (hGet hs 1)) (hvLn (hGet hs 3)) (z58 (hvN (hGet hs 0)) (hvN (hGet hs 1)) (hvLn (hGet hs 3)) big (hvI (hGet hs 2)) (hvLn (hGet hs 4))) h1)⟩)
noncomputable def tb3 : List (Nat × (List PT → Option (Bool × AV × List Blk))) := [(125, z2f), (128, z0w), (134, z1i), (137, z2g), (18, z2o), (44, z2p), (48, z26), (54, z3f), (61, z2n), (63, z4f), (64, z42), (66, z43), (80, z28), (97, z3e), (104, z0s), (115, z01), (14, z35), (67, z1y), (92, z46), (103, z3k), (105, z34), (111, z3w), (114, z3j), (118, z1x), (122, z19), (37, z3y), (52, z2k), (72, z1r), (79, z1s), (93, z39), (119, z2j)]
noncomputable def lt3 : List ((Nat × Nat) × (Nat → St → Option (Bool × LO))) := [((52, 3), z1d), ((72, 2), z10), ((79, 2), z11), ((57, 4), z1k), ((86, 3), z1j)]
noncomputable def Γ3 : Ctx := ⟨tyTab, fnTab, tblSum tb3, tblLp lt3⟩
theorem tb3_ok : SumL Try.prog tb3 := SumL.cons z1g (SumL.cons z0l (SumL.cons z14 (SumL.cons z1h (SumL.cons z1p (SumL.cons z1q (SumL.cons z1f (SumL.cons z24 (SumL.cons z1o (SumL.cons z3r (SumL.cons z3a (SumL.cons z38 (SumL.cons z1e (SumL.cons z25 (SumL.cons z0k (SumL.cons z00 (SumL.cons z1z (SumL.cons z1c (SumL.cons z3h (SumL.cons z2a (SumL.cons z20 (SumL.cons z32 (SumL.cons z2c (SumL.cons z1b (SumL.cons z0z (SumL.cons z36 (SumL.cons z1v (SumL.cons z18 (SumL.cons z17 (SumL.cons z27 (SumL.cons z1t (SumL.nil)))))))))))))))))))))))))))))))
theorem lt3_ok : LpL Try.prog fnTab lt3 := LpL.cons z0y (LpL.cons z0r (LpL.cons z0q (LpL.cons z12 (LpL.cons z13 (LpL.nil)))))
noncomputable def z3g : List PT → Option (Bool × AV × List Blk)
  | [.agg [.row 1 q0t (.fl .f32 q0z), .row 1 q0v (.fl .f32 q15), .row 1 q0x (.fl .f32 q18)]] => some ((zkx q0t q0z q0v q15 q0x q18), ((AV.v (TV.agg [(At.sl 0 0 (zjm q0t q0z q0v q15 q0x q18) 1), (At.sl 1 0 (zjh q0t q0z q0v q15 q0x q18) 1), (At.sl 2 0 (zjk q0t q0z q0v q15 q0x q18) 1)])), [(Blk.mk Bool.true (Body.fl FloatKind.f32 (zjj q0t q0z q0v q15 q0x q18))), (Blk.mk Bool.true (Body.fl FloatKind.f32 (zjo q0t q0z q0v q15 q0x q18))), (Blk.mk Bool.true (Body.fl FloatKind.f32 (zjg q0t q0z q0v q15 q0x q18)))]))
  | _ => none
def znw (q0t : Nat) (q0z : List Nat) (q0v : Nat) (q15 : List Nat) (q0x : Nat) (q18 : List Nat) : Option (Nat × Nat × Nat × (List Nat) × (List Nat) × (List Nat)) → Option (AV × List Blk)
  | some r => some ((AV.v (TV.agg [(At.sl 0 0 r.1 1), (At.sl 1 0 r.2.1 1), (At.sl 2 0 r.2.2.1 1)])), [(Blk.mk Bool.true (Body.fl FloatKind.f32 r.2.2.2.1)), (Blk.mk Bool.true (Body.fl FloatKind.f32 r.2.2.2.2.1)), (Blk.mk Bool.true (Body.fl FloatKind.f32 r.2.2.2.2.2))])
  | none => none
theorem zsd (q0t : Nat) (q0z : List Nat) (q0v : Nat) (q15 : List Nat) (q0x : Nat) (q18 : List Nat) : evFn Γ3 8 8 16 (impTs 0 [.agg [.row 1 q0t (.fl .f32 q0z), .row 1 q0v (.fl .f32 q15), .row 1 q0x (.fl .f32 q18)]]).1 (impTs 0 [.agg [.row 1 q0t (.fl .f32 q0z), .row 1 q0v (.fl .f32 q15), .row 1 q0x (.fl .f32 q18)]]).2 (expo (impTs 0 [.agg [.row 1 q0t (.fl .f32 q0z), .row 1 q0v (.fl .f32 q15), .row 1 q0x (.fl .f32 q18)]]).2.length) = ze0 q0t q0z q0v q15 q0x q18 (fun c0_ c1_ c2_ c3_ c4_ c5_ => some ((AV.v (TV.agg [(At.sl 0 0 c0_ 1), (At.sl 1 0 c1_ 1), (At.sl 2 0 c2_ 1)])), [(Blk.mk Bool.true (Body.fl FloatKind.f32 c3_)), (Blk.mk Bool.true (Body.fl FloatKind.f32 c4_)), (Blk.mk Bool.true (Body.fl FloatKind.f32 c5_))])) := by kernel_rfl
theorem z2e : SumOne Try.prog 16 z3g := sum_of (Γ := Γ3) (fuel := 8) (d := 8) tyTab_ok (FnL.ok fnTab_ok _ _) (LpL.ok lt3_ok) (SumL.ok tb3_ok _) mixed (by
  intro pts v news hp hc
  clear hc
  unfold z3g at hp
  split at hp
  · rename_i q0t q0z q0v q15 q0x q18
    exact Eq.trans (Eq.trans (zsd q0t q0z q0v q15 q0x q18) (zq2 (znw q0t q0z q0v q15 q0x q18) rfl q0t q0z q0v q15 q0x q18 (fun c0_ c1_ c2_ c3_ c4_ c5_ => some (c0_, c1_, c2_, c3_, c4_, c5_)))) (fin_out (o := (znw q0t q0z q0v q15 q0x q18)) (x := z82 q0t q0z q0v q15 q0x q18) (d := default) (V := fun r => ((AV.v (TV.agg [(At.sl 0 0 r.1 1), (At.sl 1 0 r.2.1 1), (At.sl 2 0 r.2.2.1 1)])), [(Blk.mk Bool.true (Body.fl FloatKind.f32 r.2.2.2.1)), (Blk.mk Bool.true (Body.fl FloatKind.f32 r.2.2.2.2.1)), (Blk.mk Bool.true (Body.fl FloatKind.f32 r.2.2.2.2.2))])) (fun r => rfl) hp)
  · cases hp)
noncomputable def z2b : List PT → Option (Bool × AV × List Blk)
  | [.agg [.row 1 q0t (.fl .f32 q0z), .row 1 q0v (.fl .f32 q15), .row 1 q0x (.fl .f32 q18)], .one (.s (.int .i64 k))] => some ((zh7 q0t q0z q0v q15 q0x q18 k), ((AV.v (TV.one (At.int IntKind.i64 (z9z q0t q0z q0v q15 q0x q18 k)))), []))
  | _ => none
def zmt (q0t : Nat) (q0z : List Nat) (q0v : Nat) (q15 : List Nat) (q0x : Nat) (q18 : List Nat) (k : Int) : Option (Int) → Option (AV × List Blk)
  | some r => some ((AV.v (TV.one (At.int IntKind.i64 r))), [])
  | none => none
theorem zrf (q0t : Nat) (q0z : List Nat) (q0v : Nat) (q15 : List Nat) (q0x : Nat) (q18 : List Nat) (k : Int) : evFn Γ3 8 8 36 (impTs 0 [.agg [.row 1 q0t (.fl .f32 q0z), .row 1 q0v (.fl .f32 q15), .row 1 q0x (.fl .f32 q18)], .one (.s (.int .i64 k))]).1 (impTs 0 [.agg [.row 1 q0t (.fl .f32 q0z), .row 1 q0v (.fl .f32 q15), .row 1 q0x (.fl .f32 q18)], .one (.s (.int .i64 k))]).2 (expo (impTs 0 [.agg [.row 1 q0t (.fl .f32 q0z), .row 1 q0v (.fl .f32 q15), .row 1 q0x (.fl .f32 q18)], .one (.s (.int .i64 k))]).2.length) = zcf q0t q0z q0v q15 q0x q18 k (fun c0_ => some ((AV.v (TV.one (At.int IntKind.i64 c0_))), [])) := by kernel_rfl
theorem z1l : SumOne Try.prog 36 z2b := sum_of (Γ := Γ3) (fuel := 8) (d := 8) tyTab_ok (FnL.ok fnTab_ok _ _) (LpL.ok lt3_ok) (SumL.ok tb3_ok _) mixed (by
  intro pts v news hp hc
  clear hc
  unfold z2b at hp
  split at hp
  · rename_i q0t q0z q0v q15 q0x q18 k
    exact Eq.trans (Eq.trans (zrf q0t q0z q0v q15 q0x q18 k) (zor (zmt q0t q0z q0v q15 q0x q18 k) rfl q0t q0z q0v q15 q0x q18 k (fun c0_ => some c0_))) (fin_out (o := (zmt q0t q0z q0v q15 q0x q18 k)) (x := zcd q0t q0z q0v q15 q0x q18 k) (d := default) (V := fun r => ((AV.v (TV.one (At.int IntKind.i64 r))), [])) (fun r => rfl) hp)
  · cases hp)
noncomputable def z31 : List PT → Option (Bool × AV × List Blk)
  | [.one (.row 1 a_n (.fl .f32 a)), .one (.row 1 b_n (.fl .f32 b))] => some ((zdd a_n a b_n b), ((AV.v (TV.one (At.bool (zc5 a_n a b_n b)))), []))
  | _ => none
def zne (a_n : Nat) (a : List Nat) (b_n : Nat) (b : List Nat) : Option (Bool) → Option (AV × List Blk)
  | some r => some ((AV.v (TV.one (At.bool r))), [])
  | none => none
theorem zrn (a_n : Nat) (a : List Nat) (b_n : Nat) (b : List Nat) : evFn Γ3 8 8 57 (impTs 0 [.one (.row 1 a_n (.fl .f32 a)), .one (.row 1 b_n (.fl .f32 b))]).1 (impTs 0 [.one (.row 1 a_n (.fl .f32 a)), .one (.row 1 b_n (.fl .f32 b))]).2 (expo (impTs 0 [.one (.row 1 a_n (.fl .f32 a)), .one (.row 1 b_n (.fl .f32 b))]).2.length) = zdb a_n a b_n b (fun c0_ => some ((AV.v (TV.one (At.bool c0_))), [])) := by kernel_rfl
theorem z23 : SumOne Try.prog 57 z31 := sum_of (Γ := Γ3) (fuel := 8) (d := 8) tyTab_ok (FnL.ok fnTab_ok _ _) (LpL.ok lt3_ok) (SumL.ok tb3_ok _) mixed (by
  intro pts v news hp hc
  clear hc
  unfold z31 at hp
  split at hp
  · rename_i a_n a b_n b
    exact Eq.trans (Eq.trans (zrn a_n a b_n b) (zpi (zne a_n a b_n b) rfl a_n a b_n b (fun c0_ => some c0_))) (fin_out (o := (zne a_n a b_n b)) (x := zda a_n a b_n b) (d := default) (V := fun r => ((AV.v (TV.one (At.bool r))), [])) (fun r => rfl) hp)
  · cases hp)
noncomputable def z30 : List PT → Option (Bool × AV × List Blk)
  | [.one (.row 3 a_n (.fl .f32 a))] => some ((zjs a_n a), ((AV.v (TV.one (At.sl 0 0 (zhz a_n a) 3))), [(Blk.mk Bool.true (Body.fl FloatKind.f32 (zib a_n a)))]))
  | _ => none
def zn5 (a_n : Nat) (a : List Nat) : Option (Nat × (List Nat)) → Option (AV × List Blk)
  | some r => some ((AV.v (TV.one (At.sl 0 0 r.1 3))), [(Blk.mk Bool.true (Body.fl FloatKind.f32 r.2))])
  | none => none
theorem zrw (a_n : Nat) (a : List Nat) : evFn Γ3 8 8 86 (impTs 0 [.one (.row 3 a_n (.fl .f32 a))]).1 (impTs 0 [.one (.row 3 a_n (.fl .f32 a))]).2 (expo (impTs 0 [.one (.row 3 a_n (.fl .f32 a))]).2.length) = zdf a_n a (fun c0_ c1_ => some ((AV.v (TV.one (At.sl 0 0 c0_ 3))), [(Blk.mk Bool.true (Body.fl FloatKind.f32 c1_))])) := by kernel_rfl
theorem z21 : SumOne Try.prog 86 z30 := sum_of (Γ := Γ3) (fuel := 8) (d := 8) tyTab_ok (FnL.ok fnTab_ok _ _) (LpL.ok lt3_ok) (SumL.ok tb3_ok _) mixed (by
  intro pts v news hp hc
  clear hc
  unfold z30 at hp
  split at hp
  · rename_i a_n a
    exact Eq.trans (Eq.trans (zrw a_n a) (zp8 (zn5 a_n a) rfl a_n a (fun c0_ c1_ => some (c0_, c1_)))) (fin_out (o := (zn5 a_n a)) (x := zao a_n a) (d := default) (V := fun r => ((AV.v (TV.one (At.sl 0 0 r.1 3))), [(Blk.mk Bool.true (Body.fl FloatKind.f32 r.2))])) (fun r => rfl) hp)
  · cases hp)
noncomputable def zn2 (t3 : Int) (t4 : Int) (b0 : List Nat) (b1 : List Nat) (b2 : List Nat) (q27 : Nat) (q2m : Nat) (q2n : Nat) : Bool × LO := ((zaw t3 b0 b1 b2 q27 q2m q2n t4), (LO.two (zaa t3 b0 b1 b2 q27 q2m q2n t4) (LO.one Ex.ret (St.mk [(2, (AV.v (TV.one (At.bool Bool.false))))] [(Blk.mk Bool.false (Body.fl FloatKind.f32 b0)), (Blk.mk Bool.false (Body.fl FloatKind.f32 b1)), (Blk.mk Bool.false (Body.fl FloatKind.f32 b2)), (Blk.mk Bool.false (Body.cells [(At.vw 0 0 q27 1), (At.vw 1 0 q2m 1), (At.vw 2 0 q2n 1)]))])) (LO.one (Ex.exit 0) (St.mk [(0, (AV.v (TV.one (At.ptr 3 0 3)))), (3, (AV.v (TV.one (At.int IntKind.i64 t3)))), (4, (AV.v (TV.one (At.int IntKind.i64 (zlt t3 b0 b1 b2 q27 q2m q2n t4))))), (36, (AV.v (TV.one (At.bool (zlo t3 b0 b1 b2 q27 q2m q2n t4)))))] [(Blk.mk Bool.false (Body.fl FloatKind.f32 b0)), (Blk.mk Bool.false (Body.fl FloatKind.f32 b1)), (Blk.mk Bool.false (Body.fl FloatKind.f32 b2)), (Blk.mk Bool.false (Body.cells [(At.vw 0 0 q27 1), (At.vw 1 0 q2m 1), (At.vw 2 0 q2n 1)]))]))))
noncomputable def z3x : Nat → St → Option (Bool × LO) := lpT 4 (pSt [(pTm 0 (pV (pOne (pPtr 3 (liN 0) 3)))), (pTm 3 (pV (pOne (pInt IntKind.i64)))), (pTm 4 (pV (pOne (pInt IntKind.i64))))] [(pBlk Bool.false (pFl FloatKind.f32)), (pBlk Bool.false (pFl FloatKind.f32)), (pBlk Bool.false (pFl FloatKind.f32)), (pBlk Bool.false (pCells [(pVw 0 (liN 0) 1), (pVw 1 (liN 0) 1), (pVw 2 (liN 0) 1)]))]) (fun hs => zn2 (hvI (hGet hs 0)) (hvI (hGet hs 1)) (hvLn (hGet hs 2)) (hvLn (hGet hs 3)) (hvLn (hGet hs 4)) (hvN (hGet hs 5)) (hvN (hGet hs 6)) (hvN (hGet hs 7)))
def zic (t3 : Int) (b0 : List Nat) (b1 : List Nat) (b2 : List Nat) (q27 : Nat) (q2m : Nat) (q2n : Nat) : Option ((Unit) ⊕ (Int × Bool)) → Option (Ex × St)
  | none => none
  | some (Sum.inl r) => some (Ex.ret, (St.mk [(2, (AV.v (TV.one (At.bool Bool.false))))] [(Blk.mk Bool.false (Body.fl FloatKind.f32 b0)), (Blk.mk Bool.false (Body.fl FloatKind.f32 b1)), (Blk.mk Bool.false (Body.fl FloatKind.f32 b2)), (Blk.mk Bool.false (Body.cells [(At.vw 0 0 q27 1), (At.vw 1 0 q2m 1), (At.vw 2 0 q2n 1)]))]))
  | some (Sum.inr r) => some ((Ex.exit 0), (St.mk [(0, (AV.v (TV.one (At.ptr 3 0 3)))), (3, (AV.v (TV.one (At.int IntKind.i64 t3)))), (4, (AV.v (TV.one (At.int IntKind.i64 r.1)))), (36, (AV.v (TV.one (At.bool r.2))))] [(Blk.mk Bool.false (Body.fl FloatKind.f32 b0)), (Blk.mk Bool.false (Body.fl FloatKind.f32 b1)), (Blk.mk Bool.false (Body.fl FloatKind.f32 b2)), (Blk.mk Bool.false (Body.cells [(At.vw 0 0 q27 1), (At.vw 1 0 q2m 1), (At.vw 2 0 q2n 1)]))]))
def zso (t3 : Int) (b0 : List Nat) (b1 : List Nat) (b2 : List Nat) (q27 : Nat) (q2m : Nat) (q2n : Nat) (x : Option ((Unit) ⊕ (Int × Bool))) : LO := (LO.two (oL x) (LO.one Ex.ret (St.mk [(2, (AV.v (TV.one (At.bool Bool.false))))] [(Blk.mk Bool.false (Body.fl FloatKind.f32 b0)), (Blk.mk Bool.false (Body.fl FloatKind.f32 b1)), (Blk.mk Bool.false (Body.fl FloatKind.f32 b2)), (Blk.mk Bool.false (Body.cells [(At.vw 0 0 q27 1), (At.vw 1 0 q2m 1), (At.vw 2 0 q2n 1)]))])) (LO.one (Ex.exit 0) (St.mk [(0, (AV.v (TV.one (At.ptr 3 0 3)))), (3, (AV.v (TV.one (At.int IntKind.i64 t3)))), (4, (AV.v (TV.one (At.int IntKind.i64 ((tR x).getD default).1)))), (36, (AV.v (TV.one (At.bool ((tR x).getD default).2))))] [(Blk.mk Bool.false (Body.fl FloatKind.f32 b0)), (Blk.mk Bool.false (Body.fl FloatKind.f32 b1)), (Blk.mk Bool.false (Body.fl FloatKind.f32 b2)), (Blk.mk Bool.false (Body.cells [(At.vw 0 0 q27 1), (At.vw 1 0 q2m 1), (At.vw 2 0 q2n 1)]))])))
theorem zsu (t3 : Int) (b0 : List Nat) (b1 : List Nat) (b2 : List Nat) (q27 : Nat) (q2m : Nat) (q2n : Nat) : ∀ x : Option ((Unit) ⊕ (Int × Bool)), x.isSome = true → (zic t3 b0 b1 b2 q27 q2m q2n) x = some (pick (zso t3 b0 b1 b2 q27 q2m q2n x))
  | none, h => by cases h
  | some (Sum.inl r), _ => rfl
  | some (Sum.inr r), _ => rfl
theorem zt1 (t3 : Int) (t4 : Int) (b0 : List Nat) (b1 : List Nat) (b2 : List Nat) (q27 : Nat) (q2m : Nat) (q2n : Nat) (K : Ex → St → Option (Ex × St)) : evC (R := Ex × St) Γ3 (evFn Γ3 8 8) 62 4 fi62.nt fi62.live fi62.nl 8 (findL 5 (loopsIn fi62.code)) (St.mk [(0, (AV.v (TV.one (At.ptr 3 0 3)))), (3, (AV.v (TV.one (At.int IntKind.i64 t3)))), (4, (AV.v (TV.one (At.int IntKind.i64 t4))))] [(Blk.mk Bool.false (Body.fl FloatKind.f32 b0)), (Blk.mk Bool.false (Body.fl FloatKind.f32 b1)), (Blk.mk Bool.false (Body.fl FloatKind.f32 b2)), (Blk.mk Bool.false (Body.cells [(At.vw 0 0 q27 1), (At.vw 1 0 q2m 1), (At.vw 2 0 q2n 1)]))]) K = za2 t3 b0 b1 b2 q27 q2m q2n t4 (fun t4' => K .normal (St.mk [(0, (AV.v (TV.one (At.ptr 3 0 3)))), (3, (AV.v (TV.one (At.int IntKind.i64 t3)))), (4, (AV.v (TV.one (At.int IntKind.i64 t4'))))] [(Blk.mk Bool.false (Body.fl FloatKind.f32 b0)), (Blk.mk Bool.false (Body.fl FloatKind.f32 b1)), (Blk.mk Bool.false (Body.fl FloatKind.f32 b2)), (Blk.mk Bool.false (Body.cells [(At.vw 0 0 q27 1), (At.vw 1 0 q2m 1), (At.vw 2 0 q2n 1)]))])) (fun _ => K Ex.ret (St.mk [(2, (AV.v (TV.one (At.bool Bool.false))))] [(Blk.mk Bool.false (Body.fl FloatKind.f32 b0)), (Blk.mk Bool.false (Body.fl FloatKind.f32 b1)), (Blk.mk Bool.false (Body.fl FloatKind.f32 b2)), (Blk.mk Bool.false (Body.cells [(At.vw 0 0 q27 1), (At.vw 1 0 q2m 1), (At.vw 2 0 q2n 1)]))])) (fun c0_ c1_ => K (Ex.exit 0) (St.mk [(0, (AV.v (TV.one (At.ptr 3 0 3)))), (3, (AV.v (TV.one (At.int IntKind.i64 t3)))), (4, (AV.v (TV.one (At.int IntKind.i64 c0_)))), (36, (AV.v (TV.one (At.bool c1_))))] [(Blk.mk Bool.false (Body.fl FloatKind.f32 b0)), (Blk.mk Bool.false (Body.fl FloatKind.f32 b1)), (Blk.mk Bool.false (Body.fl FloatKind.f32 b2)), (Blk.mk Bool.false (Body.cells [(At.vw 0 0 q27 1), (At.vw 1 0 q2m 1), (At.vw 2 0 q2n 1)]))])) := by kernel_rfl
theorem zsy (t3 : Int) (b0 : List Nat) (b1 : List Nat) (b2 : List Nat) (q27 : Nat) (q2m : Nat) (q2n : Nat) : ∀ (n : Nat) (t4 : Int), iter 62 5 4 (evC (R := Ex × St) Γ3 (evFn Γ3 8 8) 62 4 fi62.nt fi62.live fi62.nl 8 (findL 5 (loopsIn fi62.code))) n (St.mk [(0, (AV.v (TV.one (At.ptr 3 0 3)))), (3, (AV.v (TV.one (At.int IntKind.i64 t3)))), (4, (AV.v (TV.one (At.int IntKind.i64 t4))))] [(Blk.mk Bool.false (Body.fl FloatKind.f32 b0)), (Blk.mk Bool.false (Body.fl FloatKind.f32 b1)), (Blk.mk Bool.false (Body.fl FloatKind.f32 b2)), (Blk.mk Bool.false (Body.cells [(At.vw 0 0 q27 1), (At.vw 1 0 q2m 1), (At.vw 2 0 q2n 1)]))]) (fun e st => some (e, st)) = (zic t3 b0 b1 b2 q27 q2m q2n) (z7e t3 b0 b1 b2 q27 q2m q2n n t4) := by
  intro n
  induction n with
  | zero => intros; rfl
  | succ n ih =>
    intro t4
    refine Eq.trans (iter_succ ..) (Eq.trans (zt1 t3 t4 b0 b1 b2 q27 q2m q2n (nextK 62 5 4 (evC (R := Ex × St) Γ3 (evFn Γ3 8 8) 62 4 fi62.nt fi62.live fi62.nl 8 (findL 5 (loopsIn fi62.code))) n (fun e st => some (e, st)))) (Eq.trans ?_ (zr5 (zic t3 b0 b1 b2 q27 q2m q2n) rfl t3 b0 b1 b2 q27 q2m q2n t4 (fun t4' => z7e t3 b0 b1 b2 q27 q2m q2n n t4') (fun _ => some (Sum.inl ())) (fun c0_ c1_ => some (Sum.inr (c0_, c1_))))))
    exact congrArg (fun kn_ => za2 t3 b0 b1 b2 q27 q2m q2n t4 kn_ (fun _ => (zic t3 b0 b1 b2 q27 q2m q2n) (some (Sum.inl ()))) (fun c0_ c1_ => (zic t3 b0 b1 b2 q27 q2m q2n) (some (Sum.inr (c0_, c1_))))) (funext fun t4' => ih t4')
theorem z33 : LoopOne Try.prog fnTab 62 5 z3x := lp_of (Γ := Γ3) tyTab_ok (FnL.ok fnTab_ok _ _) (LpL.ok lt3_ok) (SumL.ok tb3_ok _) mixed (fi := fi62) (by kernel_rfl) (by kernel_rfl) (by
  intro lo st out hp
  obtain ⟨hs, e1, e2, e3⟩ := lpT_inv hp
  clear hp
  obtain rfl : st = (St.mk [(0, (AV.v (TV.one (At.ptr 3 0 3)))), (3, (AV.v (TV.one (At.int IntKind.i64 (hvI (hGet hs 0)))))), (4, (AV.v (TV.one (At.int IntKind.i64 (hvI (hGet hs 1))))))] [(Blk.mk Bool.false (Body.fl FloatKind.f32 (hvLn (hGet hs 2)))), (Blk.mk Bool.false (Body.fl FloatKind.f32 (hvLn (hGet hs 3)))), (Blk.mk Bool.false (Body.fl FloatKind.f32 (hvLn (hGet hs 4)))), (Blk.mk Bool.false (Body.cells [(At.vw 0 0 (hvN (hGet hs 5)) 1), (At.vw 1 0 (hvN (hGet hs 6)) 1), (At.vw 2 0 (hvN (hGet hs 7)) 1)]))]) := e2.trans (by kernel_rfl)
  clear e2
  subst e1
  unfold zn2 at e3
  injection e3 with h1 h2
  subst h2
  exact ⟨8, 8, big, Eq.trans (zsy (hvI (hGet hs 0)) (hvLn (hGet hs 2)) (hvLn (hGet hs 3)) (hvLn (hGet hs 4)) (hvN (hGet hs 5)) (hvN (hGet hs 6)) (hvN (hGet hs 7)) big (hvI (hGet hs 1))) (zsu (hvI (hGet hs 0)) (hvLn (hGet hs 2)) (hvLn (hGet hs 3)) (hvLn (hGet hs 4)) (hvN (hGet hs 5)) (hvN (hGet hs 6)) (hvN (hGet hs 7)) (z7e (hvI (hGet hs 0)) (hvLn (hGet hs 2)) (hvLn (hGet hs 3)) (hvLn (hGet hs 4)) (hvN (hGet hs 5)) (hvN (hGet hs 6)) (hvN (hGet hs 7)) big (hvI (hGet hs 1))) h1)⟩)
noncomputable def zmc (an : Nat) (bn : Nat) (i : Int) (b0 : List Nat) (b1 : List Nat) : Bool × LO := ((zcv an bn b0 b1 i), (LO.two (zca an bn b0 b1 i) (LO.one Ex.ret (St.mk [(4, (AV.v (TV.one (At.bool Bool.false))))] [(Blk.mk Bool.false (Body.fl FloatKind.f32 b0)), (Blk.mk Bool.false (Body.fl FloatKind.f32 b1))])) (LO.one (Ex.exit 0) (St.mk [(0, (AV.v (TV.one (At.vw 0 0 an 3)))), (1, (AV.v (TV.one (At.vw 1 0 bn 3)))), (5, (AV.v (TV.one (At.int IntKind.i64 (zg7 an bn b0 b1 i))))), (14, (AV.v (TV.one (At.bool (zgc an bn b0 b1 i)))))] [(Blk.mk Bool.false (Body.fl FloatKind.f32 b0)), (Blk.mk Bool.false (Body.fl FloatKind.f32 b1))]))))
noncomputable def z1u : Nat → St → Option (Bool × LO) := lpT 2 (pSt [(pTm 0 (pV (pOne (pVw 0 (liN 0) 3)))), (pTm 1 (pV (pOne (pVw 1 (liN 0) 3)))), (pTm 5 (pV (pOne (pInt IntKind.i64))))] [(pBlk Bool.false (pFl FloatKind.f32)), (pBlk Bool.false (pFl FloatKind.f32))]) (fun hs => zmc (hvN (hGet hs 0)) (hvN (hGet hs 1)) (hvI (hGet hs 2)) (hvLn (hGet hs 3)) (hvLn (hGet hs 4)))
def zct (an : Nat) (bn : Nat) (b0 : List Nat) (b1 : List Nat) : Option ((Unit) ⊕ (Int × Bool)) → Option (Ex × St)
  | none => none
  | some (Sum.inl r) => some (Ex.ret, (St.mk [(4, (AV.v (TV.one (At.bool Bool.false))))] [(Blk.mk Bool.false (Body.fl FloatKind.f32 b0)), (Blk.mk Bool.false (Body.fl FloatKind.f32 b1))]))
  | some (Sum.inr r) => some ((Ex.exit 0), (St.mk [(0, (AV.v (TV.one (At.vw 0 0 an 3)))), (1, (AV.v (TV.one (At.vw 1 0 bn 3)))), (5, (AV.v (TV.one (At.int IntKind.i64 r.1)))), (14, (AV.v (TV.one (At.bool r.2))))] [(Blk.mk Bool.false (Body.fl FloatKind.f32 b0)), (Blk.mk Bool.false (Body.fl FloatKind.f32 b1))]))
def zpl (an : Nat) (bn : Nat) (b0 : List Nat) (b1 : List Nat) (x : Option ((Unit) ⊕ (Int × Bool))) : LO := (LO.two (oL x) (LO.one Ex.ret (St.mk [(4, (AV.v (TV.one (At.bool Bool.false))))] [(Blk.mk Bool.false (Body.fl FloatKind.f32 b0)), (Blk.mk Bool.false (Body.fl FloatKind.f32 b1))])) (LO.one (Ex.exit 0) (St.mk [(0, (AV.v (TV.one (At.vw 0 0 an 3)))), (1, (AV.v (TV.one (At.vw 1 0 bn 3)))), (5, (AV.v (TV.one (At.int IntKind.i64 ((tR x).getD default).1)))), (14, (AV.v (TV.one (At.bool ((tR x).getD default).2))))] [(Blk.mk Bool.false (Body.fl FloatKind.f32 b0)), (Blk.mk Bool.false (Body.fl FloatKind.f32 b1))])))
theorem zqj (an : Nat) (bn : Nat) (b0 : List Nat) (b1 : List Nat) : ∀ x : Option ((Unit) ⊕ (Int × Bool)), x.isSome = true → (zct an bn b0 b1) x = some (pick (zpl an bn b0 b1 x))
  | none, h => by cases h
  | some (Sum.inl r), _ => rfl
  | some (Sum.inr r), _ => rfl
theorem zq6 (an : Nat) (bn : Nat) (i : Int) (b0 : List Nat) (b1 : List Nat) (K : Ex → St → Option (Ex × St)) : evC (R := Ex × St) Γ3 (evFn Γ3 8 8) 69 2 fi69.nt fi69.live fi69.nl 8 (findL 4 (loopsIn fi69.code)) (St.mk [(0, (AV.v (TV.one (At.vw 0 0 an 3)))), (1, (AV.v (TV.one (At.vw 1 0 bn 3)))), (5, (AV.v (TV.one (At.int IntKind.i64 i))))] [(Blk.mk Bool.false (Body.fl FloatKind.f32 b0)), (Blk.mk Bool.false (Body.fl FloatKind.f32 b1))]) K = z7t an bn b0 b1 i (fun i' => K .normal (St.mk [(0, (AV.v (TV.one (At.vw 0 0 an 3)))), (1, (AV.v (TV.one (At.vw 1 0 bn 3)))), (5, (AV.v (TV.one (At.int IntKind.i64 i'))))] [(Blk.mk Bool.false (Body.fl FloatKind.f32 b0)), (Blk.mk Bool.false (Body.fl FloatKind.f32 b1))])) (fun _ => K Ex.ret (St.mk [(4, (AV.v (TV.one (At.bool Bool.false))))] [(Blk.mk Bool.false (Body.fl FloatKind.f32 b0)), (Blk.mk Bool.false (Body.fl FloatKind.f32 b1))])) (fun c0_ c1_ => K (Ex.exit 0) (St.mk [(0, (AV.v (TV.one (At.vw 0 0 an 3)))), (1, (AV.v (TV.one (At.vw 1 0 bn 3)))), (5, (AV.v (TV.one (At.int IntKind.i64 c0_)))), (14, (AV.v (TV.one (At.bool c1_))))] [(Blk.mk Bool.false (Body.fl FloatKind.f32 b0)), (Blk.mk Bool.false (Body.fl FloatKind.f32 b1))])) := by kernel_rfl
theorem zqi (an : Nat) (bn : Nat) (b0 : List Nat) (b1 : List Nat) : ∀ (n : Nat) (i : Int), iter 69 4 2 (evC (R := Ex × St) Γ3 (evFn Γ3 8 8) 69 2 fi69.nt fi69.live fi69.nl 8 (findL 4 (loopsIn fi69.code))) n (St.mk [(0, (AV.v (TV.one (At.vw 0 0 an 3)))), (1, (AV.v (TV.one (At.vw 1 0 bn 3)))), (5, (AV.v (TV.one (At.int IntKind.i64 i))))] [(Blk.mk Bool.false (Body.fl FloatKind.f32 b0)), (Blk.mk Bool.false (Body.fl FloatKind.f32 b1))]) (fun e st => some (e, st)) = (zct an bn b0 b1) (z64 an bn b0 b1 n i) := by
  intro n
  induction n with
  | zero => intros; rfl
  | succ n ih =>
    intro i
    refine Eq.trans (iter_succ ..) (Eq.trans (zq6 an bn i b0 b1 (nextK 69 4 2 (evC (R := Ex × St) Γ3 (evFn Γ3 8 8) 69 2 fi69.nt fi69.live fi69.nl 8 (findL 4 (loopsIn fi69.code))) n (fun e st => some (e, st)))) (Eq.trans ?_ (zno (zct an bn b0 b1) rfl an bn b0 b1 i (fun i' => z64 an bn b0 b1 n i') (fun _ => some (Sum.inl ())) (fun c0_ c1_ => some (Sum.inr (c0_, c1_))))))
    exact congrArg (fun kn_ => z7t an bn b0 b1 i kn_ (fun _ => (zct an bn b0 b1) (some (Sum.inl ()))) (fun c0_ c1_ => (zct an bn b0 b1) (some (Sum.inr (c0_, c1_))))) (funext fun i' => ih i')
theorem z15 : LoopOne Try.prog fnTab 69 4 z1u := lp_of (Γ := Γ3) tyTab_ok (FnL.ok fnTab_ok _ _) (LpL.ok lt3_ok) (SumL.ok tb3_ok _) mixed (fi := fi69) (by kernel_rfl) (by kernel_rfl) (by
  intro lo st out hp
  obtain ⟨hs, e1, e2, e3⟩ := lpT_inv hp
  clear hp
  obtain rfl : st = (St.mk [(0, (AV.v (TV.one (At.vw 0 0 (hvN (hGet hs 0)) 3)))), (1, (AV.v (TV.one (At.vw 1 0 (hvN (hGet hs 1)) 3)))), (5, (AV.v (TV.one (At.int IntKind.i64 (hvI (hGet hs 2))))))] [(Blk.mk Bool.false (Body.fl FloatKind.f32 (hvLn (hGet hs 3)))), (Blk.mk Bool.false (Body.fl FloatKind.f32 (hvLn (hGet hs 4))))]) := e2.trans (by kernel_rfl)
  clear e2
  subst e1
  unfold zmc at e3
  injection e3 with h1 h2
  subst h2
  exact ⟨8, 8, big, Eq.trans (zqi (hvN (hGet hs 0)) (hvN (hGet hs 1)) (hvLn (hGet hs 3)) (hvLn (hGet hs 4)) big (hvI (hGet hs 2))) (zqj (hvN (hGet hs 0)) (hvN (hGet hs 1)) (hvLn (hGet hs 3)) (hvLn (hGet hs 4)) (z64 (hvN (hGet hs 0)) (hvN (hGet hs 1)) (hvLn (hGet hs 3)) (hvLn (hGet hs 4)) big (hvI (hGet hs 2))) h1)⟩)
noncomputable def zb8 (sn : Nat) (t7 : Int) (t8 : Int) (b0 : List Nat) : Bool × LO := ((z5i sn t7 b0 t8), (LO.two (z5h sn t7 b0 t8) (LO.one Ex.ret (St.mk [(4, (AV.v (TV.one (At.int IntKind.i64 (z6o sn t7 b0 t8)))))] [(Blk.mk Bool.false (Body.fl FloatKind.f32 b0))])) (LO.one (Ex.exit 0) (St.mk [(0, (AV.v (TV.one (At.vw 0 0 sn 1)))), (1, (AV.v (TV.one (At.fn 118 [])))), (7, (AV.v (TV.one (At.int IntKind.i64 t7)))), (8, (AV.v (TV.one (At.int IntKind.i64 (z8v sn t7 b0 t8))))), (9, (AV.v (TV.one (At.bool (z8u sn t7 b0 t8)))))] [(Blk.mk Bool.false (Body.fl FloatKind.f32 b0))]))))
noncomputable def z05 : Nat → St → Option (Bool × LO) := lpT 1 (pSt [(pTm 0 (pV (pOne (pVw 0 (liN 0) 1)))), (pTm 1 (pV (pOne (pFn 118 [])))), (pTm 7 (pV (pOne (pInt IntKind.i64)))), (pTm 8 (pV (pOne (pInt IntKind.i64))))] [(pBlk Bool.false (pFl FloatKind.f32))]) (fun hs => zb8 (hvN (hGet hs 0)) (hvI (hGet hs 1)) (hvI (hGet hs 2)) (hvLn (hGet hs 3)))
def z67 (sn : Nat) (t7 : Int) (b0 : List Nat) : Option ((Int) ⊕ (Int × Bool)) → Option (Ex × St)
  | none => none
  | some (Sum.inl r) => some (Ex.ret, (St.mk [(4, (AV.v (TV.one (At.int IntKind.i64 r))))] [(Blk.mk Bool.false (Body.fl FloatKind.f32 b0))]))
  | some (Sum.inr r) => some ((Ex.exit 0), (St.mk [(0, (AV.v (TV.one (At.vw 0 0 sn 1)))), (1, (AV.v (TV.one (At.fn 118 [])))), (7, (AV.v (TV.one (At.int IntKind.i64 t7)))), (8, (AV.v (TV.one (At.int IntKind.i64 r.1)))), (9, (AV.v (TV.one (At.bool r.2))))] [(Blk.mk Bool.false (Body.fl FloatKind.f32 b0))]))
def zj8 (sn : Nat) (t7 : Int) (b0 : List Nat) (x : Option ((Int) ⊕ (Int × Bool))) : LO := (LO.two (oL x) (LO.one Ex.ret (St.mk [(4, (AV.v (TV.one (At.int IntKind.i64 ((tL x).getD default)))))] [(Blk.mk Bool.false (Body.fl FloatKind.f32 b0))])) (LO.one (Ex.exit 0) (St.mk [(0, (AV.v (TV.one (At.vw 0 0 sn 1)))), (1, (AV.v (TV.one (At.fn 118 [])))), (7, (AV.v (TV.one (At.int IntKind.i64 t7)))), (8, (AV.v (TV.one (At.int IntKind.i64 ((tR x).getD default).1)))), (9, (AV.v (TV.one (At.bool ((tR x).getD default).2))))] [(Blk.mk Bool.false (Body.fl FloatKind.f32 b0))])))
theorem zk4 (sn : Nat) (t7 : Int) (b0 : List Nat) : ∀ x : Option ((Int) ⊕ (Int × Bool)), x.isSome = true → (z67 sn t7 b0) x = some (pick (zj8 sn t7 b0 x))
  | none, h => by cases h
  | some (Sum.inl r), _ => rfl
  | some (Sum.inr r), _ => rfl
theorem zk8 (sn : Nat) (t7 : Int) (t8 : Int) (b0 : List Nat) (K : Ex → St → Option (Ex × St)) : evC (R := Ex × St) Γ3 (evFn Γ3 8 8) 99 1 fi99.nt fi99.live fi99.nl 8 (findL 2 (loopsIn fi99.code)) (St.mk [(0, (AV.v (TV.one (At.vw 0 0 sn 1)))), (1, (AV.v (TV.one (At.fn 118 [])))), (7, (AV.v (TV.one (At.int IntKind.i64 t7)))), (8, (AV.v (TV.one (At.int IntKind.i64 t8))))] [(Blk.mk Bool.false (Body.fl FloatKind.f32 b0))]) K = z4l sn t7 b0 t8 (fun t8' => K .normal (St.mk [(0, (AV.v (TV.one (At.vw 0 0 sn 1)))), (1, (AV.v (TV.one (At.fn 118 [])))), (7, (AV.v (TV.one (At.int IntKind.i64 t7)))), (8, (AV.v (TV.one (At.int IntKind.i64 t8'))))] [(Blk.mk Bool.false (Body.fl FloatKind.f32 b0))])) (fun c0_ => K Ex.ret (St.mk [(4, (AV.v (TV.one (At.int IntKind.i64 c0_))))] [(Blk.mk Bool.false (Body.fl FloatKind.f32 b0))])) (fun c0_ c1_ => K (Ex.exit 0) (St.mk [(0, (AV.v (TV.one (At.vw 0 0 sn 1)))), (1, (AV.v (TV.one (At.fn 118 [])))), (7, (AV.v (TV.one (At.int IntKind.i64 t7)))), (8, (AV.v (TV.one (At.int IntKind.i64 c0_)))), (9, (AV.v (TV.one (At.bool c1_))))] [(Blk.mk Bool.false (Body.fl FloatKind.f32 b0))])) := by kernel_rfl
theorem zjw (sn : Nat) (t7 : Int) (b0 : List Nat) : ∀ (n : Nat) (t8 : Int), iter 99 2 1 (evC (R := Ex × St) Γ3 (evFn Γ3 8 8) 99 1 fi99.nt fi99.live fi99.nl 8 (findL 2 (loopsIn fi99.code))) n (St.mk [(0, (AV.v (TV.one (At.vw 0 0 sn 1)))), (1, (AV.v (TV.one (At.fn 118 [])))), (7, (AV.v (TV.one (At.int IntKind.i64 t7)))), (8, (AV.v (TV.one (At.int IntKind.i64 t8))))] [(Blk.mk Bool.false (Body.fl FloatKind.f32 b0))]) (fun e st => some (e, st)) = (z67 sn t7 b0) (z2d sn t7 b0 n t8) := by
  intro n
  induction n with
  | zero => intros; rfl
  | succ n ih =>
    intro t8
    refine Eq.trans (iter_succ ..) (Eq.trans (zk8 sn t7 t8 b0 (nextK 99 2 1 (evC (R := Ex × St) Γ3 (evFn Γ3 8 8) 99 1 fi99.nt fi99.live fi99.nl 8 (findL 2 (loopsIn fi99.code))) n (fun e st => some (e, st)))) (Eq.trans ?_ (zgn (z67 sn t7 b0) rfl sn t7 b0 t8 (fun t8' => z2d sn t7 b0 n t8') (fun c0_ => some (Sum.inl c0_)) (fun c0_ c1_ => some (Sum.inr (c0_, c1_))))))
    exact congrArg (fun kn_ => z4l sn t7 b0 t8 kn_ (fun c0_ => (z67 sn t7 b0) (some (Sum.inl c0_))) (fun c0_ c1_ => (z67 sn t7 b0) (some (Sum.inr (c0_, c1_))))) (funext fun t8' => ih t8')
theorem z04 : LoopOne Try.prog fnTab 99 2 z05 := lp_of (Γ := Γ3) tyTab_ok (FnL.ok fnTab_ok _ _) (LpL.ok lt3_ok) (SumL.ok tb3_ok _) mixed (fi := fi99) (by kernel_rfl) (by kernel_rfl) (by
  intro lo st out hp
  obtain ⟨hs, e1, e2, e3⟩ := lpT_inv hp
  clear hp
  obtain rfl : st = (St.mk [(0, (AV.v (TV.one (At.vw 0 0 (hvN (hGet hs 0)) 1)))), (1, (AV.v (TV.one (At.fn 118 [])))), (7, (AV.v (TV.one (At.int IntKind.i64 (hvI (hGet hs 1)))))), (8, (AV.v (TV.one (At.int IntKind.i64 (hvI (hGet hs 2))))))] [(Blk.mk Bool.false (Body.fl FloatKind.f32 (hvLn (hGet hs 3))))]) := e2.trans (by kernel_rfl)
  clear e2
  subst e1
  unfold zb8 at e3
  injection e3 with h1 h2
  subst h2
  exact ⟨8, 8, big, Eq.trans (zjw (hvN (hGet hs 0)) (hvI (hGet hs 1)) (hvLn (hGet hs 3)) big (hvI (hGet hs 2))) (zk4 (hvN (hGet hs 0)) (hvI (hGet hs 1)) (hvLn (hGet hs 3)) (z2d (hvN (hGet hs 0)) (hvI (hGet hs 1)) (hvLn (hGet hs 3)) big (hvI (hGet hs 2))) h1)⟩)
noncomputable def zaf (sn : Nat) (t7 : Int) (t8 : Int) (b0 : List Nat) : Bool × LO := ((z5b sn t7 b0 t8), (LO.two (z5a sn t7 b0 t8) (LO.one Ex.ret (St.mk [(4, (AV.v (TV.one (At.int IntKind.i64 (z6b sn t7 b0 t8)))))] [(Blk.mk Bool.false (Body.fl FloatKind.f32 b0))])) (LO.one (Ex.exit 0) (St.mk [(0, (AV.v (TV.one (At.vw 0 0 sn 1)))), (1, (AV.v (TV.one (At.fn 122 [])))), (7, (AV.v (TV.one (At.int IntKind.i64 t7)))), (8, (AV.v (TV.one (At.int IntKind.i64 (z84 sn t7 b0 t8))))), (9, (AV.v (TV.one (At.bool (z85 sn t7 b0 t8)))))] [(Blk.mk Bool.false (Body.fl FloatKind.f32 b0))]))))
noncomputable def z03 : Nat → St → Option (Bool × LO) := lpT 1 (pSt [(pTm 0 (pV (pOne (pVw 0 (liN 0) 1)))), (pTm 1 (pV (pOne (pFn 122 [])))), (pTm 7 (pV (pOne (pInt IntKind.i64)))), (pTm 8 (pV (pOne (pInt IntKind.i64))))] [(pBlk Bool.false (pFl FloatKind.f32))]) (fun hs => zaf (hvN (hGet hs 0)) (hvI (hGet hs 1)) (hvI (hGet hs 2)) (hvLn (hGet hs 3)))
def z62 (sn : Nat) (t7 : Int) (b0 : List Nat) : Option ((Int) ⊕ (Int × Bool)) → Option (Ex × St)
  | none => none
  | some (Sum.inl r) => some (Ex.ret, (St.mk [(4, (AV.v (TV.one (At.int IntKind.i64 r))))] [(Blk.mk Bool.false (Body.fl FloatKind.f32 b0))]))
  | some (Sum.inr r) => some ((Ex.exit 0), (St.mk [(0, (AV.v (TV.one (At.vw 0 0 sn 1)))), (1, (AV.v (TV.one (At.fn 122 [])))), (7, (AV.v (TV.one (At.int IntKind.i64 t7)))), (8, (AV.v (TV.one (At.int IntKind.i64 r.1)))), (9, (AV.v (TV.one (At.bool r.2))))] [(Blk.mk Bool.false (Body.fl FloatKind.f32 b0))]))
def zhv (sn : Nat) (t7 : Int) (b0 : List Nat) (x : Option ((Int) ⊕ (Int × Bool))) : LO := (LO.two (oL x) (LO.one Ex.ret (St.mk [(4, (AV.v (TV.one (At.int IntKind.i64 ((tL x).getD default)))))] [(Blk.mk Bool.false (Body.fl FloatKind.f32 b0))])) (LO.one (Ex.exit 0) (St.mk [(0, (AV.v (TV.one (At.vw 0 0 sn 1)))), (1, (AV.v (TV.one (At.fn 122 [])))), (7, (AV.v (TV.one (At.int IntKind.i64 t7)))), (8, (AV.v (TV.one (At.int IntKind.i64 ((tR x).getD default).1)))), (9, (AV.v (TV.one (At.bool ((tR x).getD default).2))))] [(Blk.mk Bool.false (Body.fl FloatKind.f32 b0))])))
theorem zij (sn : Nat) (t7 : Int) (b0 : List Nat) : ∀ x : Option ((Int) ⊕ (Int × Bool)), x.isSome = true → (z62 sn t7 b0) x = some (pick (zhv sn t7 b0 x))
  | none, h => by cases h
  | some (Sum.inl r), _ => rfl
  | some (Sum.inr r), _ => rfl
theorem zip (sn : Nat) (t7 : Int) (t8 : Int) (b0 : List Nat) (K : Ex → St → Option (Ex × St)) : evC (R := Ex × St) Γ3 (evFn Γ3 8 8) 99 1 fi99.nt fi99.live fi99.nl 8 (findL 2 (loopsIn fi99.code)) (St.mk [(0, (AV.v (TV.one (At.vw 0 0 sn 1)))), (1, (AV.v (TV.one (At.fn 122 [])))), (7, (AV.v (TV.one (At.int IntKind.i64 t7)))), (8, (AV.v (TV.one (At.int IntKind.i64 t8))))] [(Blk.mk Bool.false (Body.fl FloatKind.f32 b0))]) K = z4g sn t7 b0 t8 (fun t8' => K .normal (St.mk [(0, (AV.v (TV.one (At.vw 0 0 sn 1)))), (1, (AV.v (TV.one (At.fn 122 [])))), (7, (AV.v (TV.one (At.int IntKind.i64 t7)))), (8, (AV.v (TV.one (At.int IntKind.i64 t8'))))] [(Blk.mk Bool.false (Body.fl FloatKind.f32 b0))])) (fun c0_ => K Ex.ret (St.mk [(4, (AV.v (TV.one (At.int IntKind.i64 c0_))))] [(Blk.mk Bool.false (Body.fl FloatKind.f32 b0))])) (fun c0_ c1_ => K (Ex.exit 0) (St.mk [(0, (AV.v (TV.one (At.vw 0 0 sn 1)))), (1, (AV.v (TV.one (At.fn 122 [])))), (7, (AV.v (TV.one (At.int IntKind.i64 t7)))), (8, (AV.v (TV.one (At.int IntKind.i64 c0_)))), (9, (AV.v (TV.one (At.bool c1_))))] [(Blk.mk Bool.false (Body.fl FloatKind.f32 b0))])) := by kernel_rfl
theorem zio (sn : Nat) (t7 : Int) (b0 : List Nat) : ∀ (n : Nat) (t8 : Int), iter 99 2 1 (evC (R := Ex × St) Γ3 (evFn Γ3 8 8) 99 1 fi99.nt fi99.live fi99.nl 8 (findL 2 (loopsIn fi99.code))) n (St.mk [(0, (AV.v (TV.one (At.vw 0 0 sn 1)))), (1, (AV.v (TV.one (At.fn 122 [])))), (7, (AV.v (TV.one (At.int IntKind.i64 t7)))), (8, (AV.v (TV.one (At.int IntKind.i64 t8))))] [(Blk.mk Bool.false (Body.fl FloatKind.f32 b0))]) (fun e st => some (e, st)) = (z62 sn t7 b0) (z22 sn t7 b0 n t8) := by
  intro n
  induction n with
  | zero => intros; rfl
  | succ n ih =>
    intro t8
    refine Eq.trans (iter_succ ..) (Eq.trans (zip sn t7 t8 b0 (nextK 99 2 1 (evC (R := Ex × St) Γ3 (evFn Γ3 8 8) 99 1 fi99.nt fi99.live fi99.nl 8 (findL 2 (loopsIn fi99.code))) n (fun e st => some (e, st)))) (Eq.trans ?_ (zfc (z62 sn t7 b0) rfl sn t7 b0 t8 (fun t8' => z22 sn t7 b0 n t8') (fun c0_ => some (Sum.inl c0_)) (fun c0_ c1_ => some (Sum.inr (c0_, c1_))))))
    exact congrArg (fun kn_ => z4g sn t7 b0 t8 kn_ (fun c0_ => (z62 sn t7 b0) (some (Sum.inl c0_))) (fun c0_ c1_ => (z62 sn t7 b0) (some (Sum.inr (c0_, c1_))))) (funext fun t8' => ih t8')
theorem z02 : LoopOne Try.prog fnTab 99 2 z03 := lp_of (Γ := Γ3) tyTab_ok (FnL.ok fnTab_ok _ _) (LpL.ok lt3_ok) (SumL.ok tb3_ok _) mixed (fi := fi99) (by kernel_rfl) (by kernel_rfl) (by
  intro lo st out hp
  obtain ⟨hs, e1, e2, e3⟩ := lpT_inv hp
  clear hp
  obtain rfl : st = (St.mk [(0, (AV.v (TV.one (At.vw 0 0 (hvN (hGet hs 0)) 1)))), (1, (AV.v (TV.one (At.fn 122 [])))), (7, (AV.v (TV.one (At.int IntKind.i64 (hvI (hGet hs 1)))))), (8, (AV.v (TV.one (At.int IntKind.i64 (hvI (hGet hs 2))))))] [(Blk.mk Bool.false (Body.fl FloatKind.f32 (hvLn (hGet hs 3))))]) := e2.trans (by kernel_rfl)
  clear e2
  subst e1
  unfold zaf at e3
  injection e3 with h1 h2
  subst h2
  exact ⟨8, 8, big, Eq.trans (zio (hvN (hGet hs 0)) (hvI (hGet hs 1)) (hvLn (hGet hs 3)) big (hvI (hGet hs 2))) (zij (hvN (hGet hs 0)) (hvI (hGet hs 1)) (hvLn (hGet hs 3)) (z22 (hvN (hGet hs 0)) (hvI (hGet hs 1)) (hvLn (hGet hs 3)) big (hvI (hGet hs 2))) h1)⟩)
noncomputable def tb4 : List (Nat × (List PT → Option (Bool × AV × List Blk))) := [(125, z2f), (128, z0w), (134, z1i), (137, z2g), (18, z2o), (44, z2p), (48, z26), (54, z3f), (61, z2n), (63, z4f), (64, z42), (66, z43), (80, z28), (97, z3e), (104, z0s), (115, z01), (14, z35), (67, z1y), (92, z46), (103, z3k), (105, z34), (111, z3w), (114, z3j), (118, z1x), (122, z19), (37, z3y), (52, z2k), (72, z1r), (79, z1s), (93, z39), (119, z2j), (16, z3g), (36, z2b), (57, z31), (86, z30)]
noncomputable def lt4 : List ((Nat × Nat) × (Nat → St → Option (Bool × LO))) := [((52, 3), z1d), ((72, 2), z10), ((79, 2), z11), ((57, 4), z1k), ((86, 3), z1j), ((62, 5), z3x), ((69, 4), z1u), ((99, 2), z05), ((99, 2), z03)]
noncomputable def Γ4 : Ctx := ⟨tyTab, fnTab, tblSum tb4, tblLp lt4⟩
theorem tb4_ok : SumL Try.prog tb4 := SumL.cons z1g (SumL.cons z0l (SumL.cons z14 (SumL.cons z1h (SumL.cons z1p (SumL.cons z1q (SumL.cons z1f (SumL.cons z24 (SumL.cons z1o (SumL.cons z3r (SumL.cons z3a (SumL.cons z38 (SumL.cons z1e (SumL.cons z25 (SumL.cons z0k (SumL.cons z00 (SumL.cons z1z (SumL.cons z1c (SumL.cons z3h (SumL.cons z2a (SumL.cons z20 (SumL.cons z32 (SumL.cons z2c (SumL.cons z1b (SumL.cons z0z (SumL.cons z36 (SumL.cons z1v (SumL.cons z18 (SumL.cons z17 (SumL.cons z27 (SumL.cons z1t (SumL.cons z2e (SumL.cons z1l (SumL.cons z23 (SumL.cons z21 (SumL.nil)))))))))))))))))))))))))))))))))))
theorem lt4_ok : LpL Try.prog fnTab lt4 := LpL.cons z0y (LpL.cons z0r (LpL.cons z0q (LpL.cons z12 (LpL.cons z13 (LpL.cons z33 (LpL.cons z15 (LpL.cons z04 (LpL.cons z02 (LpL.nil)))))))))
noncomputable def z3n : List PT → Option (Bool × AV × List Blk)
  | [.agg [.row 1 q0t (.fl .f32 q0z), .row 1 q0v (.fl .f32 q15), .row 1 q0x (.fl .f32 q18)], .agg [.row 1 q32 (.fl .f32 q39), .row 1 q34 (.fl .f32 q3d), .row 1 q35 (.fl .f32 q3e)]] => some ((zkw q0t q0z q0v q15 q0x q18 q32 q39 q34 q3d q35 q3e), ((AV.v (TV.one (At.bool (zji q0t q0z q0v q15 q0x q18 q32 q39 q34 q3d q35 q3e)))), []))
  | _ => none
def znt (q0t : Nat) (q0z : List Nat) (q0v : Nat) (q15 : List Nat) (q0x : Nat) (q18 : List Nat) (q32 : Nat) (q39 : List Nat) (q34 : Nat) (q3d : List Nat) (q35 : Nat) (q3e : List Nat) : Option (Bool) → Option (AV × List Blk)
  | some r => some ((AV.v (TV.one (At.bool r))), [])
  | none => none
theorem zse (q0t : Nat) (q0z : List Nat) (q0v : Nat) (q15 : List Nat) (q0x : Nat) (q18 : List Nat) (q32 : Nat) (q39 : List Nat) (q34 : Nat) (q3d : List Nat) (q35 : Nat) (q3e : List Nat) : evFn Γ4 8 8 19 (impTs 0 [.agg [.row 1 q0t (.fl .f32 q0z), .row 1 q0v (.fl .f32 q15), .row 1 q0x (.fl .f32 q18)], .agg [.row 1 q32 (.fl .f32 q39), .row 1 q34 (.fl .f32 q3d), .row 1 q35 (.fl .f32 q3e)]]).1 (impTs 0 [.agg [.row 1 q0t (.fl .f32 q0z), .row 1 q0v (.fl .f32 q15), .row 1 q0x (.fl .f32 q18)], .agg [.row 1 q32 (.fl .f32 q39), .row 1 q34 (.fl .f32 q3d), .row 1 q35 (.fl .f32 q3e)]]).2 (expo (impTs 0 [.agg [.row 1 q0t (.fl .f32 q0z), .row 1 q0v (.fl .f32 q15), .row 1 q0x (.fl .f32 q18)], .agg [.row 1 q32 (.fl .f32 q39), .row 1 q34 (.fl .f32 q3d), .row 1 q35 (.fl .f32 q3e)]]).2.length) = zdp q0t q0z q0v q15 q0x q18 q32 q39 q34 q3d q35 q3e (fun c0_ => some ((AV.v (TV.one (At.bool c0_))), [])) := by kernel_rfl
theorem z2q : SumOne Try.prog 19 z3n := sum_of (Γ := Γ4) (fuel := 8) (d := 8) tyTab_ok (FnL.ok fnTab_ok _ _) (LpL.ok lt4_ok) (SumL.ok tb4_ok _) mixed (by
  intro pts v news hp hc
  clear hc
  unfold z3n at hp
  split at hp
  · rename_i q0t q0z q0v q15 q0x q18 q32 q39 q34 q3d q35 q3e
    exact Eq.trans (Eq.trans (zse q0t q0z q0v q15 q0x q18 q32 q39 q34 q3d q35 q3e) (zq5 (znt q0t q0z q0v q15 q0x q18 q32 q39 q34 q3d q35 q3e) rfl q0t q0z q0v q15 q0x q18 q32 q39 q34 q3d q35 q3e (fun c0_ => some c0_))) (fin_out (o := (znt q0t q0z q0v q15 q0x q18 q32 q39 q34 q3d q35 q3e)) (x := zdy q0t q0z q0v q15 q0x q18 q32 q39 q34 q3d q35 q3e) (d := default) (V := fun r => ((AV.v (TV.one (At.bool r))), [])) (fun r => rfl) hp)
  · cases hp)
noncomputable def z3p : List PT → Option (Bool × AV × List Blk)
  | [.agg [.row 1 q0j (.fl .f32 q0m), .row 1 q0l (.fl .f32 q0o), .row 1 q0k (.fl .f32 q0p), .row 3 q0q (.fl .f32 q0u), .s (.int .i64 q16), .s (.flt .f32 q23), .s (.flt .f32 q24)], .one (.s (.int .i64 k))] => some ((zky q0j q0m q0l q0o q0k q0p q0q q0u q16 q23 q24 k), ((AV.v (TV.one (At.int IntKind.i64 (zjp q0j q0m q0l q0o q0k q0p q0q q0u q16 q23 q24 k)))), []))
  | _ => none
def zns (q0j : Nat) (q0m : List Nat) (q0l : Nat) (q0o : List Nat) (q0k : Nat) (q0p : List Nat) (q0q : Nat) (q0u : List Nat) (q16 : Int) (q23 : Nat) (q24 : Nat) (k : Int) : Option (Int) → Option (AV × List Blk)
  | some r => some ((AV.v (TV.one (At.int IntKind.i64 r))), [])
  | none => none
theorem zsl (q0j : Nat) (q0m : List Nat) (q0l : Nat) (q0o : List Nat) (q0k : Nat) (q0p : List Nat) (q0q : Nat) (q0u : List Nat) (q16 : Int) (q23 : Nat) (q24 : Nat) (k : Int) : evFn Γ4 8 8 33 (impTs 0 [.agg [.row 1 q0j (.fl .f32 q0m), .row 1 q0l (.fl .f32 q0o), .row 1 q0k (.fl .f32 q0p), .row 3 q0q (.fl .f32 q0u), .s (.int .i64 q16), .s (.flt .f32 q23), .s (.flt .f32 q24)], .one (.s (.int .i64 k))]).1 (impTs 0 [.agg [.row 1 q0j (.fl .f32 q0m), .row 1 q0l (.fl .f32 q0o), .row 1 q0k (.fl .f32 q0p), .row 3 q0q (.fl .f32 q0u), .s (.int .i64 q16), .s (.flt .f32 q23), .s (.flt .f32 q24)], .one (.s (.int .i64 k))]).2 (expo (impTs 0 [.agg [.row 1 q0j (.fl .f32 q0m), .row 1 q0l (.fl .f32 q0o), .row 1 q0k (.fl .f32 q0p), .row 3 q0q (.fl .f32 q0u), .s (.int .i64 q16), .s (.flt .f32 q23), .s (.flt .f32 q24)], .one (.s (.int .i64 k))]).2.length) = zdv q0j q0m q0l q0o q0k q0p q0q q0u q16 q23 q24 k (fun c0_ => some ((AV.v (TV.one (At.int IntKind.i64 c0_))), [])) := by kernel_rfl
theorem z2m : SumOne Try.prog 33 z3p := sum_of (Γ := Γ4) (fuel := 8) (d := 8) tyTab_ok (FnL.ok fnTab_ok _ _) (LpL.ok lt4_ok) (SumL.ok tb4_ok _) mixed (by
  intro pts v news hp hc
  clear hc
  unfold z3p at hp
  split at hp
  · rename_i q0j q0m q0l q0o q0k q0p q0q q0u q16 q23 q24 k
    exact Eq.trans (Eq.trans (zsl q0j q0m q0l q0o q0k q0p q0q q0u q16 q23 q24 k) (zqg (zns q0j q0m q0l q0o q0k q0p q0q q0u q16 q23 q24 k) rfl q0j q0m q0l q0o q0k q0p q0q q0u q16 q23 q24 k (fun c0_ => some c0_))) (fin_out (o := (zns q0j q0m q0l q0o q0k q0p q0q q0u q16 q23 q24 k)) (x := zdo q0j q0m q0l q0o q0k q0p q0q q0u q16 q23 q24 k) (d := default) (V := fun r => ((AV.v (TV.one (At.int IntKind.i64 r))), [])) (fun r => rfl) hp)
  · cases hp)
noncomputable def z48 : List PT → Option (Bool × AV × List Blk)
  | [.agg [.row 1 q0j (.fl .f32 q0m), .row 1 q0l (.fl .f32 q0o), .row 1 q0k (.fl .f32 q0p), .row 3 q0q (.fl .f32 q0u), .s (.int .i64 q16), .s (.flt .f32 q23), .s (.flt .f32 q24)]] => some ((zjx q0j q0m q0l q0o q0k q0p q0q q0u q16 q23 q24), ((AV.v (TV.agg [(At.sl 0 0 (zi7 q0j q0m q0l q0o q0k q0p q0q q0u q16 q23 q24) 1), (At.sl 1 0 (zhf q0j q0m q0l q0o q0k q0p q0q q0u q16 q23 q24) 1), (At.sl 2 0 (zgy q0j q0m q0l q0o q0k q0p q0q q0u q16 q23 q24) 1), (At.sl 3 0 (zh9 q0j q0m q0l q0o q0k q0p q0q q0u q16 q23 q24) 3), (At.int IntKind.i64 q16), (At.flt FloatKind.f32 q23), (At.flt FloatKind.f32 q24)])), [(Blk.mk Bool.true (Body.fl FloatKind.f32 (zi8 q0j q0m q0l q0o q0k q0p q0q q0u q16 q23 q24))), (Blk.mk Bool.true (Body.fl FloatKind.f32 (zhi q0j q0m q0l q0o q0k q0p q0q q0u q16 q23 q24))), (Blk.mk Bool.true (Body.fl FloatKind.f32 (zia q0j q0m q0l q0o q0k q0p q0q q0u q16 q23 q24))), (Blk.mk Bool.true (Body.fl FloatKind.f32 (zhy q0j q0m q0l q0o q0k q0p q0q q0u q16 q23 q24)))]))
  | _ => none
def zpe (q0j : Nat) (q0m : List Nat) (q0l : Nat) (q0o : List Nat) (q0k : Nat) (q0p : List Nat) (q0q : Nat) (q0u : List Nat) (q16 : Int) (q23 : Nat) (q24 : Nat) : Option (Nat × Nat × Nat × Nat × (List Nat) × (List Nat) × (List Nat) × (List Nat)) → Option (AV × List Blk)
  | some r => some ((AV.v (TV.agg [(At.sl 0 0 r.1 1), (At.sl 1 0 r.2.1 1), (At.sl 2 0 r.2.2.1 1), (At.sl 3 0 r.2.2.2.1 3), (At.int IntKind.i64 q16), (At.flt FloatKind.f32 q23), (At.flt FloatKind.f32 q24)])), [(Blk.mk Bool.true (Body.fl FloatKind.f32 r.2.2.2.2.1)), (Blk.mk Bool.true (Body.fl FloatKind.f32 r.2.2.2.2.2.1)), (Blk.mk Bool.true (Body.fl FloatKind.f32 r.2.2.2.2.2.2.1)), (Blk.mk Bool.true (Body.fl FloatKind.f32 r.2.2.2.2.2.2.2))])
  | none => none
theorem zt6 (q0j : Nat) (q0m : List Nat) (q0l : Nat) (q0o : List Nat) (q0k : Nat) (q0p : List Nat) (q0q : Nat) (q0u : List Nat) (q16 : Int) (q23 : Nat) (q24 : Nat) : evFn Γ4 8 8 39 (impTs 0 [.agg [.row 1 q0j (.fl .f32 q0m), .row 1 q0l (.fl .f32 q0o), .row 1 q0k (.fl .f32 q0p), .row 3 q0q (.fl .f32 q0u), .s (.int .i64 q16), .s (.flt .f32 q23), .s (.flt .f32 q24)]]).1 (impTs 0 [.agg [.row 1 q0j (.fl .f32 q0m), .row 1 q0l (.fl .f32 q0o), .row 1 q0k (.fl .f32 q0p), .row 3 q0q (.fl .f32 q0u), .s (.int .i64 q16), .s (.flt .f32 q23), .s (.flt .f32 q24)]]).2 (expo (impTs 0 [.agg [.row 1 q0j (.fl .f32 q0m), .row 1 q0l (.fl .f32 q0o), .row 1 q0k (.fl .f32 q0p), .row 3 q0q (.fl .f32 q0u), .s (.int .i64 q16), .s (.flt .f32 q23), .s (.flt .f32 q24)]]).2.length) = zf5 q0j q0m q0l q0o q0k q0p q0q q0u q16 q23 q24 (fun c0_ c1_ c2_ c3_ c4_ c5_ c6_ c7_ => some ((AV.v (TV.agg [(At.sl 0 0 c0_ 1), (At.sl 1 0 c1_ 1), (At.sl 2 0 c2_ 1), (At.sl 3 0 c3_ 3), (At.int IntKind.i64 q16), (At.flt FloatKind.f32 q23), (At.flt FloatKind.f32 q24)])), [(Blk.mk Bool.true (Body.fl FloatKind.f32 c4_)), (Blk.mk Bool.true (Body.fl FloatKind.f32 c5_)), (Blk.mk Bool.true (Body.fl FloatKind.f32 c6_)), (Blk.mk Bool.true (Body.fl FloatKind.f32 c7_))])) := by kernel_rfl
theorem z3o : SumOne Try.prog 39 z48 := sum_of (Γ := Γ4) (fuel := 8) (d := 8) tyTab_ok (FnL.ok fnTab_ok _ _) (LpL.ok lt4_ok) (SumL.ok tb4_ok _) mixed (by
  intro pts v news hp hc
  clear hc
  unfold z48 at hp
  split at hp
  · rename_i q0j q0m q0l q0o q0k q0p q0q q0u q16 q23 q24
    exact Eq.trans (Eq.trans (zt6 q0j q0m q0l q0o q0k q0p q0q q0u q16 q23 q24) (zrh (zpe q0j q0m q0l q0o q0k q0p q0q q0u q16 q23 q24) rfl q0j q0m q0l q0o q0k q0p q0q q0u q16 q23 q24 (fun c0_ c1_ c2_ c3_ c4_ c5_ c6_ c7_ => some (c0_, c1_, c2_, c3_, c4_, c5_, c6_, c7_)))) (fin_out (o := (zpe q0j q0m q0l q0o q0k q0p q0q q0u q16 q23 q24)) (x := z7y q0j q0m q0l q0o q0k q0p q0q q0u q16 q23 q24) (d := default) (V := fun r => ((AV.v (TV.agg [(At.sl 0 0 r.1 1), (At.sl 1 0 r.2.1 1), (At.sl 2 0 r.2.2.1 1), (At.sl 3 0 r.2.2.2.1 3), (At.int IntKind.i64 q16), (At.flt FloatKind.f32 q23), (At.flt FloatKind.f32 q24)])), [(Blk.mk Bool.true (Body.fl FloatKind.f32 r.2.2.2.2.1)), (Blk.mk Bool.true (Body.fl FloatKind.f32 r.2.2.2.2.2.1)), (Blk.mk Bool.true (Body.fl FloatKind.f32 r.2.2.2.2.2.2.1)), (Blk.mk Bool.true (Body.fl FloatKind.f32 r.2.2.2.2.2.2.2))])) (fun r => rfl) hp)
  · cases hp)
noncomputable def z4q : List PT → Option (Bool × AV × List Blk)
  | [.ptr [.row 1 q10 (.fl .f32 q1n), .row 1 q1a (.fl .f32 q1s), .row 1 q19 (.fl .f32 q1t)]] => some ((zmn q10 q1n q1a q1s q19 q1t), ((AV.v (TV.one (At.bool (zmf q10 q1n q1a q1s q19 q1t)))), []))
  | _ => none
def zrm (q10 : Nat) (q1n : List Nat) (q1a : Nat) (q1s : List Nat) (q19 : Nat) (q1t : List Nat) : Option (Bool) → Option (AV × List Blk)
  | some r => some ((AV.v (TV.one (At.bool r))), [])
  | none => none
theorem zti (q10 : Nat) (q1n : List Nat) (q1a : Nat) (q1s : List Nat) (q19 : Nat) (q1t : List Nat) : evFn Γ4 8 8 62 (impTs 0 [.ptr [.row 1 q10 (.fl .f32 q1n), .row 1 q1a (.fl .f32 q1s), .row 1 q19 (.fl .f32 q1t)]]).1 (impTs 0 [.ptr [.row 1 q10 (.fl .f32 q1n), .row 1 q1a (.fl .f32 q1s), .row 1 q19 (.fl .f32 q1t)]]).2 (expo (impTs 0 [.ptr [.row 1 q10 (.fl .f32 q1n), .row 1 q1a (.fl .f32 q1s), .row 1 q19 (.fl .f32 q1t)]]).2.length) = zjz q10 q1n q1a q1s q19 q1t (fun c0_ => some ((AV.v (TV.one (At.bool c0_))), [])) := by kernel_rfl
theorem z47 : SumOne Try.prog 62 z4q := sum_of (Γ := Γ4) (fuel := 8) (d := 8) tyTab_ok (FnL.ok fnTab_ok _ _) (LpL.ok lt4_ok) (SumL.ok tb4_ok _) mixed (by
  intro pts v news hp hc
  clear hc
  unfold z4q at hp
  split at hp
  · rename_i q10 q1n q1a q1s q19 q1t
    exact Eq.trans (Eq.trans (zti q10 q1n q1a q1s q19 q1t) (zsc (zrm q10 q1n q1a q1s q19 q1t) rfl q10 q1n q1a q1s q19 q1t (fun c0_ => some c0_))) (fin_out (o := (zrm q10 q1n q1a q1s q19 q1t)) (x := zkc q10 q1n q1a q1s q19 q1t) (d := default) (V := fun r => ((AV.v (TV.one (At.bool r))), [])) (fun r => rfl) hp)
  · cases hp)
noncomputable def z37 : List PT → Option (Bool × AV × List Blk)
  | [.one (.row 3 a_n (.fl .f32 a)), .one (.row 3 b_n (.fl .f32 b))] => some ((zjv a_n a b_n b), ((AV.v (TV.one (At.bool (zh4 a_n a b_n b)))), []))
  | _ => none
def zna (a_n : Nat) (a : List Nat) (b_n : Nat) (b : List Nat) : Option (Bool) → Option (AV × List Blk)
  | some r => some ((AV.v (TV.one (At.bool r))), [])
  | none => none
theorem zro (a_n : Nat) (a : List Nat) (b_n : Nat) (b : List Nat) : evFn Γ4 8 8 69 (impTs 0 [.one (.row 3 a_n (.fl .f32 a)), .one (.row 3 b_n (.fl .f32 b))]).1 (impTs 0 [.one (.row 3 a_n (.fl .f32 a)), .one (.row 3 b_n (.fl .f32 b))]).2 (expo (impTs 0 [.one (.row 3 a_n (.fl .f32 a)), .one (.row 3 b_n (.fl .f32 b))]).2.length) = zde a_n a b_n b (fun c0_ => some ((AV.v (TV.one (At.bool c0_))), [])) := by kernel_rfl
theorem z29 : SumOne Try.prog 69 z37 := sum_of (Γ := Γ4) (fuel := 8) (d := 8) tyTab_ok (FnL.ok fnTab_ok _ _) (LpL.ok lt4_ok) (SumL.ok tb4_ok _) mixed (by
  intro pts v news hp hc
  clear hc
  unfold z37 at hp
  split at hp
  · rename_i a_n a b_n b
    exact Eq.trans (Eq.trans (zro a_n a b_n b) (zp5 (zna a_n a b_n b) rfl a_n a b_n b (fun c0_ => some c0_))) (fin_out (o := (zna a_n a b_n b)) (x := zdi a_n a b_n b) (d := default) (V := fun r => ((AV.v (TV.one (At.bool r))), [])) (fun r => rfl) hp)
  · cases hp)
noncomputable def z0f : List PT → Option (Bool × AV × List Blk)
  | [.one (.row 1 s_n (.fl .f32 s)), .fn 118 []] => some ((z80 s_n s), ((AV.v (TV.one (At.int IntKind.i64 (z7x s_n s)))), []))
  | _ => none
def zdj (s_n : Nat) (s : List Nat) : Option (Int) → Option (AV × List Blk)
  | some r => some ((AV.v (TV.one (At.int IntKind.i64 r))), [])
  | none => none
theorem zl9 (s_n : Nat) (s : List Nat) : evFn Γ4 8 8 99 (impTs 0 [.one (.row 1 s_n (.fl .f32 s)), .fn 118 []]).1 (impTs 0 [.one (.row 1 s_n (.fl .f32 s)), .fn 118 []]).2 (expo (impTs 0 [.one (.row 1 s_n (.fl .f32 s)), .fn 118 []]).2.length) = z5y s_n s (fun c0_ => some ((AV.v (TV.one (At.int IntKind.i64 c0_))), [])) := by kernel_rfl
theorem z0e : SumOne Try.prog 99 z0f := sum_of (Γ := Γ4) (fuel := 8) (d := 8) tyTab_ok (FnL.ok fnTab_ok _ _) (LpL.ok lt4_ok) (SumL.ok tb4_ok _) mixed (by
  intro pts v news hp hc
  clear hc
  unfold z0f at hp
  split at hp
  · rename_i s_n s
    exact Eq.trans (Eq.trans (zl9 s_n s) (zj3 (zdj s_n s) rfl s_n s (fun c0_ => some c0_))) (fin_out (o := (zdj s_n s)) (x := z5x s_n s) (d := default) (V := fun r => ((AV.v (TV.one (At.int IntKind.i64 r))), [])) (fun r => rfl) hp)
  · cases hp)
noncomputable def z0a : List PT → Option (Bool × AV × List Blk)
  | [.one (.row 1 s_n (.fl .f32 s)), .fn 122 []] => some ((z7k s_n s), ((AV.v (TV.one (At.int IntKind.i64 (z7h s_n s)))), []))
  | _ => none
def zcn (s_n : Nat) (s : List Nat) : Option (Int) → Option (AV × List Blk)
  | some r => some ((AV.v (TV.one (At.int IntKind.i64 r))), [])
  | none => none
theorem zkq (s_n : Nat) (s : List Nat) : evFn Γ4 8 8 99 (impTs 0 [.one (.row 1 s_n (.fl .f32 s)), .fn 122 []]).1 (impTs 0 [.one (.row 1 s_n (.fl .f32 s)), .fn 122 []]).2 (expo (impTs 0 [.one (.row 1 s_n (.fl .f32 s)), .fn 122 []]).2.length) = z5s s_n s (fun c0_ => some ((AV.v (TV.one (At.int IntKind.i64 c0_))), [])) := by kernel_rfl
theorem z07 : SumOne Try.prog 99 z0a := sum_of (Γ := Γ4) (fuel := 8) (d := 8) tyTab_ok (FnL.ok fnTab_ok _ _) (LpL.ok lt4_ok) (SumL.ok tb4_ok _) mixed (by
  intro pts v news hp hc
  clear hc
  unfold z0a at hp
  split at hp
  · rename_i s_n s
    exact Eq.trans (Eq.trans (zkq s_n s) (zid (zcn s_n s) rfl s_n s (fun c0_ => some c0_))) (fin_out (o := (zcn s_n s)) (x := z5q s_n s) (d := default) (V := fun r => ((AV.v (TV.one (At.int IntKind.i64 r))), [])) (fun r => rfl) hp)
  · cases hp)
noncomputable def zc1 (sn : Nat) (t7 : Int) (t8 : Int) (b0 : List Nat) : Bool × LO := ((z5o sn t7 b0 t8), (LO.two (z5l sn t7 b0 t8) (LO.one Ex.ret (St.mk [(4, (AV.v (TV.one (At.int IntKind.i64 (z6w sn t7 b0 t8)))))] [(Blk.mk Bool.false (Body.fl FloatKind.f32 b0))])) (LO.one (Ex.exit 0) (St.mk [(0, (AV.v (TV.one (At.vw 0 0 sn 1)))), (1, (AV.v (TV.one (At.fn 119 [])))), (7, (AV.v (TV.one (At.int IntKind.i64 t7)))), (8, (AV.v (TV.one (At.int IntKind.i64 (z90 sn t7 b0 t8))))), (9, (AV.v (TV.one (At.bool (z8z sn t7 b0 t8)))))] [(Blk.mk Bool.false (Body.fl FloatKind.f32 b0))]))))
noncomputable def z0b : Nat → St → Option (Bool × LO) := lpT 1 (pSt [(pTm 0 (pV (pOne (pVw 0 (liN 0) 1)))), (pTm 1 (pV (pOne (pFn 119 [])))), (pTm 7 (pV (pOne (pInt IntKind.i64)))), (pTm 8 (pV (pOne (pInt IntKind.i64))))] [(pBlk Bool.false (pFl FloatKind.f32))]) (fun hs => zc1 (hvN (hGet hs 0)) (hvI (hGet hs 1)) (hvI (hGet hs 2)) (hvLn (hGet hs 3)))
def z69 (sn : Nat) (t7 : Int) (b0 : List Nat) : Option ((Int) ⊕ (Int × Bool)) → Option (Ex × St)
  | none => none
  | some (Sum.inl r) => some (Ex.ret, (St.mk [(4, (AV.v (TV.one (At.int IntKind.i64 r))))] [(Blk.mk Bool.false (Body.fl FloatKind.f32 b0))]))
  | some (Sum.inr r) => some ((Ex.exit 0), (St.mk [(0, (AV.v (TV.one (At.vw 0 0 sn 1)))), (1, (AV.v (TV.one (At.fn 119 [])))), (7, (AV.v (TV.one (At.int IntKind.i64 t7)))), (8, (AV.v (TV.one (At.int IntKind.i64 r.1)))), (9, (AV.v (TV.one (At.bool r.2))))] [(Blk.mk Bool.false (Body.fl FloatKind.f32 b0))]))
def zk5 (sn : Nat) (t7 : Int) (b0 : List Nat) (x : Option ((Int) ⊕ (Int × Bool))) : LO := (LO.two (oL x) (LO.one Ex.ret (St.mk [(4, (AV.v (TV.one (At.int IntKind.i64 ((tL x).getD default)))))] [(Blk.mk Bool.false (Body.fl FloatKind.f32 b0))])) (LO.one (Ex.exit 0) (St.mk [(0, (AV.v (TV.one (At.vw 0 0 sn 1)))), (1, (AV.v (TV.one (At.fn 119 [])))), (7, (AV.v (TV.one (At.int IntKind.i64 t7)))), (8, (AV.v (TV.one (At.int IntKind.i64 ((tR x).getD default).1)))), (9, (AV.v (TV.one (At.bool ((tR x).getD default).2))))] [(Blk.mk Bool.false (Body.fl FloatKind.f32 b0))])))
theorem zkp (sn : Nat) (t7 : Int) (b0 : List Nat) : ∀ x : Option ((Int) ⊕ (Int × Bool)), x.isSome = true → (z69 sn t7 b0) x = some (pick (zk5 sn t7 b0 x))
  | none, h => by cases h
  | some (Sum.inl r), _ => rfl
  | some (Sum.inr r), _ => rfl
theorem zkr (sn : Nat) (t7 : Int) (t8 : Int) (b0 : List Nat) (K : Ex → St → Option (Ex × St)) : evC (R := Ex × St) Γ4 (evFn Γ4 8 8) 99 1 fi99.nt fi99.live fi99.nl 8 (findL 2 (loopsIn fi99.code)) (St.mk [(0, (AV.v (TV.one (At.vw 0 0 sn 1)))), (1, (AV.v (TV.one (At.fn 119 [])))), (7, (AV.v (TV.one (At.int IntKind.i64 t7)))), (8, (AV.v (TV.one (At.int IntKind.i64 t8))))] [(Blk.mk Bool.false (Body.fl FloatKind.f32 b0))]) K = z4o sn t7 b0 t8 (fun t8' => K .normal (St.mk [(0, (AV.v (TV.one (At.vw 0 0 sn 1)))), (1, (AV.v (TV.one (At.fn 119 [])))), (7, (AV.v (TV.one (At.int IntKind.i64 t7)))), (8, (AV.v (TV.one (At.int IntKind.i64 t8'))))] [(Blk.mk Bool.false (Body.fl FloatKind.f32 b0))])) (fun c0_ => K Ex.ret (St.mk [(4, (AV.v (TV.one (At.int IntKind.i64 c0_))))] [(Blk.mk Bool.false (Body.fl FloatKind.f32 b0))])) (fun c0_ c1_ => K (Ex.exit 0) (St.mk [(0, (AV.v (TV.one (At.vw 0 0 sn 1)))), (1, (AV.v (TV.one (At.fn 119 [])))), (7, (AV.v (TV.one (At.int IntKind.i64 t7)))), (8, (AV.v (TV.one (At.int IntKind.i64 c0_)))), (9, (AV.v (TV.one (At.bool c1_))))] [(Blk.mk Bool.false (Body.fl FloatKind.f32 b0))])) := by kernel_rfl
theorem zko (sn : Nat) (t7 : Int) (b0 : List Nat) : ∀ (n : Nat) (t8 : Int), iter 99 2 1 (evC (R := Ex × St) Γ4 (evFn Γ4 8 8) 99 1 fi99.nt fi99.live fi99.nl 8 (findL 2 (loopsIn fi99.code))) n (St.mk [(0, (AV.v (TV.one (At.vw 0 0 sn 1)))), (1, (AV.v (TV.one (At.fn 119 [])))), (7, (AV.v (TV.one (At.int IntKind.i64 t7)))), (8, (AV.v (TV.one (At.int IntKind.i64 t8))))] [(Blk.mk Bool.false (Body.fl FloatKind.f32 b0))]) (fun e st => some (e, st)) = (z69 sn t7 b0) (z2i sn t7 b0 n t8) := by
  intro n
  induction n with
  | zero => intros; rfl
  | succ n ih =>
    intro t8
    refine Eq.trans (iter_succ ..) (Eq.trans (zkr sn t7 t8 b0 (nextK 99 2 1 (evC (R := Ex × St) Γ4 (evFn Γ4 8 8) 99 1 fi99.nt fi99.live fi99.nl 8 (findL 2 (loopsIn fi99.code))) n (fun e st => some (e, st)))) (Eq.trans ?_ (zi2 (z69 sn t7 b0) rfl sn t7 b0 t8 (fun t8' => z2i sn t7 b0 n t8') (fun c0_ => some (Sum.inl c0_)) (fun c0_ c1_ => some (Sum.inr (c0_, c1_))))))
    exact congrArg (fun kn_ => z4o sn t7 b0 t8 kn_ (fun c0_ => (z69 sn t7 b0) (some (Sum.inl c0_))) (fun c0_ c1_ => (z69 sn t7 b0) (some (Sum.inr (c0_, c1_))))) (funext fun t8' => ih t8')
theorem z08 : LoopOne Try.prog fnTab 99 2 z0b := lp_of (Γ := Γ4) tyTab_ok (FnL.ok fnTab_ok _ _) (LpL.ok lt4_ok) (SumL.ok tb4_ok _) mixed (fi := fi99) (by kernel_rfl) (by kernel_rfl) (by
  intro lo st out hp
  obtain ⟨hs, e1, e2, e3⟩ := lpT_inv hp
  clear hp
  obtain rfl : st = (St.mk [(0, (AV.v (TV.one (At.vw 0 0 (hvN (hGet hs 0)) 1)))), (1, (AV.v (TV.one (At.fn 119 [])))), (7, (AV.v (TV.one (At.int IntKind.i64 (hvI (hGet hs 1)))))), (8, (AV.v (TV.one (At.int IntKind.i64 (hvI (hGet hs 2))))))] [(Blk.mk Bool.false (Body.fl FloatKind.f32 (hvLn (hGet hs 3))))]) := e2.trans (by kernel_rfl)
  clear e2
  subst e1
  unfold zc1 at e3
  injection e3 with h1 h2
  subst h2
  exact ⟨8, 8, big, Eq.trans (zko (hvN (hGet hs 0)) (hvI (hGet hs 1)) (hvLn (hGet hs 3)) big (hvI (hGet hs 2))) (zkp (hvN (hGet hs 0)) (hvI (hGet hs 1)) (hvLn (hGet hs 3)) (z2i (hvN (hGet hs 0)) (hvI (hGet hs 1)) (hvLn (hGet hs 3)) big (hvI (hGet hs 2))) h1)⟩)
noncomputable def tb5 : List (Nat × (List PT → Option (Bool × AV × List Blk))) := [(125, z2f), (128, z0w), (134, z1i), (137, z2g), (18, z2o), (44, z2p), (48, z26), (54, z3f), (61, z2n), (63, z4f), (64, z42), (66, z43), (80, z28), (97, z3e), (104, z0s), (115, z01), (14, z35), (67, z1y), (92, z46), (103, z3k), (105, z34), (111, z3w), (114, z3j), (118, z1x), (122, z19), (37, z3y), (52, z2k), (72, z1r), (79, z1s), (93, z39), (119, z2j), (16, z3g), (36, z2b), (57, z31), (86, z30), (19, z3n), (33, z3p), (39, z48), (62, z4q), (69, z37), (99, z0f), (99, z0a)]
noncomputable def lt5 : List ((Nat × Nat) × (Nat → St → Option (Bool × LO))) := [((52, 3), z1d), ((72, 2), z10), ((79, 2), z11), ((57, 4), z1k), ((86, 3), z1j), ((62, 5), z3x), ((69, 4), z1u), ((99, 2), z05), ((99, 2), z03), ((99, 2), z0b)]
noncomputable def Γ5 : Ctx := ⟨tyTab, fnTab, tblSum tb5, tblLp lt5⟩
theorem tb5_ok : SumL Try.prog tb5 := SumL.cons z1g (SumL.cons z0l (SumL.cons z14 (SumL.cons z1h (SumL.cons z1p (SumL.cons z1q (SumL.cons z1f (SumL.cons z24 (SumL.cons z1o (SumL.cons z3r (SumL.cons z3a (SumL.cons z38 (SumL.cons z1e (SumL.cons z25 (SumL.cons z0k (SumL.cons z00 (SumL.cons z1z (SumL.cons z1c (SumL.cons z3h (SumL.cons z2a (SumL.cons z20 (SumL.cons z32 (SumL.cons z2c (SumL.cons z1b (SumL.cons z0z (SumL.cons z36 (SumL.cons z1v (SumL.cons z18 (SumL.cons z17 (SumL.cons z27 (SumL.cons z1t (SumL.cons z2e (SumL.cons z1l (SumL.cons z23 (SumL.cons z21 (SumL.cons z2q (SumL.cons z2m (SumL.cons z3o (SumL.cons z47 (SumL.cons z29 (SumL.cons z0e (SumL.cons z07 (SumL.nil))))))))))))))))))))))))))))))))))))))))))
theorem lt5_ok : LpL Try.prog fnTab lt5 := LpL.cons z0y (LpL.cons z0r (LpL.cons z0q (LpL.cons z12 (LpL.cons z13 (LpL.cons z33 (LpL.cons z15 (LpL.cons z04 (LpL.cons z02 (LpL.cons z08 (LpL.nil))))))))))
noncomputable def z4b : List PT → Option (Bool × AV × List Blk)
  | [.agg [.row 1 q0j (.fl .f32 q0m), .row 1 q0l (.fl .f32 q0o), .row 1 q0k (.fl .f32 q0p), .row 3 q0q (.fl .f32 q0u), .s (.int .i64 q16), .s (.flt .f32 q23), .s (.flt .f32 q24)], .agg [.row 1 q29 (.fl .f32 q2d), .row 1 q2b (.fl .f32 q2e), .row 1 q2a (.fl .f32 q2f), .row 3 q2q (.fl .f32 q33), .s (.int .i64 q3g), .s (.flt .f32 q3i), .s (.flt .f32 q3h)]] => some ((zf9 q0j q0m q0l q0o q0k q0p q0q q0u q16 q23 q24 q29 q2d q2b q2e q2a q2f q2q q33 q3g q3i q3h), ((AV.v (TV.one (At.bool (zea q0j q0m q0l q0o q0k q0p q0q q0u q16 q23 q24 q29 q2d q2b q2e q2a q2f q2q q33 q3g q3i q3h)))), []))
  | _ => none
def zpg (q0j : Nat) (q0m : List Nat) (q0l : Nat) (q0o : List Nat) (q0k : Nat) (q0p : List Nat) (q0q : Nat) (q0u : List Nat) (q16 : Int) (q23 : Nat) (q24 : Nat) (q29 : Nat) (q2d : List Nat) (q2b : Nat) (q2e : List Nat) (q2a : Nat) (q2f : List Nat) (q2q : Nat) (q33 : List Nat) (q3g : Int) (q3i : Nat) (q3h : Nat) : Option (Bool) → Option (AV × List Blk)
  | some r => some ((AV.v (TV.one (At.bool r))), [])
  | none => none
theorem zt7 (q0j : Nat) (q0m : List Nat) (q0l : Nat) (q0o : List Nat) (q0k : Nat) (q0p : List Nat) (q0q : Nat) (q0u : List Nat) (q16 : Int) (q23 : Nat) (q24 : Nat) (q29 : Nat) (q2d : List Nat) (q2b : Nat) (q2e : List Nat) (q2a : Nat) (q2f : List Nat) (q2q : Nat) (q33 : List Nat) (q3g : Int) (q3i : Nat) (q3h : Nat) : evFn Γ5 8 8 30 (impTs 0 [.agg [.row 1 q0j (.fl .f32 q0m), .row 1 q0l (.fl .f32 q0o), .row 1 q0k (.fl .f32 q0p), .row 3 q0q (.fl .f32 q0u), .s (.int .i64 q16), .s (.flt .f32 q23), .s (.flt .f32 q24)], .agg [.row 1 q29 (.fl .f32 q2d), .row 1 q2b (.fl .f32 q2e), .row 1 q2a (.fl .f32 q2f), .row 3 q2q (.fl .f32 q33), .s (.int .i64 q3g), .s (.flt .f32 q3i), .s (.flt .f32 q3h)]]).1 (impTs 0 [.agg [.row 1 q0j (.fl .f32 q0m), .row 1 q0l (.fl .f32 q0o), .row 1 q0k (.fl .f32 q0p), .row 3 q0q (.fl .f32 q0u), .s (.int .i64 q16), .s (.flt .f32 q23), .s (.flt .f32 q24)], .agg [.row 1 q29 (.fl .f32 q2d), .row 1 q2b (.fl .f32 q2e), .row 1 q2a (.fl .f32 q2f), .row 3 q2q (.fl .f32 q33), .s (.int .i64 q3g), .s (.flt .f32 q3i), .s (.flt .f32 q3h)]]).2 (expo (impTs 0 [.agg [.row 1 q0j (.fl .f32 q0m), .row 1 q0l (.fl .f32 q0o), .row 1 q0k (.fl .f32 q0p), .row 3 q0q (.fl .f32 q0u), .s (.int .i64 q16), .s (.flt .f32 q23), .s (.flt .f32 q24)], .agg [.row 1 q29 (.fl .f32 q2d), .row 1 q2b (.fl .f32 q2e), .row 1 q2a (.fl .f32 q2f), .row 3 q2q (.fl .f32 q33), .s (.int .i64 q3g), .s (.flt .f32 q3i), .s (.flt .f32 q3h)]]).2.length) = ze2 q0j q0m q0l q0o q0k q0p q0q q0u q16 q23 q24 q29 q2d q2b q2e q2a q2f q2q q33 q3g q3i q3h (fun c0_ => some ((AV.v (TV.one (At.bool c0_))), [])) := by kernel_rfl
theorem z3u : SumOne Try.prog 30 z4b := sum_of (Γ := Γ5) (fuel := 8) (d := 8) tyTab_ok (FnL.ok fnTab_ok _ _) (LpL.ok lt5_ok) (SumL.ok tb5_ok _) mixed (by
  intro pts v news hp hc
  clear hc
  unfold z4b at hp
  split at hp
  · rename_i q0j q0m q0l q0o q0k q0p q0q q0u q16 q23 q24 q29 q2d q2b q2e q2a q2f q2q q33 q3g q3i q3h
    exact Eq.trans (Eq.trans (zt7 q0j q0m q0l q0o q0k q0p q0q q0u q16 q23 q24 q29 q2d q2b q2e q2a q2f q2q q33 q3g q3i q3h) (zrj (zpg q0j q0m q0l q0o q0k q0p q0q q0u q16 q23 q24 q29 q2d q2b q2e q2a q2f q2q q33 q3g q3i q3h) rfl q0j q0m q0l q0o q0k q0p q0q q0u q16 q23 q24 q29 q2d q2b q2e q2a q2f q2q q33 q3g q3i q3h (fun c0_ => some c0_))) (fin_out (o := (zpg q0j q0m q0l q0o q0k q0p q0q q0u q16 q23 q24 q29 q2d q2b q2e q2a q2f q2q q33 q3g q3i q3h)) (x := zc6 q0j q0m q0l q0o q0k q0p q0q q0u q16 q23 q24 q29 q2d q2b q2e q2a q2f q2q q33 q3g q3i q3h) (d := default) (V := fun r => ((AV.v (TV.one (At.bool r))), [])) (fun r => rfl) hp)
  · cases hp)
noncomputable def z0j : List PT → Option (Bool × AV × List Blk)
  | [.one (.row 1 s_n (.fl .f32 s)), .fn 119 []] => some ((z83 s_n s), ((AV.v (TV.one (At.int IntKind.i64 (z7z s_n s)))), []))
  | _ => none
def zdm (s_n : Nat) (s : List Nat) : Option (Int) → Option (AV × List Blk)
  | some r => some ((AV.v (TV.one (At.int IntKind.i64 r))), [])
  | none => none
theorem zlb (s_n : Nat) (s : List Nat) : evFn Γ5 8 8 99 (impTs 0 [.one (.row 1 s_n (.fl .f32 s)), .fn 119 []]).1 (impTs 0 [.one (.row 1 s_n (.fl .f32 s)), .fn 119 []]).2 (expo (impTs 0 [.one (.row 1 s_n (.fl .f32 s)), .fn 119 []]).2.length) = z60 s_n s (fun c0_ => some ((AV.v (TV.one (At.int IntKind.i64 c0_))), [])) := by kernel_rfl
theorem z0i : SumOne Try.prog 99 z0j := sum_of (Γ := Γ5) (fuel := 8) (d := 8) tyTab_ok (FnL.ok fnTab_ok _ _) (LpL.ok lt5_ok) (SumL.ok tb5_ok _) mixed (by
  intro pts v news hp hc
  clear hc
  unfold z0j at hp
  split at hp
  · rename_i s_n s
    exact Eq.trans (Eq.trans (zlb s_n s) (zk9 (zdm s_n s) rfl s_n s (fun c0_ => some c0_))) (fin_out (o := (zdm s_n s)) (x := z61 s_n s) (d := default) (V := fun r => ((AV.v (TV.one (At.int IntKind.i64 r))), [])) (fun r => rfl) hp)
  · cases hp)
noncomputable def tb6 : List (Nat × (List PT → Option (Bool × AV × List Blk))) := [(125, z2f), (128, z0w), (134, z1i), (137, z2g), (18, z2o), (44, z2p), (48, z26), (54, z3f), (61, z2n), (63, z4f), (64, z42), (66, z43), (80, z28), (97, z3e), (104, z0s), (115, z01), (14, z35), (67, z1y), (92, z46), (103, z3k), (105, z34), (111, z3w), (114, z3j), (118, z1x), (122, z19), (37, z3y), (52, z2k), (72, z1r), (79, z1s), (93, z39), (119, z2j), (16, z3g), (36, z2b), (57, z31), (86, z30), (19, z3n), (33, z3p), (39, z48), (62, z4q), (69, z37), (99, z0f), (99, z0a), (30, z4b), (99, z0j)]
noncomputable def lt6 : List ((Nat × Nat) × (Nat → St → Option (Bool × LO))) := [((52, 3), z1d), ((72, 2), z10), ((79, 2), z11), ((57, 4), z1k), ((86, 3), z1j), ((62, 5), z3x), ((69, 4), z1u), ((99, 2), z05), ((99, 2), z03), ((99, 2), z0b)]
noncomputable def Γ6 : Ctx := ⟨tyTab, fnTab, tblSum tb6, tblLp lt6⟩
theorem tb6_ok : SumL Try.prog tb6 := SumL.cons z1g (SumL.cons z0l (SumL.cons z14 (SumL.cons z1h (SumL.cons z1p (SumL.cons z1q (SumL.cons z1f (SumL.cons z24 (SumL.cons z1o (SumL.cons z3r (SumL.cons z3a (SumL.cons z38 (SumL.cons z1e (SumL.cons z25 (SumL.cons z0k (SumL.cons z00 (SumL.cons z1z (SumL.cons z1c (SumL.cons z3h (SumL.cons z2a (SumL.cons z20 (SumL.cons z32 (SumL.cons z2c (SumL.cons z1b (SumL.cons z0z (SumL.cons z36 (SumL.cons z1v (SumL.cons z18 (SumL.cons z17 (SumL.cons z27 (SumL.cons z1t (SumL.cons z2e (SumL.cons z1l (SumL.cons z23 (SumL.cons z21 (SumL.cons z2q (SumL.cons z2m (SumL.cons z3o (SumL.cons z47 (SumL.cons z29 (SumL.cons z0e (SumL.cons z07 (SumL.cons z3u (SumL.cons z0i (SumL.nil))))))))))))))))))))))))))))))))))))))))))))
theorem lt6_ok : LpL Try.prog fnTab lt6 := LpL.cons z0y (LpL.cons z0r (LpL.cons z0q (LpL.cons z12 (LpL.cons z13 (LpL.cons z33 (LpL.cons z15 (LpL.cons z04 (LpL.cons z02 (LpL.cons z08 (LpL.nil))))))))))
noncomputable def z0d : List PT → Option (Bool × AV × List Blk)
  | [.one (.row 1 s_n (.fl .f32 s)), .fn 118 []] => some ((z7g s_n s), ((AV.v (TV.one (At.bool (z77 s_n s)))), []))
  | _ => none
def zcg (s_n : Nat) (s : List Nat) : Option (Bool) → Option (AV × List Blk)
  | some r => some ((AV.v (TV.one (At.bool r))), [])
  | none => none
theorem zk7 (s_n : Nat) (s : List Nat) : evFn Γ6 8 8 117 (impTs 0 [.one (.row 1 s_n (.fl .f32 s)), .fn 118 []]).1 (impTs 0 [.one (.row 1 s_n (.fl .f32 s)), .fn 118 []]).2 (expo (impTs 0 [.one (.row 1 s_n (.fl .f32 s)), .fn 118 []]).2.length) = z5k s_n s (fun c0_ => some ((AV.v (TV.one (At.bool c0_))), [])) := by kernel_rfl
theorem z0c : SumOne Try.prog 117 z0d := sum_of (Γ := Γ6) (fuel := 8) (d := 8) tyTab_ok (FnL.ok fnTab_ok _ _) (LpL.ok lt6_ok) (SumL.ok tb6_ok _) mixed (by
  intro pts v news hp hc
  clear hc
  unfold z0d at hp
  split at hp
  · rename_i s_n s
    exact Eq.trans (Eq.trans (zk7 s_n s) (zgl (zcg s_n s) rfl s_n s (fun c0_ => some c0_))) (fin_out (o := (zcg s_n s)) (x := z5j s_n s) (d := default) (V := fun r => ((AV.v (TV.one (At.bool r))), [])) (fun r => rfl) hp)
  · cases hp)
noncomputable def z0h : List PT → Option (Bool × AV × List Blk)
  | [.one (.row 1 s_n (.fl .f32 s)), .fn 119 []] => some ((z7l s_n s), ((AV.v (TV.one (At.bool (z7f s_n s)))), []))
  | _ => none
def zcm (s_n : Nat) (s : List Nat) : Option (Bool) → Option (AV × List Blk)
  | some r => some ((AV.v (TV.one (At.bool r))), [])
  | none => none
theorem zkn (s_n : Nat) (s : List Nat) : evFn Γ6 8 8 117 (impTs 0 [.one (.row 1 s_n (.fl .f32 s)), .fn 119 []]).1 (impTs 0 [.one (.row 1 s_n (.fl .f32 s)), .fn 119 []]).2 (expo (impTs 0 [.one (.row 1 s_n (.fl .f32 s)), .fn 119 []]).2.length) = z5r s_n s (fun c0_ => some ((AV.v (TV.one (At.bool c0_))), [])) := by kernel_rfl
theorem z0g : SumOne Try.prog 117 z0h := sum_of (Γ := Γ6) (fuel := 8) (d := 8) tyTab_ok (FnL.ok fnTab_ok _ _) (LpL.ok lt6_ok) (SumL.ok tb6_ok _) mixed (by
  intro pts v news hp hc
  clear hc
  unfold z0h at hp
  split at hp
  · rename_i s_n s
    exact Eq.trans (Eq.trans (zkn s_n s) (zhl (zcm s_n s) rfl s_n s (fun c0_ => some c0_))) (fin_out (o := (zcm s_n s)) (x := z5n s_n s) (d := default) (V := fun r => ((AV.v (TV.one (At.bool r))), [])) (fun r => rfl) hp)
  · cases hp)
noncomputable def z09 : List PT → Option (Bool × AV × List Blk)
  | [.one (.row 1 s_n (.fl .f32 s)), .fn 122 []] => some ((z6x s_n s), ((AV.v (TV.one (At.bool (z6n s_n s)))), []))
  | _ => none
def zb5 (s_n : Nat) (s : List Nat) : Option (Bool) → Option (AV × List Blk)
  | some r => some ((AV.v (TV.one (At.bool r))), [])
  | none => none
theorem zin (s_n : Nat) (s : List Nat) : evFn Γ6 8 8 117 (impTs 0 [.one (.row 1 s_n (.fl .f32 s)), .fn 122 []]).1 (impTs 0 [.one (.row 1 s_n (.fl .f32 s)), .fn 122 []]).2 (expo (impTs 0 [.one (.row 1 s_n (.fl .f32 s)), .fn 122 []]).2.length) = z5d s_n s (fun c0_ => some ((AV.v (TV.one (At.bool c0_))), [])) := by kernel_rfl
theorem z06 : SumOne Try.prog 117 z09 := sum_of (Γ := Γ6) (fuel := 8) (d := 8) tyTab_ok (FnL.ok fnTab_ok _ _) (LpL.ok lt6_ok) (SumL.ok tb6_ok _) mixed (by
  intro pts v news hp hc
  clear hc
  unfold z09 at hp
  split at hp
  · rename_i s_n s
    exact Eq.trans (Eq.trans (zin s_n s) (zfl (zb5 s_n s) rfl s_n s (fun c0_ => some c0_))) (fin_out (o := (zb5 s_n s)) (x := z5e s_n s) (d := default) (V := fun r => ((AV.v (TV.one (At.bool r))), [])) (fun r => rfl) hp)
  · cases hp)
noncomputable def zn4 (t4 : Nat) (t57 : Int) (t58 : Int) (b0 : List Nat) (b1 : List Nat) (b2 : List Nat) (b3 : List Nat) (q13 : Nat) (q12 : Nat) (q14 : Nat) (q0w : Nat) (q1d : Int) (q1e : Nat) (q0y : Nat) : Bool × LO := ((zcs t57 b3 q0w q0y t4 t58), (LO.two (zc3 t57 b3 q0w q0y t4 t58) (LO.one Ex.ret (St.mk [(2, (AV.v (TV.one (At.bool Bool.false))))] [(Blk.mk Bool.false (Body.fl FloatKind.f32 b0)), (Blk.mk Bool.false (Body.fl FloatKind.f32 b1)), (Blk.mk Bool.false (Body.fl FloatKind.f32 b2)), (Blk.mk Bool.false (Body.fl FloatKind.f32 b3)), (Blk.mk Bool.false (Body.cells [(At.vw 0 0 q13 1), (At.vw 1 0 q12 1), (At.vw 2 0 q14 1), (At.vw 3 0 q0w 3), (At.int IntKind.i64 q1d), (At.flt FloatKind.f32 q1e), (At.flt FloatKind.f32 q0y)]))])) (LO.one (Ex.exit 0) (St.mk [(0, (AV.v (TV.one (At.ptr 4 0 7)))), (4, (AV.v (TV.one (At.flt FloatKind.f32 (zln t57 b3 q0w q0y t4 t58))))), (57, (AV.v (TV.one (At.int IntKind.i64 t57)))), (58, (AV.v (TV.one (At.int IntKind.i64 (zlx t57 b3 q0w q0y t4 t58))))), (59, (AV.v (TV.one (At.bool (zlr t57 b3 q0w q0y t4 t58)))))] [(Blk.mk Bool.false (Body.fl FloatKind.f32 b0)), (Blk.mk Bool.false (Body.fl FloatKind.f32 b1)), (Blk.mk Bool.false (Body.fl FloatKind.f32 b2)), (Blk.mk Bool.false (Body.fl FloatKind.f32 b3)), (Blk.mk Bool.false (Body.cells [(At.vw 0 0 q13 1), (At.vw 1 0 q12 1), (At.vw 2 0 q14 1), (At.vw 3 0 q0w 3), (At.int IntKind.i64 q1d), (At.flt FloatKind.f32 q1e), (At.flt FloatKind.f32 q0y)]))]))))
noncomputable def z49 : Nat → St → Option (Bool × LO) := lpT 5 (pSt [(pTm 0 (pV (pOne (pPtr 4 (liN 0) 7)))), (pTm 4 (pV (pOne (pFlt FloatKind.f32)))), (pTm 57 (pV (pOne (pInt IntKind.i64)))), (pTm 58 (pV (pOne (pInt IntKind.i64))))] [(pBlk Bool.false (pFl FloatKind.f32)), (pBlk Bool.false (pFl FloatKind.f32)), (pBlk Bool.false (pFl FloatKind.f32)), (pBlk Bool.false (pFl FloatKind.f32)), (pBlk Bool.false (pCells [(pVw 0 (liN 0) 1), (pVw 1 (liN 0) 1), (pVw 2 (liN 0) 1), (pVw 3 (liN 0) 3), (pInt IntKind.i64), (pFlt FloatKind.f32), (pFlt FloatKind.f32)]))]) (fun hs => zn4 (hvN (hGet hs 0)) (hvI (hGet hs 1)) (hvI (hGet hs 2)) (hvLn (hGet hs 3)) (hvLn (hGet hs 4)) (hvLn (hGet hs 5)) (hvLn (hGet hs 6)) (hvN (hGet hs 7)) (hvN (hGet hs 8)) (hvN (hGet hs 9)) (hvN (hGet hs 10)) (hvI (hGet hs 11)) (hvN (hGet hs 12)) (hvN (hGet hs 13)))
def zhm (t57 : Int) (b0 : List Nat) (b1 : List Nat) (b2 : List Nat) (b3 : List Nat) (q13 : Nat) (q12 : Nat) (q14 : Nat) (q0w : Nat) (q1d : Int) (q1e : Nat) (q0y : Nat) : Option ((Unit) ⊕ (Nat × Int × Bool)) → Option (Ex × St)
  | none => none
  | some (Sum.inl r) => some (Ex.ret, (St.mk [(2, (AV.v (TV.one (At.bool Bool.false))))] [(Blk.mk Bool.false (Body.fl FloatKind.f32 b0)), (Blk.mk Bool.false (Body.fl FloatKind.f32 b1)), (Blk.mk Bool.false (Body.fl FloatKind.f32 b2)), (Blk.mk Bool.false (Body.fl FloatKind.f32 b3)), (Blk.mk Bool.false (Body.cells [(At.vw 0 0 q13 1), (At.vw 1 0 q12 1), (At.vw 2 0 q14 1), (At.vw 3 0 q0w 3), (At.int IntKind.i64 q1d), (At.flt FloatKind.f32 q1e), (At.flt FloatKind.f32 q0y)]))]))
  | some (Sum.inr r) => some ((Ex.exit 0), (St.mk [(0, (AV.v (TV.one (At.ptr 4 0 7)))), (4, (AV.v (TV.one (At.flt FloatKind.f32 r.1)))), (57, (AV.v (TV.one (At.int IntKind.i64 t57)))), (58, (AV.v (TV.one (At.int IntKind.i64 r.2.1)))), (59, (AV.v (TV.one (At.bool r.2.2))))] [(Blk.mk Bool.false (Body.fl FloatKind.f32 b0)), (Blk.mk Bool.false (Body.fl FloatKind.f32 b1)), (Blk.mk Bool.false (Body.fl FloatKind.f32 b2)), (Blk.mk Bool.false (Body.fl FloatKind.f32 b3)), (Blk.mk Bool.false (Body.cells [(At.vw 0 0 q13 1), (At.vw 1 0 q12 1), (At.vw 2 0 q14 1), (At.vw 3 0 q0w 3), (At.int IntKind.i64 q1d), (At.flt FloatKind.f32 q1e), (At.flt FloatKind.f32 q0y)]))]))
def zsq (t57 : Int) (b0 : List Nat) (b1 : List Nat) (b2 : List Nat) (b3 : List Nat) (q13 : Nat) (q12 : Nat) (q14 : Nat) (q0w : Nat) (q1d : Int) (q1e : Nat) (q0y : Nat) (x : Option ((Unit) ⊕ (Nat × Int × Bool))) : LO := (LO.two (oL x) (LO.one Ex.ret (St.mk [(2, (AV.v (TV.one (At.bool Bool.false))))] [(Blk.mk Bool.false (Body.fl FloatKind.f32 b0)), (Blk.mk Bool.false (Body.fl FloatKind.f32 b1)), (Blk.mk Bool.false (Body.fl FloatKind.f32 b2)), (Blk.mk Bool.false (Body.fl FloatKind.f32 b3)), (Blk.mk Bool.false (Body.cells [(At.vw 0 0 q13 1), (At.vw 1 0 q12 1), (At.vw 2 0 q14 1), (At.vw 3 0 q0w 3), (At.int IntKind.i64 q1d), (At.flt FloatKind.f32 q1e), (At.flt FloatKind.f32 q0y)]))])) (LO.one (Ex.exit 0) (St.mk [(0, (AV.v (TV.one (At.ptr 4 0 7)))), (4, (AV.v (TV.one (At.flt FloatKind.f32 ((tR x).getD default).1)))), (57, (AV.v (TV.one (At.int IntKind.i64 t57)))), (58, (AV.v (TV.one (At.int IntKind.i64 ((tR x).getD default).2.1)))), (59, (AV.v (TV.one (At.bool ((tR x).getD default).2.2))))] [(Blk.mk Bool.false (Body.fl FloatKind.f32 b0)), (Blk.mk Bool.false (Body.fl FloatKind.f32 b1)), (Blk.mk Bool.false (Body.fl FloatKind.f32 b2)), (Blk.mk Bool.false (Body.fl FloatKind.f32 b3)), (Blk.mk Bool.false (Body.cells [(At.vw 0 0 q13 1), (At.vw 1 0 q12 1), (At.vw 2 0 q14 1), (At.vw 3 0 q0w 3), (At.int IntKind.i64 q1d), (At.flt FloatKind.f32 q1e), (At.flt FloatKind.f32 q0y)]))])))
theorem zt3 (t57 : Int) (b0 : List Nat) (b1 : List Nat) (b2 : List Nat) (b3 : List Nat) (q13 : Nat) (q12 : Nat) (q14 : Nat) (q0w : Nat) (q1d : Int) (q1e : Nat) (q0y : Nat) : ∀ x : Option ((Unit) ⊕ (Nat × Int × Bool)), x.isSome = true → (zhm t57 b0 b1 b2 b3 q13 q12 q14 q0w q1d q1e q0y) x = some (pick (zsq t57 b0 b1 b2 b3 q13 q12 q14 q0w q1d q1e q0y x))
  | none, h => by cases h
  | some (Sum.inl r), _ => rfl
  | some (Sum.inr r), _ => rfl
theorem zsz (t4 : Nat) (t57 : Int) (t58 : Int) (b0 : List Nat) (b1 : List Nat) (b2 : List Nat) (b3 : List Nat) (q13 : Nat) (q12 : Nat) (q14 : Nat) (q0w : Nat) (q1d : Int) (q1e : Nat) (q0y : Nat) (K : Ex → St → Option (Ex × St)) : evC (R := Ex × St) Γ6 (evFn Γ6 8 8) 91 5 fi91.nt fi91.live fi91.nl 8 (findL 6 (loopsIn fi91.code)) (St.mk [(0, (AV.v (TV.one (At.ptr 4 0 7)))), (4, (AV.v (TV.one (At.flt FloatKind.f32 t4)))), (57, (AV.v (TV.one (At.int IntKind.i64 t57)))), (58, (AV.v (TV.one (At.int IntKind.i64 t58))))] [(Blk.mk Bool.false (Body.fl FloatKind.f32 b0)), (Blk.mk Bool.false (Body.fl FloatKind.f32 b1)), (Blk.mk Bool.false (Body.fl FloatKind.f32 b2)), (Blk.mk Bool.false (Body.fl FloatKind.f32 b3)), (Blk.mk Bool.false (Body.cells [(At.vw 0 0 q13 1), (At.vw 1 0 q12 1), (At.vw 2 0 q14 1), (At.vw 3 0 q0w 3), (At.int IntKind.i64 q1d), (At.flt FloatKind.f32 q1e), (At.flt FloatKind.f32 q0y)]))]) K = za1 t57 b3 q0w q0y t4 t58 (fun t4' t58' => K .normal (St.mk [(0, (AV.v (TV.one (At.ptr 4 0 7)))), (4, (AV.v (TV.one (At.flt FloatKind.f32 t4')))), (57, (AV.v (TV.one (At.int IntKind.i64 t57)))), (58, (AV.v (TV.one (At.int IntKind.i64 t58'))))] [(Blk.mk Bool.false (Body.fl FloatKind.f32 b0)), (Blk.mk Bool.false (Body.fl FloatKind.f32 b1)), (Blk.mk Bool.false (Body.fl FloatKind.f32 b2)), (Blk.mk Bool.false (Body.fl FloatKind.f32 b3)), (Blk.mk Bool.false (Body.cells [(At.vw 0 0 q13 1), (At.vw 1 0 q12 1), (At.vw 2 0 q14 1), (At.vw 3 0 q0w 3), (At.int IntKind.i64 q1d), (At.flt FloatKind.f32 q1e), (At.flt FloatKind.f32 q0y)]))])) (fun _ => K Ex.ret (St.mk [(2, (AV.v (TV.one (At.bool Bool.false))))] [(Blk.mk Bool.false (Body.fl FloatKind.f32 b0)), (Blk.mk Bool.false (Body.fl FloatKind.f32 b1)), (Blk.mk Bool.false (Body.fl FloatKind.f32 b2)), (Blk.mk Bool.false (Body.fl FloatKind.f32 b3)), (Blk.mk Bool.false (Body.cells [(At.vw 0 0 q13 1), (At.vw 1 0 q12 1), (At.vw 2 0 q14 1), (At.vw 3 0 q0w 3), (At.int IntKind.i64 q1d), (At.flt FloatKind.f32 q1e), (At.flt FloatKind.f32 q0y)]))])) (fun c0_ c1_ c2_ => K (Ex.exit 0) (St.mk [(0, (AV.v (TV.one (At.ptr 4 0 7)))), (4, (AV.v (TV.one (At.flt FloatKind.f32 c0_)))), (57, (AV.v (TV.one (At.int IntKind.i64 t57)))), (58, (AV.v (TV.one (At.int IntKind.i64 c1_)))), (59, (AV.v (TV.one (At.bool c2_))))] [(Blk.mk Bool.false (Body.fl FloatKind.f32 b0)), (Blk.mk Bool.false (Body.fl FloatKind.f32 b1)), (Blk.mk Bool.false (Body.fl FloatKind.f32 b2)), (Blk.mk Bool.false (Body.fl FloatKind.f32 b3)), (Blk.mk Bool.false (Body.cells [(At.vw 0 0 q13 1), (At.vw 1 0 q12 1), (At.vw 2 0 q14 1), (At.vw 3 0 q0w 3), (At.int IntKind.i64 q1d), (At.flt FloatKind.f32 q1e), (At.flt FloatKind.f32 q0y)]))])) := by kernel_rfl
theorem zsv (t57 : Int) (b0 : List Nat) (b1 : List Nat) (b2 : List Nat) (b3 : List Nat) (q13 : Nat) (q12 : Nat) (q14 : Nat) (q0w : Nat) (q1d : Int) (q1e : Nat) (q0y : Nat) : ∀ (n : Nat) (t4 : Nat) (t58 : Int), iter 91 6 5 (evC (R := Ex × St) Γ6 (evFn Γ6 8 8) 91 5 fi91.nt fi91.live fi91.nl 8 (findL 6 (loopsIn fi91.code))) n (St.mk [(0, (AV.v (TV.one (At.ptr 4 0 7)))), (4, (AV.v (TV.one (At.flt FloatKind.f32 t4)))), (57, (AV.v (TV.one (At.int IntKind.i64 t57)))), (58, (AV.v (TV.one (At.int IntKind.i64 t58))))] [(Blk.mk Bool.false (Body.fl FloatKind.f32 b0)), (Blk.mk Bool.false (Body.fl FloatKind.f32 b1)), (Blk.mk Bool.false (Body.fl FloatKind.f32 b2)), (Blk.mk Bool.false (Body.fl FloatKind.f32 b3)), (Blk.mk Bool.false (Body.cells [(At.vw 0 0 q13 1), (At.vw 1 0 q12 1), (At.vw 2 0 q14 1), (At.vw 3 0 q0w 3), (At.int IntKind.i64 q1d), (At.flt FloatKind.f32 q1e), (At.flt FloatKind.f32 q0y)]))]) (fun e st => some (e, st)) = (zhm t57 b0 b1 b2 b3 q13 q12 q14 q0w q1d q1e q0y) (z5z t57 b3 q0w q0y n t4 t58) := by
  intro n
  induction n with
  | zero => intros; rfl
  | succ n ih =>
    intro t4 t58
    refine Eq.trans (iter_succ ..) (Eq.trans (zsz t4 t57 t58 b0 b1 b2 b3 q13 q12 q14 q0w q1d q1e q0y (nextK 91 6 5 (evC (R := Ex × St) Γ6 (evFn Γ6 8 8) 91 5 fi91.nt fi91.live fi91.nl 8 (findL 6 (loopsIn fi91.code))) n (fun e st => some (e, st)))) (Eq.trans ?_ (zqy (zhm t57 b0 b1 b2 b3 q13 q12 q14 q0w q1d q1e q0y) rfl t57 b3 q0w q0y t4 t58 (fun t4' t58' => z5z t57 b3 q0w q0y n t4' t58') (fun _ => some (Sum.inl ())) (fun c0_ c1_ c2_ => some (Sum.inr (c0_, c1_, c2_))))))
    exact congrArg (fun kn_ => za1 t57 b3 q0w q0y t4 t58 kn_ (fun _ => (zhm t57 b0 b1 b2 b3 q13 q12 q14 q0w q1d q1e q0y) (some (Sum.inl ()))) (fun c0_ c1_ c2_ => (zhm t57 b0 b1 b2 b3 q13 q12 q14 q0w q1d q1e q0y) (some (Sum.inr (c0_, c1_, c2_))))) (funext fun t4' => funext fun t58' => ih t4' t58')
theorem z3s : LoopOne Try.prog fnTab 91 6 z49 := lp_of (Γ := Γ6) tyTab_ok (FnL.ok fnTab_ok _ _) (LpL.ok lt6_ok) (SumL.ok tb6_ok _) mixed (fi := fi91) (by kernel_rfl) (by kernel_rfl) (by
  intro lo st out hp
  obtain ⟨hs, e1, e2, e3⟩ := lpT_inv hp
  clear hp
  obtain rfl : st = (St.mk [(0, (AV.v (TV.one (At.ptr 4 0 7)))), (4, (AV.v (TV.one (At.flt FloatKind.f32 (hvN (hGet hs 0)))))), (57, (AV.v (TV.one (At.int IntKind.i64 (hvI (hGet hs 1)))))), (58, (AV.v (TV.one (At.int IntKind.i64 (hvI (hGet hs 2))))))] [(Blk.mk Bool.false (Body.fl FloatKind.f32 (hvLn (hGet hs 3)))), (Blk.mk Bool.false (Body.fl FloatKind.f32 (hvLn (hGet hs 4)))), (Blk.mk Bool.false (Body.fl FloatKind.f32 (hvLn (hGet hs 5)))), (Blk.mk Bool.false (Body.fl FloatKind.f32 (hvLn (hGet hs 6)))), (Blk.mk Bool.false (Body.cells [(At.vw 0 0 (hvN (hGet hs 7)) 1), (At.vw 1 0 (hvN (hGet hs 8)) 1), (At.vw 2 0 (hvN (hGet hs 9)) 1), (At.vw 3 0 (hvN (hGet hs 10)) 3), (At.int IntKind.i64 (hvI (hGet hs 11))), (At.flt FloatKind.f32 (hvN (hGet hs 12))), (At.flt FloatKind.f32 (hvN (hGet hs 13)))]))]) := e2.trans (by kernel_rfl)
  clear e2
  subst e1
  unfold zn4 at e3
  injection e3 with h1 h2
  subst h2
  exact ⟨8, 8, big, Eq.trans (zsv (hvI (hGet hs 1)) (hvLn (hGet hs 3)) (hvLn (hGet hs 4)) (hvLn (hGet hs 5)) (hvLn (hGet hs 6)) (hvN (hGet hs 7)) (hvN (hGet hs 8)) (hvN (hGet hs 9)) (hvN (hGet hs 10)) (hvI (hGet hs 11)) (hvN (hGet hs 12)) (hvN (hGet hs 13)) big (hvN (hGet hs 0)) (hvI (hGet hs 2))) (zt3 (hvI (hGet hs 1)) (hvLn (hGet hs 3)) (hvLn (hGet hs 4)) (hvLn (hGet hs 5)) (hvLn (hGet hs 6)) (hvN (hGet hs 7)) (hvN (hGet hs 8)) (hvN (hGet hs 9)) (hvN (hGet hs 10)) (hvI (hGet hs 11)) (hvN (hGet hs 12)) (hvN (hGet hs 13)) (z5z (hvI (hGet hs 1)) (hvLn (hGet hs 6)) (hvN (hGet hs 10)) (hvN (hGet hs 13)) big (hvN (hGet hs 0)) (hvI (hGet hs 2))) h1)⟩)
noncomputable def tb7 : List (Nat × (List PT → Option (Bool × AV × List Blk))) := [(125, z2f), (128, z0w), (134, z1i), (137, z2g), (18, z2o), (44, z2p), (48, z26), (54, z3f), (61, z2n), (63, z4f), (64, z42), (66, z43), (80, z28), (97, z3e), (104, z0s), (115, z01), (14, z35), (67, z1y), (92, z46), (103, z3k), (105, z34), (111, z3w), (114, z3j), (118, z1x), (122, z19), (37, z3y), (52, z2k), (72, z1r), (79, z1s), (93, z39), (119, z2j), (16, z3g), (36, z2b), (57, z31), (86, z30), (19, z3n), (33, z3p), (39, z48), (62, z4q), (69, z37), (99, z0f), (99, z0a), (30, z4b), (99, z0j), (117, z0d), (117, z0h), (117, z09)]
noncomputable def lt7 : List ((Nat × Nat) × (Nat → St → Option (Bool × LO))) := [((52, 3), z1d), ((72, 2), z10), ((79, 2), z11), ((57, 4), z1k), ((86, 3), z1j), ((62, 5), z3x), ((69, 4), z1u), ((99, 2), z05), ((99, 2), z03), ((99, 2), z0b), ((91, 6), z49)]
noncomputable def Γ7 : Ctx := ⟨tyTab, fnTab, tblSum tb7, tblLp lt7⟩
theorem tb7_ok : SumL Try.prog tb7 := SumL.cons z1g (SumL.cons z0l (SumL.cons z14 (SumL.cons z1h (SumL.cons z1p (SumL.cons z1q (SumL.cons z1f (SumL.cons z24 (SumL.cons z1o (SumL.cons z3r (SumL.cons z3a (SumL.cons z38 (SumL.cons z1e (SumL.cons z25 (SumL.cons z0k (SumL.cons z00 (SumL.cons z1z (SumL.cons z1c (SumL.cons z3h (SumL.cons z2a (SumL.cons z20 (SumL.cons z32 (SumL.cons z2c (SumL.cons z1b (SumL.cons z0z (SumL.cons z36 (SumL.cons z1v (SumL.cons z18 (SumL.cons z17 (SumL.cons z27 (SumL.cons z1t (SumL.cons z2e (SumL.cons z1l (SumL.cons z23 (SumL.cons z21 (SumL.cons z2q (SumL.cons z2m (SumL.cons z3o (SumL.cons z47 (SumL.cons z29 (SumL.cons z0e (SumL.cons z07 (SumL.cons z3u (SumL.cons z0i (SumL.cons z0c (SumL.cons z0g (SumL.cons z06 (SumL.nil)))))))))))))))))))))))))))))))))))))))))))))))
theorem lt7_ok : LpL Try.prog fnTab lt7 := LpL.cons z0y (LpL.cons z0r (LpL.cons z0q (LpL.cons z12 (LpL.cons z13 (LpL.cons z33 (LpL.cons z15 (LpL.cons z04 (LpL.cons z02 (LpL.cons z08 (LpL.cons z3s (LpL.nil)))))))))))
noncomputable def z4u : List PT → Option (Bool × AV × List Blk)
  | [.ptr [.row 1 q00 (.fl .f32 q03), .row 1 q01 (.fl .f32 q04), .row 1 q02 (.fl .f32 q05), .row 3 q06 (.fl .f32 q07), .s (.int .i64 q09), .s (.flt .f32 q0c), .s (.flt .f32 q0d)]] => some ((zlq q00 q03 q01 q04 q02 q05 q06 q07 q09 q0c q0d), ((AV.v (TV.one (At.bool (zla q00 q03 q01 q04 q02 q05 q06 q07 q09 q0c q0d)))), []))
  | _ => none
def zre (q00 : Nat) (q03 : List Nat) (q01 : Nat) (q04 : List Nat) (q02 : Nat) (q05 : List Nat) (q06 : Nat) (q07 : List Nat) (q09 : Int) (q0c : Nat) (q0d : Nat) : Option (Bool) → Option (AV × List Blk)
  | some r => some ((AV.v (TV.one (At.bool r))), [])
  | none => none
theorem ztj (q00 : Nat) (q03 : List Nat) (q01 : Nat) (q04 : List Nat) (q02 : Nat) (q05 : List Nat) (q06 : Nat) (q07 : List Nat) (q09 : Int) (q0c : Nat) (q0d : Nat) : evFn Γ7 8 8 91 (impTs 0 [.ptr [.row 1 q00 (.fl .f32 q03), .row 1 q01 (.fl .f32 q04), .row 1 q02 (.fl .f32 q05), .row 3 q06 (.fl .f32 q07), .s (.int .i64 q09), .s (.flt .f32 q0c), .s (.flt .f32 q0d)]]).1 (impTs 0 [.ptr [.row 1 q00 (.fl .f32 q03), .row 1 q01 (.fl .f32 q04), .row 1 q02 (.fl .f32 q05), .row 3 q06 (.fl .f32 q07), .s (.int .i64 q09), .s (.flt .f32 q0c), .s (.flt .f32 q0d)]]).2 (expo (impTs 0 [.ptr [.row 1 q00 (.fl .f32 q03), .row 1 q01 (.fl .f32 q04), .row 1 q02 (.fl .f32 q05), .row 3 q06 (.fl .f32 q07), .s (.int .i64 q09), .s (.flt .f32 q0c), .s (.flt .f32 q0d)]]).2.length) = zjy q00 q03 q01 q04 q02 q05 q06 q07 q09 q0c q0d (fun c0_ => some ((AV.v (TV.one (At.bool c0_))), [])) := by kernel_rfl
theorem z4h : SumOne Try.prog 91 z4u := sum_of (Γ := Γ7) (fuel := 8) (d := 8) tyTab_ok (FnL.ok fnTab_ok _ _) (LpL.ok lt7_ok) (SumL.ok tb7_ok _) mixed (by
  intro pts v news hp hc
  clear hc
  unfold z4u at hp
  split at hp
  · rename_i q00 q03 q01 q04 q02 q05 q06 q07 q09 q0c q0d
    exact Eq.trans (Eq.trans (ztj q00 q03 q01 q04 q02 q05 q06 q07 q09 q0c q0d) (zsa (zre q00 q03 q01 q04 q02 q05 q06 q07 q09 q0c q0d) rfl q00 q03 q01 q04 q02 q05 q06 q07 q09 q0c q0d (fun c0_ => some c0_))) (fin_out (o := (zre q00 q03 q01 q04 q02 q05 q06 q07 q09 q0c q0d)) (x := zk3 q00 q03 q01 q04 q02 q05 q06 q07 q09 q0c q0d) (d := default) (V := fun r => ((AV.v (TV.one (At.bool r))), [])) (fun r => rfl) hp)
  · cases hp)
noncomputable def z41 : List PT → Option (Bool × AV × List Blk)
  | [.one (.row 1 q28 (.fl .f32 q2u))] => some ((zl5 q28 q2u), ((AV.v (TV.one (At.bool (zjt q28 q2u)))), []))
  | _ => none
def znm (q28 : Nat) (q2u : List Nat) : Option (Bool) → Option (AV × List Blk)
  | some r => some ((AV.v (TV.one (At.bool r))), [])
  | none => none
theorem zsf (q28 : Nat) (q2u : List Nat) : evFn Γ7 8 8 95 (impTs 0 [.one (.row 1 q28 (.fl .f32 q2u))]).1 (impTs 0 [.one (.row 1 q28 (.fl .f32 q2u))]).2 (expo (impTs 0 [.one (.row 1 q28 (.fl .f32 q2u))]).2.length) = zdw q28 q2u (fun c0_ => some ((AV.v (TV.one (At.bool c0_))), [])) := by kernel_rfl
theorem z3m : SumOne Try.prog 95 z41 := sum_of (Γ := Γ7) (fuel := 8) (d := 8) tyTab_ok (FnL.ok fnTab_ok _ _) (LpL.ok lt7_ok) (SumL.ok tb7_ok _) mixed (by
  intro pts v news hp hc
  clear hc
  unfold z41 at hp
  split at hp
  · rename_i q28 q2u
    exact Eq.trans (Eq.trans (zsf q28 q2u) (zql (znm q28 q2u) rfl q28 q2u (fun c0_ => some c0_))) (fin_out (o := (znm q28 q2u)) (x := zdt q28 q2u) (d := default) (V := fun r => ((AV.v (TV.one (At.bool r))), [])) (fun r => rfl) hp)
  · cases hp)
noncomputable def z4a : List PT → Option (Bool × AV × List Blk)
  | [.one (.row 1 q28 (.fl .f32 q2u))] => some ((zle q28 q2u), ((AV.v (TV.one (At.bool (zl1 q28 q2u)))), []))
  | _ => none
def zoh (q28 : Nat) (q2u : List Nat) : Option (Bool) → Option (AV × List Blk)
  | some r => some ((AV.v (TV.one (At.bool r))), [])
  | none => none
theorem zst (q28 : Nat) (q2u : List Nat) : evFn Γ7 8 8 96 (impTs 0 [.one (.row 1 q28 (.fl .f32 q2u))]).1 (impTs 0 [.one (.row 1 q28 (.fl .f32 q2u))]).2 (expo (impTs 0 [.one (.row 1 q28 (.fl .f32 q2u))]).2.length) = zef q28 q2u (fun c0_ => some ((AV.v (TV.one (At.bool c0_))), [])) := by kernel_rfl
theorem z3v : SumOne Try.prog 96 z4a := sum_of (Γ := Γ7) (fuel := 8) (d := 8) tyTab_ok (FnL.ok fnTab_ok _ _) (LpL.ok lt7_ok) (SumL.ok tb7_ok _) mixed (by
  intro pts v news hp hc
  clear hc
  unfold z4a at hp
  split at hp
  · rename_i q28 q2u
    exact Eq.trans (Eq.trans (zst q28 q2u) (zqw (zoh q28 q2u) rfl q28 q2u (fun c0_ => some c0_))) (fin_out (o := (zoh q28 q2u)) (x := zei q28 q2u) (d := default) (V := fun r => ((AV.v (TV.one (At.bool r))), [])) (fun r => rfl) hp)
  · cases hp)
noncomputable def z3i : List PT → Option (Bool × AV × List Blk)
  | [.one (.row 1 q28 (.fl .f32 q2u))] => some ((ze7 q28 q2u), ((AV.v (TV.one (At.bool (zdn q28 q2u)))), []))
  | _ => none
def zmw (q28 : Nat) (q2u : List Nat) : Option (Bool) → Option (AV × List Blk)
  | some r => some ((AV.v (TV.one (At.bool r))), [])
  | none => none
theorem zrg (q28 : Nat) (q2u : List Nat) : evFn Γ7 8 8 112 (impTs 0 [.one (.row 1 q28 (.fl .f32 q2u))]).1 (impTs 0 [.one (.row 1 q28 (.fl .f32 q2u))]).2 (expo (impTs 0 [.one (.row 1 q28 (.fl .f32 q2u))]).2.length) = zc9 q28 q2u (fun c0_ => some ((AV.v (TV.one (At.bool c0_))), [])) := by kernel_rfl
theorem z2l : SumOne Try.prog 112 z3i := sum_of (Γ := Γ7) (fuel := 8) (d := 8) tyTab_ok (FnL.ok fnTab_ok _ _) (LpL.ok lt7_ok) (SumL.ok tb7_ok _) mixed (by
  intro pts v news hp hc
  clear hc
  unfold z3i at hp
  split at hp
  · rename_i q28 q2u
    exact Eq.trans (Eq.trans (zrg q28 q2u) (zos (zmw q28 q2u) rfl q28 q2u (fun c0_ => some c0_))) (fin_out (o := (zmw q28 q2u)) (x := za9 q28 q2u) (d := default) (V := fun r => ((AV.v (TV.one (At.bool r))), [])) (fun r => rfl) hp)
  · cases hp)
noncomputable def tb8 : List (Nat × (List PT → Option (Bool × AV × List Blk))) := [(125, z2f), (128, z0w), (134, z1i), (137, z2g), (18, z2o), (44, z2p), (48, z26), (54, z3f), (61, z2n), (63, z4f), (64, z42), (66, z43), (80, z28), (97, z3e), (104, z0s), (115, z01), (14, z35), (67, z1y), (92, z46), (103, z3k), (105, z34), (111, z3w), (114, z3j), (118, z1x), (122, z19), (37, z3y), (52, z2k), (72, z1r), (79, z1s), (93, z39), (119, z2j), (16, z3g), (36, z2b), (57, z31), (86, z30), (19, z3n), (33, z3p), (39, z48), (62, z4q), (69, z37), (99, z0f), (99, z0a), (30, z4b), (99, z0j), (117, z0d), (117, z0h), (117, z09), (91, z4u), (95, z41), (96, z4a), (112, z3i)]
noncomputable def lt8 : List ((Nat × Nat) × (Nat → St → Option (Bool × LO))) := [((52, 3), z1d), ((72, 2), z10), ((79, 2), z11), ((57, 4), z1k), ((86, 3), z1j), ((62, 5), z3x), ((69, 4), z1u), ((99, 2), z05), ((99, 2), z03), ((99, 2), z0b), ((91, 6), z49)]
noncomputable def Γ8 : Ctx := ⟨tyTab, fnTab, tblSum tb8, tblLp lt8⟩
theorem tb8_ok : SumL Try.prog tb8 := SumL.cons z1g (SumL.cons z0l (SumL.cons z14 (SumL.cons z1h (SumL.cons z1p (SumL.cons z1q (SumL.cons z1f (SumL.cons z24 (SumL.cons z1o (SumL.cons z3r (SumL.cons z3a (SumL.cons z38 (SumL.cons z1e (SumL.cons z25 (SumL.cons z0k (SumL.cons z00 (SumL.cons z1z (SumL.cons z1c (SumL.cons z3h (SumL.cons z2a (SumL.cons z20 (SumL.cons z32 (SumL.cons z2c (SumL.cons z1b (SumL.cons z0z (SumL.cons z36 (SumL.cons z1v (SumL.cons z18 (SumL.cons z17 (SumL.cons z27 (SumL.cons z1t (SumL.cons z2e (SumL.cons z1l (SumL.cons z23 (SumL.cons z21 (SumL.cons z2q (SumL.cons z2m (SumL.cons z3o (SumL.cons z47 (SumL.cons z29 (SumL.cons z0e (SumL.cons z07 (SumL.cons z3u (SumL.cons z0i (SumL.cons z0c (SumL.cons z0g (SumL.cons z06 (SumL.cons z4h (SumL.cons z3m (SumL.cons z3v (SumL.cons z2l (SumL.nil)))))))))))))))))))))))))))))))))))))))))))))))))))
theorem lt8_ok : LpL Try.prog fnTab lt8 := LpL.cons z0y (LpL.cons z0r (LpL.cons z0q (LpL.cons z12 (LpL.cons z13 (LpL.cons z33 (LpL.cons z15 (LpL.cons z04 (LpL.cons z02 (LpL.cons z08 (LpL.cons z3s (LpL.nil)))))))))))
noncomputable def tb9 : List (Nat × (List PT → Option (Bool × AV × List Blk))) := [(125, z2f), (128, z0w), (134, z1i), (137, z2g), (18, z2o), (44, z2p), (48, z26), (54, z3f), (61, z2n), (63, z4f), (64, z42), (66, z43), (80, z28), (97, z3e), (104, z0s), (115, z01), (14, z35), (67, z1y), (92, z46), (103, z3k), (105, z34), (111, z3w), (114, z3j), (118, z1x), (122, z19), (37, z3y), (52, z2k), (72, z1r), (79, z1s), (93, z39), (119, z2j), (16, z3g), (36, z2b), (57, z31), (86, z30), (19, z3n), (33, z3p), (39, z48), (62, z4q), (69, z37), (99, z0f), (99, z0a), (30, z4b), (99, z0j), (117, z0d), (117, z0h), (117, z09), (91, z4u), (95, z41), (96, z4a), (112, z3i)]
noncomputable def lt9 : List ((Nat × Nat) × (Nat → St → Option (Bool × LO))) := [((52, 3), z1d), ((72, 2), z10), ((79, 2), z11), ((57, 4), z1k), ((86, 3), z1j), ((62, 5), z3x), ((69, 4), z1u), ((99, 2), z05), ((99, 2), z03), ((99, 2), z0b), ((91, 6), z49)]
noncomputable def Γ9 : Ctx := ⟨tyTab, fnTab, tblSum tb9, tblLp lt9⟩
theorem tb9_ok : SumL Try.prog tb9 := SumL.cons z1g (SumL.cons z0l (SumL.cons z14 (SumL.cons z1h (SumL.cons z1p (SumL.cons z1q (SumL.cons z1f (SumL.cons z24 (SumL.cons z1o (SumL.cons z3r (SumL.cons z3a (SumL.cons z38 (SumL.cons z1e (SumL.cons z25 (SumL.cons z0k (SumL.cons z00 (SumL.cons z1z (SumL.cons z1c (SumL.cons z3h (SumL.cons z2a (SumL.cons z20 (SumL.cons z32 (SumL.cons z2c (SumL.cons z1b (SumL.cons z0z (SumL.cons z36 (SumL.cons z1v (SumL.cons z18 (SumL.cons z17 (SumL.cons z27 (SumL.cons z1t (SumL.cons z2e (SumL.cons z1l (SumL.cons z23 (SumL.cons z21 (SumL.cons z2q (SumL.cons z2m (SumL.cons z3o (SumL.cons z47 (SumL.cons z29 (SumL.cons z0e (SumL.cons z07 (SumL.cons z3u (SumL.cons z0i (SumL.cons z0c (SumL.cons z0g (SumL.cons z06 (SumL.cons z4h (SumL.cons z3m (SumL.cons z3v (SumL.cons z2l (SumL.nil)))))))))))))))))))))))))))))))))))))))))))))))))))
theorem lt9_ok : LpL Try.prog fnTab lt9 := LpL.cons z0y (LpL.cons z0r (LpL.cons z0q (LpL.cons z12 (LpL.cons z13 (LpL.cons z33 (LpL.cons z15 (LpL.cons z04 (LpL.cons z02 (LpL.cons z08 (LpL.cons z3s (LpL.nil)))))))))))
noncomputable def zlu (q3a : Nat) (t43 : Int) (t44 : Int) (b0 : List Nat) (b1 : List Nat) (b2 : List Nat) (q27 : Nat) (q2m : Nat) (q2n : Nat) : Bool × LO := ((z91 q3a t43 b0 q27 t44), (LO.two (z8c q3a t43 b0 q27 t44) (LO.one Ex.ret (St.mk [(2, (AV.v (TV.one (At.bool Bool.false))))] [(Blk.mk Bool.false (Body.fl FloatKind.f32 b0)), (Blk.mk Bool.false (Body.fl FloatKind.f32 b1)), (Blk.mk Bool.false (Body.fl FloatKind.f32 b2))])) (LO.one (Ex.exit 0) (St.mk [(1, (AV.v (TV.one (At.ptr 3 0 3)))), (42, (AV.v (TV.one (At.vw 0 0 q3a 1)))), (43, (AV.v (TV.one (At.int IntKind.i64 t43)))), (44, (AV.v (TV.one (At.int IntKind.i64 (zev q3a t43 b0 q27 t44))))), (45, (AV.v (TV.one (At.bool (zer q3a t43 b0 q27 t44)))))] [(Blk.mk Bool.false (Body.fl FloatKind.f32 b0)), (Blk.mk Bool.false (Body.fl FloatKind.f32 b1)), (Blk.mk Bool.false (Body.fl FloatKind.f32 b2)), (Blk.mk Bool.true (Body.cells [(At.vw 0 0 q27 1), (At.vw 1 0 q2m 1), (At.vw 2 0 q2n 1)]))]))))
noncomputable def z2h : Nat → St → Option (Bool × LO) := lpT 3 (pSt [(pTm 1 (pV (pOne (pPtr 3 (liN 0) 3)))), (pTm 42 (pV (pOne (pVw 0 (liN 0) 1)))), (pTm 43 (pV (pOne (pInt IntKind.i64)))), (pTm 44 (pV (pOne (pInt IntKind.i64))))] [(pBlk Bool.false (pFl FloatKind.f32)), (pBlk Bool.false (pFl FloatKind.f32)), (pBlk Bool.false (pFl FloatKind.f32)), (pBlk Bool.true (pCells [(pVw 0 (liN 0) 1), (pVw 1 (liN 0) 1), (pVw 2 (liN 0) 1)]))]) (fun hs => zlu (hvN (hGet hs 0)) (hvI (hGet hs 1)) (hvI (hGet hs 2)) (hvLn (hGet hs 3)) (hvLn (hGet hs 4)) (hvLn (hGet hs 5)) (hvN (hGet hs 6)) (hvN (hGet hs 7)) (hvN (hGet hs 8)))
def zb9 (q3a : Nat) (t43 : Int) (b0 : List Nat) (b1 : List Nat) (b2 : List Nat) (q27 : Nat) (q2m : Nat) (q2n : Nat) : Option ((Unit) ⊕ (Int × Bool)) → Option (Ex × St)
  | none => none
  | some (Sum.inl r) => some (Ex.ret, (St.mk [(2, (AV.v (TV.one (At.bool Bool.false))))] [(Blk.mk Bool.false (Body.fl FloatKind.f32 b0)), (Blk.mk Bool.false (Body.fl FloatKind.f32 b1)), (Blk.mk Bool.false (Body.fl FloatKind.f32 b2))]))
  | some (Sum.inr r) => some ((Ex.exit 0), (St.mk [(1, (AV.v (TV.one (At.ptr 3 0 3)))), (42, (AV.v (TV.one (At.vw 0 0 q3a 1)))), (43, (AV.v (TV.one (At.int IntKind.i64 t43)))), (44, (AV.v (TV.one (At.int IntKind.i64 r.1)))), (45, (AV.v (TV.one (At.bool r.2))))] [(Blk.mk Bool.false (Body.fl FloatKind.f32 b0)), (Blk.mk Bool.false (Body.fl FloatKind.f32 b1)), (Blk.mk Bool.false (Body.fl FloatKind.f32 b2)), (Blk.mk Bool.true (Body.cells [(At.vw 0 0 q27 1), (At.vw 1 0 q2m 1), (At.vw 2 0 q2n 1)]))]))
def zo6 (q3a : Nat) (t43 : Int) (b0 : List Nat) (b1 : List Nat) (b2 : List Nat) (q27 : Nat) (q2m : Nat) (q2n : Nat) (x : Option ((Unit) ⊕ (Int × Bool))) : LO := (LO.two (oL x) (LO.one Ex.ret (St.mk [(2, (AV.v (TV.one (At.bool Bool.false))))] [(Blk.mk Bool.false (Body.fl FloatKind.f32 b0)), (Blk.mk Bool.false (Body.fl FloatKind.f32 b1)), (Blk.mk Bool.false (Body.fl FloatKind.f32 b2))])) (LO.one (Ex.exit 0) (St.mk [(1, (AV.v (TV.one (At.ptr 3 0 3)))), (42, (AV.v (TV.one (At.vw 0 0 q3a 1)))), (43, (AV.v (TV.one (At.int IntKind.i64 t43)))), (44, (AV.v (TV.one (At.int IntKind.i64 ((tR x).getD default).1)))), (45, (AV.v (TV.one (At.bool ((tR x).getD default).2))))] [(Blk.mk Bool.false (Body.fl FloatKind.f32 b0)), (Blk.mk Bool.false (Body.fl FloatKind.f32 b1)), (Blk.mk Bool.false (Body.fl FloatKind.f32 b2)), (Blk.mk Bool.true (Body.cells [(At.vw 0 0 q27 1), (At.vw 1 0 q2m 1), (At.vw 2 0 q2n 1)]))])))
theorem zox (q3a : Nat) (t43 : Int) (b0 : List Nat) (b1 : List Nat) (b2 : List Nat) (q27 : Nat) (q2m : Nat) (q2n : Nat) : ∀ x : Option ((Unit) ⊕ (Int × Bool)), x.isSome = true → (zb9 q3a t43 b0 b1 b2 q27 q2m q2n) x = some (pick (zo6 q3a t43 b0 b1 b2 q27 q2m q2n x))
  | none, h => by cases h
  | some (Sum.inl r), _ => rfl
  | some (Sum.inr r), _ => rfl
theorem zon (q3a : Nat) (t43 : Int) (t44 : Int) (b0 : List Nat) (b1 : List Nat) (b2 : List Nat) (q27 : Nat) (q2m : Nat) (q2n : Nat) (K : Ex → St → Option (Ex × St)) : evC (R := Ex × St) Γ9 (evFn Γ9 8 8) 53 3 fi53.nt fi53.live fi53.nl 8 (findL 5 (loopsIn fi53.code)) (St.mk [(1, (AV.v (TV.one (At.ptr 3 0 3)))), (42, (AV.v (TV.one (At.vw 0 0 q3a 1)))), (43, (AV.v (TV.one (At.int IntKind.i64 t43)))), (44, (AV.v (TV.one (At.int IntKind.i64 t44))))] [(Blk.mk Bool.false (Body.fl FloatKind.f32 b0)), (Blk.mk Bool.false (Body.fl FloatKind.f32 b1)), (Blk.mk Bool.false (Body.fl FloatKind.f32 b2)), (Blk.mk Bool.true (Body.cells [(At.vw 0 0 q27 1), (At.vw 1 0 q2m 1), (At.vw 2 0 q2n 1)]))]) K = z6s q3a t43 b0 q27 t44 (fun t44' => K .normal (St.mk [(1, (AV.v (TV.one (At.ptr 3 0 3)))), (42, (AV.v (TV.one (At.vw 0 0 q3a 1)))), (43, (AV.v (TV.one (At.int IntKind.i64 t43)))), (44, (AV.v (TV.one (At.int IntKind.i64 t44'))))] [(Blk.mk Bool.false (Body.fl FloatKind.f32 b0)), (Blk.mk Bool.false (Body.fl FloatKind.f32 b1)), (Blk.mk Bool.false (Body.fl FloatKind.f32 b2)), (Blk.mk Bool.true (Body.cells [(At.vw 0 0 q27 1), (At.vw 1 0 q2m 1), (At.vw 2 0 q2n 1)]))])) (fun _ => K Ex.ret (St.mk [(2, (AV.v (TV.one (At.bool Bool.false))))] [(Blk.mk Bool.false (Body.fl FloatKind.f32 b0)), (Blk.mk Bool.false (Body.fl FloatKind.f32 b1)), (Blk.mk Bool.false (Body.fl FloatKind.f32 b2))])) (fun c0_ c1_ => K (Ex.exit 0) (St.mk [(1, (AV.v (TV.one (At.ptr 3 0 3)))), (42, (AV.v (TV.one (At.vw 0 0 q3a 1)))), (43, (AV.v (TV.one (At.int IntKind.i64 t43)))), (44, (AV.v (TV.one (At.int IntKind.i64 c0_)))), (45, (AV.v (TV.one (At.bool c1_))))] [(Blk.mk Bool.false (Body.fl FloatKind.f32 b0)), (Blk.mk Bool.false (Body.fl FloatKind.f32 b1)), (Blk.mk Bool.false (Body.fl FloatKind.f32 b2)), (Blk.mk Bool.true (Body.cells [(At.vw 0 0 q27 1), (At.vw 1 0 q2m 1), (At.vw 2 0 q2n 1)]))])) := by kernel_rfl
theorem zov (q3a : Nat) (t43 : Int) (b0 : List Nat) (b1 : List Nat) (b2 : List Nat) (q27 : Nat) (q2m : Nat) (q2n : Nat) : ∀ (n : Nat) (t44 : Int), iter 53 5 3 (evC (R := Ex × St) Γ9 (evFn Γ9 8 8) 53 3 fi53.nt fi53.live fi53.nl 8 (findL 5 (loopsIn fi53.code))) n (St.mk [(1, (AV.v (TV.one (At.ptr 3 0 3)))), (42, (AV.v (TV.one (At.vw 0 0 q3a 1)))), (43, (AV.v (TV.one (At.int IntKind.i64 t43)))), (44, (AV.v (TV.one (At.int IntKind.i64 t44))))] [(Blk.mk Bool.false (Body.fl FloatKind.f32 b0)), (Blk.mk Bool.false (Body.fl FloatKind.f32 b1)), (Blk.mk Bool.false (Body.fl FloatKind.f32 b2)), (Blk.mk Bool.true (Body.cells [(At.vw 0 0 q27 1), (At.vw 1 0 q2m 1), (At.vw 2 0 q2n 1)]))]) (fun e st => some (e, st)) = (zb9 q3a t43 b0 b1 b2 q27 q2m q2n) (z5c q3a t43 b0 q27 n t44) := by
  intro n
  induction n with
  | zero => intros; rfl
  | succ n ih =>
    intro t44
    refine Eq.trans (iter_succ ..) (Eq.trans (zon q3a t43 t44 b0 b1 b2 q27 q2m q2n (nextK 53 5 3 (evC (R := Ex × St) Γ9 (evFn Γ9 8 8) 53 3 fi53.nt fi53.live fi53.nl 8 (findL 5 (loopsIn fi53.code))) n (fun e st => some (e, st)))) (Eq.trans ?_ (zn1 (zb9 q3a t43 b0 b1 b2 q27 q2m q2n) rfl q3a t43 b0 q27 t44 (fun t44' => z5c q3a t43 b0 q27 n t44') (fun _ => some (Sum.inl ())) (fun c0_ c1_ => some (Sum.inr (c0_, c1_))))))
    exact congrArg (fun kn_ => z6s q3a t43 b0 q27 t44 kn_ (fun _ => (zb9 q3a t43 b0 b1 b2 q27 q2m q2n) (some (Sum.inl ()))) (fun c0_ c1_ => (zb9 q3a t43 b0 b1 b2 q27 q2m q2n) (some (Sum.inr (c0_, c1_))))) (funext fun t44' => ih t44')
theorem z1w : LoopOne Try.prog fnTab 53 5 z2h := lp_of (Γ := Γ9) tyTab_ok (FnL.ok fnTab_ok _ _) (LpL.ok lt9_ok) (SumL.ok tb9_ok _) mixed (fi := fi53) (by kernel_rfl) (by kernel_rfl) (by
  intro lo st out hp
  obtain ⟨hs, e1, e2, e3⟩ := lpT_inv hp
  clear hp
  obtain rfl : st = (St.mk [(1, (AV.v (TV.one (At.ptr 3 0 3)))), (42, (AV.v (TV.one (At.vw 0 0 (hvN (hGet hs 0)) 1)))), (43, (AV.v (TV.one (At.int IntKind.i64 (hvI (hGet hs 1)))))), (44, (AV.v (TV.one (At.int IntKind.i64 (hvI (hGet hs 2))))))] [(Blk.mk Bool.false (Body.fl FloatKind.f32 (hvLn (hGet hs 3)))), (Blk.mk Bool.false (Body.fl FloatKind.f32 (hvLn (hGet hs 4)))), (Blk.mk Bool.false (Body.fl FloatKind.f32 (hvLn (hGet hs 5)))), (Blk.mk Bool.true (Body.cells [(At.vw 0 0 (hvN (hGet hs 6)) 1), (At.vw 1 0 (hvN (hGet hs 7)) 1), (At.vw 2 0 (hvN (hGet hs 8)) 1)]))]) := e2.trans (by kernel_rfl)
  clear e2
  subst e1
  unfold zlu at e3
  injection e3 with h1 h2
  subst h2
  exact ⟨8, 8, big, Eq.trans (zov (hvN (hGet hs 0)) (hvI (hGet hs 1)) (hvLn (hGet hs 3)) (hvLn (hGet hs 4)) (hvLn (hGet hs 5)) (hvN (hGet hs 6)) (hvN (hGet hs 7)) (hvN (hGet hs 8)) big (hvI (hGet hs 2))) (zox (hvN (hGet hs 0)) (hvI (hGet hs 1)) (hvLn (hGet hs 3)) (hvLn (hGet hs 4)) (hvLn (hGet hs 5)) (hvN (hGet hs 6)) (hvN (hGet hs 7)) (hvN (hGet hs 8)) (z5c (hvN (hGet hs 0)) (hvI (hGet hs 1)) (hvLn (hGet hs 3)) (hvN (hGet hs 6)) big (hvI (hGet hs 2))) h1)⟩)
noncomputable def tb10 : List (Nat × (List PT → Option (Bool × AV × List Blk))) := [(125, z2f), (128, z0w), (134, z1i), (137, z2g), (18, z2o), (44, z2p), (48, z26), (54, z3f), (61, z2n), (63, z4f), (64, z42), (66, z43), (80, z28), (97, z3e), (104, z0s), (115, z01), (14, z35), (67, z1y), (92, z46), (103, z3k), (105, z34), (111, z3w), (114, z3j), (118, z1x), (122, z19), (37, z3y), (52, z2k), (72, z1r), (79, z1s), (93, z39), (119, z2j), (16, z3g), (36, z2b), (57, z31), (86, z30), (19, z3n), (33, z3p), (39, z48), (62, z4q), (69, z37), (99, z0f), (99, z0a), (30, z4b), (99, z0j), (117, z0d), (117, z0h), (117, z09), (91, z4u), (95, z41), (96, z4a), (112, z3i)]
noncomputable def lt10 : List ((Nat × Nat) × (Nat → St → Option (Bool × LO))) := [((52, 3), z1d), ((72, 2), z10), ((79, 2), z11), ((57, 4), z1k), ((86, 3), z1j), ((62, 5), z3x), ((69, 4), z1u), ((99, 2), z05), ((99, 2), z03), ((99, 2), z0b), ((91, 6), z49), ((53, 5), z2h)]
noncomputable def Γ10 : Ctx := ⟨tyTab, fnTab, tblSum tb10, tblLp lt10⟩
theorem tb10_ok : SumL Try.prog tb10 := SumL.cons z1g (SumL.cons z0l (SumL.cons z14 (SumL.cons z1h (SumL.cons z1p (SumL.cons z1q (SumL.cons z1f (SumL.cons z24 (SumL.cons z1o (SumL.cons z3r (SumL.cons z3a (SumL.cons z38 (SumL.cons z1e (SumL.cons z25 (SumL.cons z0k (SumL.cons z00 (SumL.cons z1z (SumL.cons z1c (SumL.cons z3h (SumL.cons z2a (SumL.cons z20 (SumL.cons z32 (SumL.cons z2c (SumL.cons z1b (SumL.cons z0z (SumL.cons z36 (SumL.cons z1v (SumL.cons z18 (SumL.cons z17 (SumL.cons z27 (SumL.cons z1t (SumL.cons z2e (SumL.cons z1l (SumL.cons z23 (SumL.cons z21 (SumL.cons z2q (SumL.cons z2m (SumL.cons z3o (SumL.cons z47 (SumL.cons z29 (SumL.cons z0e (SumL.cons z07 (SumL.cons z3u (SumL.cons z0i (SumL.cons z0c (SumL.cons z0g (SumL.cons z06 (SumL.cons z4h (SumL.cons z3m (SumL.cons z3v (SumL.cons z2l (SumL.nil)))))))))))))))))))))))))))))))))))))))))))))))))))
theorem lt10_ok : LpL Try.prog fnTab lt10 := LpL.cons z0y (LpL.cons z0r (LpL.cons z0q (LpL.cons z12 (LpL.cons z13 (LpL.cons z33 (LpL.cons z15 (LpL.cons z04 (LpL.cons z02 (LpL.cons z08 (LpL.cons z3s (LpL.cons z1w (LpL.nil))))))))))))
noncomputable def z3t : List PT → Option (Bool × AV × List Blk)
  | [.agg [.row 1 q10 (.fl .f32 q1n), .row 1 q1a (.fl .f32 q1s), .row 1 q19 (.fl .f32 q1t)]] => some ((zfu q10 q1n q1a q1s q19 q1t), ((AV.v (TV.one (At.bool (zeu q10 q1n q1a q1s q19 q1t)))), []))
  | _ => none
def zmo (q10 : Nat) (q1n : List Nat) (q1a : Nat) (q1s : List Nat) (q19 : Nat) (q1t : List Nat) : Option (Bool) → Option (AV × List Blk)
  | some r => some ((AV.v (TV.one (At.bool r))), [])
  | none => none
theorem zqv (q10 : Nat) (q1n : List Nat) (q1a : Nat) (q1s : List Nat) (q19 : Nat) (q1t : List Nat) : evFn Γ10 8 8 53 (impTs 0 [.agg [.row 1 q10 (.fl .f32 q1n), .row 1 q1a (.fl .f32 q1s), .row 1 q19 (.fl .f32 q1t)]]).1 (impTs 0 [.agg [.row 1 q10 (.fl .f32 q1n), .row 1 q1a (.fl .f32 q1s), .row 1 q19 (.fl .f32 q1t)]]).2 (expo (impTs 0 [.agg [.row 1 q10 (.fl .f32 q1n), .row 1 q1a (.fl .f32 q1s), .row 1 q19 (.fl .f32 q1t)]]).2.length) = zb4 q10 q1n q1a q1s q19 q1t (fun c0_ => some ((AV.v (TV.one (At.bool c0_))), [])) := by kernel_rfl
theorem z3d : SumOne Try.prog 53 z3t := sum_of (Γ := Γ10) (fuel := 8) (d := 8) tyTab_ok (FnL.ok fnTab_ok _ _) (LpL.ok lt10_ok) (SumL.ok tb10_ok _) mixed (by
  intro pts v news hp hc
  clear hc
  unfold z3t at hp
  split at hp
  · rename_i q10 q1n q1a q1s q19 q1t
    exact Eq.trans (Eq.trans (zqv q10 q1n q1a q1s q19 q1t) (zoa (zmo q10 q1n q1a q1s q19 q1t) rfl q10 q1n q1a q1s q19 q1t (fun c0_ => some c0_))) (fin_out (o := (zmo q10 q1n q1a q1s q19 q1t)) (x := zb2 q10 q1n q1a q1s q19 q1t) (d := default) (V := fun r => ((AV.v (TV.one (At.bool r))), [])) (fun r => rfl) hp)
  · cases hp)
noncomputable def zma (by_ : Nat) (t14 : Int) (t15 : Int) (b0 : List Nat) (b1 : List Nat) (b2 : List Nat) (b3 : List Nat) (q13 : Nat) (q12 : Nat) (q14 : Nat) (q0w : Nat) (q1d : Int) (q1e : Nat) (q0y : Nat) (q1u : Int) (q1w : Nat) (q1z : Nat) (q3k : Nat) (q3j : Nat) (q3l : Nat) (q36 : Nat) (q3m : Int) (q3o : Nat) (q3n : Nat) (b7 : List Nat) (b8 : List Nat) (b9 : List Nat) (b10 : List Nat) : Bool × LO := ((zez by_ t14 b3 q0w q36 t15 b10), (LO.one (Ex.exit 0) (St.mk [(1, (AV.v (TV.one (At.flt FloatKind.f32 by_)))), (2, (AV.v (TV.one (At.ptr 4 0 7)))), (4, (AV.v (TV.one (At.ptr 5 0 7)))), (6, (AV.v (TV.one (At.ptr 6 0 7)))), (14, (AV.v (TV.one (At.int IntKind.i64 t14)))), (15, (AV.v (TV.one (At.int IntKind.i64 (zgf by_ t14 b3 q0w q36 t15 b10))))), (16, (AV.v (TV.one (At.bool (zgi by_ t14 b3 q0w q36 t15 b10)))))] [(Blk.mk Bool.false (Body.fl FloatKind.f32 b0)), (Blk.mk Bool.false (Body.fl FloatKind.f32 b1)), (Blk.mk Bool.false (Body.fl FloatKind.f32 b2)), (Blk.mk Bool.false (Body.fl FloatKind.f32 b3)), (Blk.mk Bool.true (Body.cells [(At.vw 0 0 q13 1), (At.vw 1 0 q12 1), (At.vw 2 0 q14 1), (At.vw 3 0 q0w 3), (At.int IntKind.i64 q1d), (At.flt FloatKind.f32 q1e), (At.flt FloatKind.f32 q0y)])), (Blk.mk Bool.true (Body.cells [At.nilsl, At.nilsl, At.nilsl, At.nilsl, (At.int IntKind.i64 q1u), (At.flt FloatKind.f32 q1w), (At.flt FloatKind.f32 q1z)])), (Blk.mk Bool.true (Body.cells [(At.sl 7 0 q3k 1), (At.sl 8 0 q3j 1), (At.sl 9 0 q3l 1), (At.sl 10 0 q36 3), (At.int IntKind.i64 q3m), (At.flt FloatKind.f32 q3o), (At.flt FloatKind.f32 q3n)])), (Blk.mk Bool.true (Body.fl FloatKind.f32 b7)), (Blk.mk Bool.true (Body.fl FloatKind.f32 b8)), (Blk.mk Bool.true (Body.fl FloatKind.f32 b9)), (Blk.mk Bool.true (Body.fl FloatKind.f32 (z9f by_ t14 b3 q0w q36 t15 b10)))])))
noncomputable def z3q : Nat → St → Option (Bool × LO) := lpT 4 (pSt [(pTm 1 (pV (pOne (pFlt FloatKind.f32)))), (pTm 2 (pV (pOne (pPtr 4 (liN 0) 7)))), (pTm 4 (pV (pOne (pPtr 5 (liN 0) 7)))), (pTm 6 (pV (pOne (pPtr 6 (liN 0) 7)))), (pTm 14 (pV (pOne (pInt IntKind.i64)))), (pTm 15 (pV (pOne (pInt IntKind.i64))))] [(pBlk Bool.false (pFl FloatKind.f32)), (pBlk Bool.false (pFl FloatKind.f32)), (pBlk Bool.false (pFl FloatKind.f32)), (pBlk Bool.false (pFl FloatKind.f32)), (pBlk Bool.true (pCells [(pVw 0 (liN 0) 1), (pVw 1 (liN 0) 1), (pVw 2 (liN 0) 1), (pVw 3 (liN 0) 3), (pInt IntKind.i64), (pFlt FloatKind.f32), (pFlt FloatKind.f32)])), (pBlk Bool.true (pCells [pNil, pNil, pNil, pNil, (pInt IntKind.i64), (pFlt FloatKind.f32), (pFlt FloatKind.f32)])), (pBlk Bool.true (pCells [(pSl 7 (liN 0) 1), (pSl 8 (liN 0) 1), (pSl 9 (liN 0) 1), (pSl 10 (liN 0) 3), (pInt IntKind.i64), (pFlt FloatKind.f32), (pFlt FloatKind.f32)])), (pBlk Bool.true (pFl FloatKind.f32)), (pBlk Bool.true (pFl FloatKind.f32)), (pBlk Bool.true (pFl FloatKind.f32)), (pBlk Bool.true (pFl FloatKind.f32))]) (fun hs => zma (hvN (hGet hs 0)) (hvI (hGet hs 1)) (hvI (hGet hs 2)) (hvLn (hGet hs 3)) (hvLn (hGet hs 4)) (hvLn (hGet hs 5)) (hvLn (hGet hs 6)) (hvN (hGet hs 7)) (hvN (hGet hs 8)) (hvN (hGet hs 9)) (hvN (hGet hs 10)) (hvI (hGet hs 11)) (hvN (hGet hs 12)) (hvN (hGet hs 13)) (hvI (hGet hs 14)) (hvN (hGet hs 15)) (hvN (hGet hs 16)) (hvN (hGet hs 17)) (hvN (hGet hs 18)) (hvN (hGet hs 19)) (hvN (hGet hs 20)) (hvI (hGet hs 21)) (hvN (hGet hs 22)) (hvN (hGet hs 23)) (hvLn (hGet hs 24)) (hvLn (hGet hs 25)) (hvLn (hGet hs 26)) (hvLn (hGet hs 27)))
def zey (by_ : Nat) (t14 : Int) (b0 : List Nat) (b1 : List Nat) (b2 : List Nat) (b3 : List Nat) (q13 : Nat) (q12 : Nat) (q14 : Nat) (q0w : Nat) (q1d : Int) (q1e : Nat) (q0y : Nat) (q1u : Int) (q1w : Nat) (q1z : Nat) (q3k : Nat) (q3j : Nat) (q3l : Nat) (q36 : Nat) (q3m : Int) (q3o : Nat) (q3n : Nat) (b7 : List Nat) (b8 : List Nat) (b9 : List Nat) : Option ((Int × Bool × (List Nat))) → Option (Ex × St)
  | none => none
  | some r => some ((Ex.exit 0), (St.mk [(1, (AV.v (TV.one (At.flt FloatKind.f32 by_)))), (2, (AV.v (TV.one (At.ptr 4 0 7)))), (4, (AV.v (TV.one (At.ptr 5 0 7)))), (6, (AV.v (TV.one (At.ptr 6 0 7)))), (14, (AV.v (TV.one (At.int IntKind.i64 t14)))), (15, (AV.v (TV.one (At.int IntKind.i64 r.1)))), (16, (AV.v (TV.one (At.bool r.2.1))))] [(Blk.mk Bool.false (Body.fl FloatKind.f32 b0)), (Blk.mk Bool.false (Body.fl FloatKind.f32 b1)), (Blk.mk Bool.false (Body.fl FloatKind.f32 b2)), (Blk.mk Bool.false (Body.fl FloatKind.f32 b3)), (Blk.mk Bool.true (Body.cells [(At.vw 0 0 q13 1), (At.vw 1 0 q12 1), (At.vw 2 0 q14 1), (At.vw 3 0 q0w 3), (At.int IntKind.i64 q1d), (At.flt FloatKind.f32 q1e), (At.flt FloatKind.f32 q0y)])), (Blk.mk Bool.true (Body.cells [At.nilsl, At.nilsl, At.nilsl, At.nilsl, (At.int IntKind.i64 q1u), (At.flt FloatKind.f32 q1w), (At.flt FloatKind.f32 q1z)])), (Blk.mk Bool.true (Body.cells [(At.sl 7 0 q3k 1), (At.sl 8 0 q3j 1), (At.sl 9 0 q3l 1), (At.sl 10 0 q36 3), (At.int IntKind.i64 q3m), (At.flt FloatKind.f32 q3o), (At.flt FloatKind.f32 q3n)])), (Blk.mk Bool.true (Body.fl FloatKind.f32 b7)), (Blk.mk Bool.true (Body.fl FloatKind.f32 b8)), (Blk.mk Bool.true (Body.fl FloatKind.f32 b9)), (Blk.mk Bool.true (Body.fl FloatKind.f32 r.2.2))]))
def zpb (by_ : Nat) (t14 : Int) (b0 : List Nat) (b1 : List Nat) (b2 : List Nat) (b3 : List Nat) (q13 : Nat) (q12 : Nat) (q14 : Nat) (q0w : Nat) (q1d : Int) (q1e : Nat) (q0y : Nat) (q1u : Int) (q1w : Nat) (q1z : Nat) (q3k : Nat) (q3j : Nat) (q3l : Nat) (q36 : Nat) (q3m : Int) (q3o : Nat) (q3n : Nat) (b7 : List Nat) (b8 : List Nat) (b9 : List Nat) (x : Option ((Int × Bool × (List Nat)))) : LO := (LO.one (Ex.exit 0) (St.mk [(1, (AV.v (TV.one (At.flt FloatKind.f32 by_)))), (2, (AV.v (TV.one (At.ptr 4 0 7)))), (4, (AV.v (TV.one (At.ptr 5 0 7)))), (6, (AV.v (TV.one (At.ptr 6 0 7)))), (14, (AV.v (TV.one (At.int IntKind.i64 t14)))), (15, (AV.v (TV.one (At.int IntKind.i64 (x.getD default).1)))), (16, (AV.v (TV.one (At.bool (x.getD default).2.1))))] [(Blk.mk Bool.false (Body.fl FloatKind.f32 b0)), (Blk.mk Bool.false (Body.fl FloatKind.f32 b1)), (Blk.mk Bool.false (Body.fl FloatKind.f32 b2)), (Blk.mk Bool.false (Body.fl FloatKind.f32 b3)), (Blk.mk Bool.true (Body.cells [(At.vw 0 0 q13 1), (At.vw 1 0 q12 1), (At.vw 2 0 q14 1), (At.vw 3 0 q0w 3), (At.int IntKind.i64 q1d), (At.flt FloatKind.f32 q1e), (At.flt FloatKind.f32 q0y)])), (Blk.mk Bool.true (Body.cells [At.nilsl, At.nilsl, At.nilsl, At.nilsl, (At.int IntKind.i64 q1u), (At.flt FloatKind.f32 q1w), (At.flt FloatKind.f32 q1z)])), (Blk.mk Bool.true (Body.cells [(At.sl 7 0 q3k 1), (At.sl 8 0 q3j 1), (At.sl 9 0 q3l 1), (At.sl 10 0 q36 3), (At.int IntKind.i64 q3m), (At.flt FloatKind.f32 q3o), (At.flt FloatKind.f32 q3n)])), (Blk.mk Bool.true (Body.fl FloatKind.f32 b7)), (Blk.mk Bool.true (Body.fl FloatKind.f32 b8)), (Blk.mk Bool.true (Body.fl FloatKind.f32 b9)), (Blk.mk Bool.true (Body.fl FloatKind.f32 (x.getD default).2.2))]))
theorem zqh (by_ : Nat) (t14 : Int) (b0 : List Nat) (b1 : List Nat) (b2 : List Nat) (b3 : List Nat) (q13 : Nat) (q12 : Nat) (q14 : Nat) (q0w : Nat) (q1d : Int) (q1e : Nat) (q0y : Nat) (q1u : Int) (q1w : Nat) (q1z : Nat) (q3k : Nat) (q3j : Nat) (q3l : Nat) (q36 : Nat) (q3m : Int) (q3o : Nat) (q3n : Nat) (b7 : List Nat) (b8 : List Nat) (b9 : List Nat) : ∀ x : Option ((Int × Bool × (List Nat))), x.isSome = true → (zey by_ t14 b0 b1 b2 b3 q13 q12 q14 q0w q1d q1e q0y q1u q1w q1z q3k q3j q3l q36 q3m q3o q3n b7 b8 b9) x = some (pick (zpb by_ t14 b0 b1 b2 b3 q13 q12 q14 q0w q1d q1e q0y q1u q1w q1z q3k q3j q3l q36 q3m q3o q3n b7 b8 b9 x))
  | none, h => by cases h
  | some r, _ => rfl
theorem zqo (by_ : Nat) (t14 : Int) (t15 : Int) (b0 : List Nat) (b1 : List Nat) (b2 : List Nat) (b3 : List Nat) (q13 : Nat) (q12 : Nat) (q14 : Nat) (q0w : Nat) (q1d : Int) (q1e : Nat) (q0y : Nat) (q1u : Int) (q1w : Nat) (q1z : Nat) (q3k : Nat) (q3j : Nat) (q3l : Nat) (q36 : Nat) (q3m : Int) (q3o : Nat) (q3n : Nat) (b7 : List Nat) (b8 : List Nat) (b9 : List Nat) (b10 : List Nat) (K : Ex → St → Option (Ex × St)) : evC (R := Ex × St) Γ10 (evFn Γ10 8 8) 46 4 fi46.nt fi46.live fi46.nl 8 (findL 5 (loopsIn fi46.code)) (St.mk [(1, (AV.v (TV.one (At.flt FloatKind.f32 by_)))), (2, (AV.v (TV.one (At.ptr 4 0 7)))), (4, (AV.v (TV.one (At.ptr 5 0 7)))), (6, (AV.v (TV.one (At.ptr 6 0 7)))), (14, (AV.v (TV.one (At.int IntKind.i64 t14)))), (15, (AV.v (TV.one (At.int IntKind.i64 t15))))] [(Blk.mk Bool.false (Body.fl FloatKind.f32 b0)), (Blk.mk Bool.false (Body.fl FloatKind.f32 b1)), (Blk.mk Bool.false (Body.fl FloatKind.f32 b2)), (Blk.mk Bool.false (Body.fl FloatKind.f32 b3)), (Blk.mk Bool.true (Body.cells [(At.vw 0 0 q13 1), (At.vw 1 0 q12 1), (At.vw 2 0 q14 1), (At.vw 3 0 q0w 3), (At.int IntKind.i64 q1d), (At.flt FloatKind.f32 q1e), (At.flt FloatKind.f32 q0y)])), (Blk.mk Bool.true (Body.cells [At.nilsl, At.nilsl, At.nilsl, At.nilsl, (At.int IntKind.i64 q1u), (At.flt FloatKind.f32 q1w), (At.flt FloatKind.f32 q1z)])), (Blk.mk Bool.true (Body.cells [(At.sl 7 0 q3k 1), (At.sl 8 0 q3j 1), (At.sl 9 0 q3l 1), (At.sl 10 0 q36 3), (At.int IntKind.i64 q3m), (At.flt FloatKind.f32 q3o), (At.flt FloatKind.f32 q3n)])), (Blk.mk Bool.true (Body.fl FloatKind.f32 b7)), (Blk.mk Bool.true (Body.fl FloatKind.f32 b8)), (Blk.mk Bool.true (Body.fl FloatKind.f32 b9)), (Blk.mk Bool.true (Body.fl FloatKind.f32 b10))]) K = z7r by_ t14 b3 q0w q36 t15 b10 (fun t15' b10' => K .normal (St.mk [(1, (AV.v (TV.one (At.flt FloatKind.f32 by_)))), (2, (AV.v (TV.one (At.ptr 4 0 7)))), (4, (AV.v (TV.one (At.ptr 5 0 7)))), (6, (AV.v (TV.one (At.ptr 6 0 7)))), (14, (AV.v (TV.one (At.int IntKind.i64 t14)))), (15, (AV.v (TV.one (At.int IntKind.i64 t15'))))] [(Blk.mk Bool.false (Body.fl FloatKind.f32 b0)), (Blk.mk Bool.false (Body.fl FloatKind.f32 b1)), (Blk.mk Bool.false (Body.fl FloatKind.f32 b2)), (Blk.mk Bool.false (Body.fl FloatKind.f32 b3)), (Blk.mk Bool.true (Body.cells [(At.vw 0 0 q13 1), (At.vw 1 0 q12 1), (At.vw 2 0 q14 1), (At.vw 3 0 q0w 3), (At.int IntKind.i64 q1d), (At.flt FloatKind.f32 q1e), (At.flt FloatKind.f32 q0y)])), (Blk.mk Bool.true (Body.cells [At.nilsl, At.nilsl, At.nilsl, At.nilsl, (At.int IntKind.i64 q1u), (At.flt FloatKind.f32 q1w), (At.flt FloatKind.f32 q1z)])), (Blk.mk Bool.true (Body.cells [(At.sl 7 0 q3k 1), (At.sl 8 0 q3j 1), (At.sl 9 0 q3l 1), (At.sl 10 0 q36 3), (At.int IntKind.i64 q3m), (At.flt FloatKind.f32 q3o), (At.flt FloatKind.f32 q3n)])), (Blk.mk Bool.true (Body.fl FloatKind.f32 b7)), (Blk.mk Bool.true (Body.fl FloatKind.f32 b8)), (Blk.mk Bool.true (Body.fl FloatKind.f32 b9)), (Blk.mk Bool.true (Body.fl FloatKind.f32 b10'))])) (fun c0_ c1_ c2_ => K (Ex.exit 0) (St.mk [(1, (AV.v (TV.one (At.flt FloatKind.f32 by_)))), (2, (AV.v (TV.one (At.ptr 4 0 7)))), (4, (AV.v (TV.one (At.ptr 5 0 7)))), (6, (AV.v (TV.one (At.ptr 6 0 7)))), (14, (AV.v (TV.one (At.int IntKind.i64 t14)))), (15, (AV.v (TV.one (At.int IntKind.i64 c0_)))), (16, (AV.v (TV.one (At.bool c1_))))] [(Blk.mk Bool.false (Body.fl FloatKind.f32 b0)), (Blk.mk Bool.false (Body.fl FloatKind.f32 b1)), (Blk.mk Bool.false (Body.fl FloatKind.f32 b2)), (Blk.mk Bool.false (Body.fl FloatKind.f32 b3)), (Blk.mk Bool.true (Body.cells [(At.vw 0 0 q13 1), (At.vw 1 0 q12 1), (At.vw 2 0 q14 1), (At.vw 3 0 q0w 3), (At.int IntKind.i64 q1d), (At.flt FloatKind.f32 q1e), (At.flt FloatKind.f32 q0y)])), (Blk.mk Bool.true (Body.cells [At.nilsl, At.nilsl, At.nilsl, At.nilsl, (At.int IntKind.i64 q1u), (At.flt FloatKind.f32 q1w), (At.flt FloatKind.f32 q1z)])), (Blk.mk Bool.true (Body.cells [(At.sl 7 0 q3k 1), (At.sl 8 0 q3j 1), (At.sl 9 0 q3l 1), (At.sl 10 0 q36 3), (At.int IntKind.i64 q3m), (At.flt FloatKind.f32 q3o), (At.flt FloatKind.f32 q3n)])), (Blk.mk Bool.true (Body.fl FloatKind.f32 b7)), (Blk.mk Bool.true (Body.fl FloatKind.f32 b8)), (Blk.mk Bool.true (Body.fl FloatKind.f32 b9)), (Blk.mk Bool.true (Body.fl FloatKind.f32 c2_))])) := by kernel_rfl
theorem zq1 (by_ : Nat) (t14 : Int) (b0 : List Nat) (b1 : List Nat) (b2 : List Nat) (b3 : List Nat) (q13 : Nat) (q12 : Nat) (q14 : Nat) (q0w : Nat) (q1d : Int) (q1e : Nat) (q0y : Nat) (q1u : Int) (q1w : Nat) (q1z : Nat) (q3k : Nat) (q3j : Nat) (q3l : Nat) (q36 : Nat) (q3m : Int) (q3o : Nat) (q3n : Nat) (b7 : List Nat) (b8 : List Nat) (b9 : List Nat) : ∀ (n : Nat) (t15 : Int) (b10 : List Nat), iter 46 5 4 (evC (R := Ex × St) Γ10 (evFn Γ10 8 8) 46 4 fi46.nt fi46.live fi46.nl 8 (findL 5 (loopsIn fi46.code))) n (St.mk [(1, (AV.v (TV.one (At.flt FloatKind.f32 by_)))), (2, (AV.v (TV.one (At.ptr 4 0 7)))), (4, (AV.v (TV.one (At.ptr 5 0 7)))), (6, (AV.v (TV.one (At.ptr 6 0 7)))), (14, (AV.v (TV.one (At.int IntKind.i64 t14)))), (15, (AV.v (TV.one (At.int IntKind.i64 t15))))] [(Blk.mk Bool.false (Body.fl FloatKind.f32 b0)), (Blk.mk Bool.false (Body.fl FloatKind.f32 b1)), (Blk.mk Bool.false (Body.fl FloatKind.f32 b2)), (Blk.mk Bool.false (Body.fl FloatKind.f32 b3)), (Blk.mk Bool.true (Body.cells [(At.vw 0 0 q13 1), (At.vw 1 0 q12 1), (At.vw 2 0 q14 1), (At.vw 3 0 q0w 3), (At.int IntKind.i64 q1d), (At.flt FloatKind.f32 q1e), (At.flt FloatKind.f32 q0y)])), (Blk.mk Bool.true (Body.cells [At.nilsl, At.nilsl, At.nilsl, At.nilsl, (At.int IntKind.i64 q1u), (At.flt FloatKind.f32 q1w), (At.flt FloatKind.f32 q1z)])), (Blk.mk Bool.true (Body.cells [(At.sl 7 0 q3k 1), (At.sl 8 0 q3j 1), (At.sl 9 0 q3l 1), (At.sl 10 0 q36 3), (At.int IntKind.i64 q3m), (At.flt FloatKind.f32 q3o), (At.flt FloatKind.f32 q3n)])), (Blk.mk Bool.true (Body.fl FloatKind.f32 b7)), (Blk.mk Bool.true (Body.fl FloatKind.f32 b8)), (Blk.mk Bool.true (Body.fl FloatKind.f32 b9)), (Blk.mk Bool.true (Body.fl FloatKind.f32 b10))]) (fun e st => some (e, st)) = (zey by_ t14 b0 b1 b2 b3 q13 q12 q14 q0w q1d q1e q0y q1u q1w q1z q3k q3j q3l q36 q3m q3o q3n b7 b8 b9) (z53 by_ t14 b3 q0w q36 n t15 b10) := by
  intro n
  induction n with
  | zero => intros; rfl
  | succ n ih =>
    intro t15 b10
    refine Eq.trans (iter_succ ..) (Eq.trans (zqo by_ t14 t15 b0 b1 b2 b3 q13 q12 q14 q0w q1d q1e q0y q1u q1w q1z q3k q3j q3l q36 q3m q3o q3n b7 b8 b9 b10 (nextK 46 5 4 (evC (R := Ex × St) Γ10 (evFn Γ10 8 8) 46 4 fi46.nt fi46.live fi46.nl 8 (findL 5 (loopsIn fi46.code))) n (fun e st => some (e, st)))) (Eq.trans ?_ (znl (zey by_ t14 b0 b1 b2 b3 q13 q12 q14 q0w q1d q1e q0y q1u q1w q1z q3k q3j q3l q36 q3m q3o q3n b7 b8 b9) rfl by_ t14 b3 q0w q36 t15 b10 (fun t15' b10' => z53 by_ t14 b3 q0w q36 n t15' b10') (fun c0_ c1_ c2_ => some (c0_, c1_, c2_)))))
    exact congrArg (fun kn_ => z7r by_ t14 b3 q0w q36 t15 b10 kn_ (fun c0_ c1_ c2_ => (zey by_ t14 b0 b1 b2 b3 q13 q12 q14 q0w q1d q1e q0y q1u q1w q1z q3k q3j q3l q36 q3m q3o q3n b7 b8 b9) (some (c0_, c1_, c2_)))) (funext fun t15' => funext fun b10' => ih t15' b10')
theorem z2y : LoopOne Try.prog fnTab 46 5 z3q := lp_of (Γ := Γ10) tyTab_ok (FnL.ok fnTab_ok _ _) (LpL.ok lt10_ok) (SumL.ok tb10_ok _) mixed (fi := fi46) (by kernel_rfl) (by kernel_rfl) (by
  intro lo st out hp
  obtain ⟨hs, e1, e2, e3⟩ := lpT_inv hp
  clear hp
  obtain rfl : st = (St.mk [(1, (AV.v (TV.one (At.flt FloatKind.f32 (hvN (hGet hs 0)))))), (2, (AV.v (TV.one (At.ptr 4 0 7)))), (4, (AV.v (TV.one (At.ptr 5 0 7)))), (6, (AV.v (TV.one (At.ptr 6 0 7)))), (14, (AV.v (TV.one (At.int IntKind.i64 (hvI (hGet hs 1)))))), (15, (AV.v (TV.one (At.int IntKind.i64 (hvI (hGet hs 2))))))] [(Blk.mk Bool.false (Body.fl FloatKind.f32 (hvLn (hGet hs 3)))), (Blk.mk Bool.false (Body.fl FloatKind.f32 (hvLn (hGet hs 4)))), (Blk.mk Bool.false (Body.fl FloatKind.f32 (hvLn (hGet hs 5)))), (Blk.mk Bool.false (Body.fl FloatKind.f32 (hvLn (hGet hs 6)))), (Blk.mk Bool.true (Body.cells [(At.vw 0 0 (hvN (hGet hs 7)) 1), (At.vw 1 0 (hvN (hGet hs 8)) 1), (At.vw 2 0 (hvN (hGet hs 9)) 1), (At.vw 3 0 (hvN (hGet hs 10)) 3), (At.int IntKind.i64 (hvI (hGet hs 11))), (At.flt FloatKind.f32 (hvN (hGet hs 12))), (At.flt FloatKind.f32 (hvN (hGet hs 13)))])), (Blk.mk Bool.true (Body.cells [At.nilsl, At.nilsl, At.nilsl, At.nilsl, (At.int IntKind.i64 (hvI (hGet hs 14))), (At.flt FloatKind.f32 (hvN (hGet hs 15))), (At.flt FloatKind.f32 (hvN (hGet hs 16)))])), (Blk.mk Bool.true (Body.cells [(At.sl 7 0 (hvN (hGet hs 17)) 1), (At.sl 8 0 (hvN (hGet hs 18)) 1), (At.sl 9 0 (hvN (hGet hs 19)) 1), (At.sl 10 0 (hvN (hGet hs 20)) 3), (At.int IntKind.i64 (hvI (hGet hs 21))), (At.flt FloatKind.f32 (hvN (hGet hs 22))), (At.flt FloatKind.f32 (hvN (hGet hs 23)))])), (Blk.mk Bool.true (Body.fl FloatKind.f32 (hvLn (hGet hs 24)))), (Blk.mk Bool.true (Body.fl FloatKind.f32 (hvLn (hGet hs 25)))), (Blk.mk Bool.true (Body.fl FloatKind.f32 (hvLn (hGet hs 26)))), (Blk.mk Bool.true (Body.fl FloatKind.f32 (hvLn (hGet hs 27))))]) := e2.trans (by kernel_rfl)
  clear e2
  subst e1
  unfold zma at e3
  injection e3 with h1 h2
  subst h2
  exact ⟨8, 8, big, Eq.trans (zq1 (hvN (hGet hs 0)) (hvI (hGet hs 1)) (hvLn (hGet hs 3)) (hvLn (hGet hs 4)) (hvLn (hGet hs 5)) (hvLn (hGet hs 6)) (hvN (hGet hs 7)) (hvN (hGet hs 8)) (hvN (hGet hs 9)) (hvN (hGet hs 10)) (hvI (hGet hs 11)) (hvN (hGet hs 12)) (hvN (hGet hs 13)) (hvI (hGet hs 14)) (hvN (hGet hs 15)) (hvN (hGet hs 16)) (hvN (hGet hs 17)) (hvN (hGet hs 18)) (hvN (hGet hs 19)) (hvN (hGet hs 20)) (hvI (hGet hs 21)) (hvN (hGet hs 22)) (hvN (hGet hs 23)) (hvLn (hGet hs 24)) (hvLn (hGet hs 25)) (hvLn (hGet hs 26)) big (hvI (hGet hs 2)) (hvLn (hGet hs 27))) (zqh (hvN (hGet hs 0)) (hvI (hGet hs 1)) (hvLn (hGet hs 3)) (hvLn (hGet hs 4)) (hvLn (hGet hs 5)) (hvLn (hGet hs 6)) (hvN (hGet hs 7)) (hvN (hGet hs 8)) (hvN (hGet hs 9)) (hvN (hGet hs 10)) (hvI (hGet hs 11)) (hvN (hGet hs 12)) (hvN (hGet hs 13)) (hvI (hGet hs 14)) (hvN (hGet hs 15)) (hvN (hGet hs 16)) (hvN (hGet hs 17)) (hvN (hGet hs 18)) (hvN (hGet hs 19)) (hvN (hGet hs 20)) (hvI (hGet hs 21)) (hvN (hGet hs 22)) (hvN (hGet hs 23)) (hvLn (hGet hs 24)) (hvLn (hGet hs 25)) (hvLn (hGet hs 26)) (z53 (hvN (hGet hs 0)) (hvI (hGet hs 1)) (hvLn (hGet hs 6)) (hvN (hGet hs 10)) (hvN (hGet hs 20)) big (hvI (hGet hs 2)) (hvLn (hGet hs 27))) h1)⟩)
noncomputable def tb11 : List (Nat × (List PT → Option (Bool × AV × List Blk))) := [(125, z2f), (128, z0w), (134, z1i), (137, z2g), (18, z2o), (44, z2p), (48, z26), (54, z3f), (61, z2n), (63, z4f), (64, z42), (66, z43), (80, z28), (97, z3e), (104, z0s), (115, z01), (14, z35), (67, z1y), (92, z46), (103, z3k), (105, z34), (111, z3w), (114, z3j), (118, z1x), (122, z19), (37, z3y), (52, z2k), (72, z1r), (79, z1s), (93, z39), (119, z2j), (16, z3g), (36, z2b), (57, z31), (86, z30), (19, z3n), (33, z3p), (39, z48), (62, z4q), (69, z37), (99, z0f), (99, z0a), (30, z4b), (99, z0j), (117, z0d), (117, z0h), (117, z09), (91, z4u), (95, z41), (96, z4a), (112, z3i), (53, z3t)]
noncomputable def lt11 : List ((Nat × Nat) × (Nat → St → Option (Bool × LO))) := [((52, 3), z1d), ((72, 2), z10), ((79, 2), z11), ((57, 4), z1k), ((86, 3), z1j), ((62, 5), z3x), ((69, 4), z1u), ((99, 2), z05), ((99, 2), z03), ((99, 2), z0b), ((91, 6), z49), ((53, 5), z2h), ((46, 5), z3q)]
noncomputable def Γ11 : Ctx := ⟨tyTab, fnTab, tblSum tb11, tblLp lt11⟩
theorem tb11_ok : SumL Try.prog tb11 := SumL.cons z1g (SumL.cons z0l (SumL.cons z14 (SumL.cons z1h (SumL.cons z1p (SumL.cons z1q (SumL.cons z1f (SumL.cons z24 (SumL.cons z1o (SumL.cons z3r (SumL.cons z3a (SumL.cons z38 (SumL.cons z1e (SumL.cons z25 (SumL.cons z0k (SumL.cons z00 (SumL.cons z1z (SumL.cons z1c (SumL.cons z3h (SumL.cons z2a (SumL.cons z20 (SumL.cons z32 (SumL.cons z2c (SumL.cons z1b (SumL.cons z0z (SumL.cons z36 (SumL.cons z1v (SumL.cons z18 (SumL.cons z17 (SumL.cons z27 (SumL.cons z1t (SumL.cons z2e (SumL.cons z1l (SumL.cons z23 (SumL.cons z21 (SumL.cons z2q (SumL.cons z2m (SumL.cons z3o (SumL.cons z47 (SumL.cons z29 (SumL.cons z0e (SumL.cons z07 (SumL.cons z3u (SumL.cons z0i (SumL.cons z0c (SumL.cons z0g (SumL.cons z06 (SumL.cons z4h (SumL.cons z3m (SumL.cons z3v (SumL.cons z2l (SumL.cons z3d (SumL.nil))))))))))))))))))))))))))))))))))))))))))))))))))))
theorem lt11_ok : LpL Try.prog fnTab lt11 := LpL.cons z0y (LpL.cons z0r (LpL.cons z0q (LpL.cons z12 (LpL.cons z13 (LpL.cons z33 (LpL.cons z15 (LpL.cons z04 (LpL.cons z02 (LpL.cons z08 (LpL.cons z3s (LpL.cons z1w (LpL.cons z2y (LpL.nil)))))))))))))
noncomputable def z4e : List PT → Option (Bool × AV × List Blk)
  | [.agg [.row 1 q08 (.fl .f32 q0e), .row 1 q0b (.fl .f32 q0h), .row 1 q0a (.fl .f32 q0g), .row 3 q0f (.fl .f32 q0i), .s (.int .i64 q0n), .s (.flt .f32 q0r), .s (.flt .f32 q0s)], .one (.s (.flt .f32 by_))] => some ((zjr q08 q0e q0b q0h q0a q0g q0f q0i q0n q0r q0s by_), ((AV.tup [(TV.agg [(At.sl 0 0 (zh6 q08 q0e q0b q0h q0a q0g q0f q0i q0n q0r q0s by_) 1), (At.sl 1 0 (zgv q08 q0e q0b q0h q0a q0g q0f q0i q0n q0r q0s by_) 1), (At.sl 2 0 (zi4 q08 q0e q0b q0h q0a q0g q0f q0i q0n q0r q0s by_) 1), (At.sl 3 0 (zhh q08 q0e q0b q0h q0a q0g q0f q0i q0n q0r q0s by_) 3), (At.int IntKind.i64 (zhr q08 q0e q0b q0h q0a q0g q0f q0i q0n q0r q0s by_)), (At.flt FloatKind.f32 (zh5 q08 q0e q0b q0h q0a q0g q0f q0i q0n q0r q0s by_)), (At.flt FloatKind.f32 (zhj q08 q0e q0b q0h q0a q0g q0f q0i q0n q0r q0s by_))]), (TV.one (At.bool (zh8 q08 q0e q0b q0h q0a q0g q0f q0i q0n q0r q0s by_)))]), [(Blk.mk Bool.true (Body.fl FloatKind.f32 (zi1 q08 q0e q0b q0h q0a q0g q0f q0i q0n q0r q0s by_))), (Blk.mk Bool.true (Body.fl FloatKind.f32 (zhu q08 q0e q0b q0h q0a q0g q0f q0i q0n q0r q0s by_))), (Blk.mk Bool.true (Body.fl FloatKind.f32 (zfy q08 q0e q0b q0h q0a q0g q0f q0i q0n q0r q0s by_))), (Blk.mk Bool.true (Body.fl FloatKind.f32 (zfo q08 q0e q0b q0h q0a q0g q0f q0i q0n q0r q0s by_)))]))
  | _ => none
def zn6 (q08 : Nat) (q0e : List Nat) (q0b : Nat) (q0h : List Nat) (q0a : Nat) (q0g : List Nat) (q0f : Nat) (q0i : List Nat) (q0n : Int) (q0r : Nat) (q0s : Nat) (by_ : Nat) : Option (Nat × Nat × Nat × Nat × Int × Nat × Nat × Bool × (List Nat) × (List Nat) × (List Nat) × (List Nat)) → Option (AV × List Blk)
  | some r => some ((AV.tup [(TV.agg [(At.sl 0 0 r.1 1), (At.sl 1 0 r.2.1 1), (At.sl 2 0 r.2.2.1 1), (At.sl 3 0 r.2.2.2.1 3), (At.int IntKind.i64 r.2.2.2.2.1), (At.flt FloatKind.f32 r.2.2.2.2.2.1), (At.flt FloatKind.f32 r.2.2.2.2.2.2.1)]), (TV.one (At.bool r.2.2.2.2.2.2.2.1))]), [(Blk.mk Bool.true (Body.fl FloatKind.f32 r.2.2.2.2.2.2.2.2.1)), (Blk.mk Bool.true (Body.fl FloatKind.f32 r.2.2.2.2.2.2.2.2.2.1)), (Blk.mk Bool.true (Body.fl FloatKind.f32 r.2.2.2.2.2.2.2.2.2.2.1)), (Blk.mk Bool.true (Body.fl FloatKind.f32 r.2.2.2.2.2.2.2.2.2.2.2))])
  | none => none
theorem zrr (q08 : Nat) (q0e : List Nat) (q0b : Nat) (q0h : List Nat) (q0a : Nat) (q0g : List Nat) (q0f : Nat) (q0i : List Nat) (q0n : Int) (q0r : Nat) (q0s : Nat) (by_ : Nat) : evFn Γ11 8 8 46 (impTs 0 [.agg [.row 1 q08 (.fl .f32 q0e), .row 1 q0b (.fl .f32 q0h), .row 1 q0a (.fl .f32 q0g), .row 3 q0f (.fl .f32 q0i), .s (.int .i64 q0n), .s (.flt .f32 q0r), .s (.flt .f32 q0s)], .one (.s (.flt .f32 by_))]).1 (impTs 0 [.agg [.row 1 q08 (.fl .f32 q0e), .row 1 q0b (.fl .f32 q0h), .row 1 q0a (.fl .f32 q0g), .row 3 q0f (.fl .f32 q0i), .s (.int .i64 q0n), .s (.flt .f32 q0r), .s (.flt .f32 q0s)], .one (.s (.flt .f32 by_))]).2 (expo (impTs 0 [.agg [.row 1 q08 (.fl .f32 q0e), .row 1 q0b (.fl .f32 q0h), .row 1 q0a (.fl .f32 q0g), .row 3 q0f (.fl .f32 q0i), .s (.int .i64 q0n), .s (.flt .f32 q0r), .s (.flt .f32 q0s)], .one (.s (.flt .f32 by_))]).2.length) = zdg q08 q0e q0b q0h q0a q0g q0f q0i q0n q0r q0s by_ (fun c0_ c1_ c2_ c3_ c4_ c5_ c6_ c7_ c8_ c9_ c10_ c11_ => some ((AV.tup [(TV.agg [(At.sl 0 0 c0_ 1), (At.sl 1 0 c1_ 1), (At.sl 2 0 c2_ 1), (At.sl 3 0 c3_ 3), (At.int IntKind.i64 c4_), (At.flt FloatKind.f32 c5_), (At.flt FloatKind.f32 c6_)]), (TV.one (At.bool c7_))]), [(Blk.mk Bool.true (Body.fl FloatKind.f32 c8_)), (Blk.mk Bool.true (Body.fl FloatKind.f32 c9_)), (Blk.mk Bool.true (Body.fl FloatKind.f32 c10_)), (Blk.mk Bool.true (Body.fl FloatKind.f32 c11_))])) := by kernel_rfl
theorem z40 : SumOne Try.prog 46 z4e := sum_of (Γ := Γ11) (fuel := 8) (d := 8) tyTab_ok (FnL.ok fnTab_ok _ _) (LpL.ok lt11_ok) (SumL.ok tb11_ok _) mixed (by
  intro pts v news hp hc
  clear hc
  unfold z4e at hp
  split at hp
  · rename_i q08 q0e q0b q0h q0a q0g q0f q0i q0n q0r q0s by_
    exact Eq.trans (Eq.trans (zrr q08 q0e q0b q0h q0a q0g q0f q0i q0n q0r q0s by_) (zpm (zn6 q08 q0e q0b q0h q0a q0g q0f q0i q0n q0r q0s by_) rfl q08 q0e q0b q0h q0a q0g q0f q0i q0n q0r q0s by_ (fun c0_ c1_ c2_ c3_ c4_ c5_ c6_ c7_ c8_ c9_ c10_ c11_ => some (c0_, c1_, c2_, c3_, c4_, c5_, c6_, c7_, c8_, c9_, c10_, c11_)))) (fin_out (o := (zn6 q08 q0e q0b q0h q0a q0g q0f q0i q0n q0r q0s by_)) (x := z5f q08 q0e q0b q0h q0a q0g q0f q0i q0n q0r q0s by_) (d := default) (V := fun r => ((AV.tup [(TV.agg [(At.sl 0 0 r.1 1), (At.sl 1 0 r.2.1 1), (At.sl 2 0 r.2.2.1 1), (At.sl 3 0 r.2.2.2.1 3), (At.int IntKind.i64 r.2.2.2.2.1), (At.flt FloatKind.f32 r.2.2.2.2.2.1), (At.flt FloatKind.f32 r.2.2.2.2.2.2.1)]), (TV.one (At.bool r.2.2.2.2.2.2.2.1))]), [(Blk.mk Bool.true (Body.fl FloatKind.f32 r.2.2.2.2.2.2.2.2.1)), (Blk.mk Bool.true (Body.fl FloatKind.f32 r.2.2.2.2.2.2.2.2.2.1)), (Blk.mk Bool.true (Body.fl FloatKind.f32 r.2.2.2.2.2.2.2.2.2.2.1)), (Blk.mk Bool.true (Body.fl FloatKind.f32 r.2.2.2.2.2.2.2.2.2.2.2))])) (fun r => rfl) hp)
  · cases hp)
noncomputable def tb12 : List (Nat × (List PT → Option (Bool × AV × List Blk))) := [(125, z2f), (128, z0w), (134, z1i), (137, z2g), (18, z2o), (44, z2p), (48, z26), (54, z3f), (61, z2n), (63, z4f), (64, z42), (66, z43), (80, z28), (97, z3e), (104, z0s), (115, z01), (14, z35), (67, z1y), (92, z46), (103, z3k), (105, z34), (111, z3w), (114, z3j), (118, z1x), (122, z19), (37, z3y), (52, z2k), (72, z1r), (79, z1s), (93, z39), (119, z2j), (16, z3g), (36, z2b), (57, z31), (86, z30), (19, z3n), (33, z3p), (39, z48), (62, z4q), (69, z37), (99, z0f), (99, z0a), (30, z4b), (99, z0j), (117, z0d), (117, z0h), (117, z09), (91, z4u), (95, z41), (96, z4a), (112, z3i), (53, z3t), (46, z4e)]
noncomputable def lt12 : List ((Nat × Nat) × (Nat → St → Option (Bool × LO))) := [((52, 3), z1d), ((72, 2), z10), ((79, 2), z11), ((57, 4), z1k), ((86, 3), z1j), ((62, 5), z3x), ((69, 4), z1u), ((99, 2), z05), ((99, 2), z03), ((99, 2), z0b), ((91, 6), z49), ((53, 5), z2h), ((46, 5), z3q)]
noncomputable def Γ12 : Ctx := ⟨tyTab, fnTab, tblSum tb12, tblLp lt12⟩
theorem tb12_ok : SumL Try.prog tb12 := SumL.cons z1g (SumL.cons z0l (SumL.cons z14 (SumL.cons z1h (SumL.cons z1p (SumL.cons z1q (SumL.cons z1f (SumL.cons z24 (SumL.cons z1o (SumL.cons z3r (SumL.cons z3a (SumL.cons z38 (SumL.cons z1e (SumL.cons z25 (SumL.cons z0k (SumL.cons z00 (SumL.cons z1z (SumL.cons z1c (SumL.cons z3h (SumL.cons z2a (SumL.cons z20 (SumL.cons z32 (SumL.cons z2c (SumL.cons z1b (SumL.cons z0z (SumL.cons z36 (SumL.cons z1v (SumL.cons z18 (SumL.cons z17 (SumL.cons z27 (SumL.cons z1t (SumL.cons z2e (SumL.cons z1l (SumL.cons z23 (SumL.cons z21 (SumL.cons z2q (SumL.cons z2m (SumL.cons z3o (SumL.cons z47 (SumL.cons z29 (SumL.cons z0e (SumL.cons z07 (SumL.cons z3u (SumL.cons z0i (SumL.cons z0c (SumL.cons z0g (SumL.cons z06 (SumL.cons z4h (SumL.cons z3m (SumL.cons z3v (SumL.cons z2l (SumL.cons z3d (SumL.cons z40 (SumL.nil)))))))))))))))))))))))))))))))))))))))))))))))))))))
theorem lt12_ok : LpL Try.prog fnTab lt12 := LpL.cons z0y (LpL.cons z0r (LpL.cons z0q (LpL.cons z12 (LpL.cons z13 (LpL.cons z33 (LpL.cons z15 (LpL.cons z04 (LpL.cons z02 (LpL.cons z08 (LpL.cons z3s (LpL.cons z1w (LpL.cons z2y (LpL.nil)))))))))))))
end Go.Proofs.Ytihlcjjbenkokaa
