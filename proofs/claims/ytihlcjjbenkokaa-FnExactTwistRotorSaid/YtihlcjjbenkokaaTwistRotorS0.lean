/-
  What functions answer: that the evaluator answers so. Printed by a program.
-/
import Derived.Test.YtihlcjjbenkokaaTwistRotorC
set_option linter.unusedVariables false
set_option linter.unusedSimpArgs false
set_option maxRecDepth 100000
set_option maxHeartbeats 4000000
namespace Go.Proofs.Ytihlcjjbenkokaa
open Go Go.Rf
def z2f : List PT → Option (Bool × AV × List Blk)
  | [.one (.s (.flt .f64 x))] => some (bnot (nanQ .f64 x), A1 (.flt .f64 (fint .down x)), [])
  | _ => none
theorem z1g : SumOne Try.prog 125 z2f := by
  intro pts v news hp w vals hv
  unfold z2f at hp
  split at hp
  · rename_i x
    injection hp with hp
    injection hp with h1 hp
    injection hp with h2 h3
    subst h2
    subst h3
    obtain ⟨l, hl⟩ : ∃ l, l = vals.toList := ⟨_, rfl⟩
    rw [← hl] at hv
    cases hv with
    | cons a1 a2 =>
      cases a2
      obtain ⟨b, hb1, hb2, hb3⟩ := a1
      subst hb1
      rename_i hx
      have hvals : vals = #[.float .f64 b] := by rw [← Array.toList_inj, ← hl]
      subst hvals
      have hn : nanB .f64 b = false := by rw [← nanB_cn, hb3]; simpa [bnot, nanQ] using h1
      rw [cn_of_not hn] at hb3
      subst hb3
      refine .inl ⟨_, w, by (simp only [callFunc, Sem.run_bind, run_program, Result.andThen_ok, Try.func125]; change (do let v ← Extern.MathFloor.toIntegral "math.archFloor" .down #[.float .f64 b]; pure (.value v) : Sem Next).run Try.prog w = _; rw [Sem.run_bind, run_fint hn]; rfl), NoB, ⟨⟨(fun t b' h => by cases t <;> cases h), (fun t t' b1 b2 x x' _ h => by cases t <;> cases h)⟩, (fun t x h => by cases h), Fr.refl _ w⟩, fint_rel hn⟩
  · cases hp
def z0v : List PT → Option (Bool × AV × List Blk)
  | [.one (.s (.int .u64 x))] => some (okU .f64 x, A1 (.flt .f64 (cnI .f64 x)), [])
  | _ => none
theorem z0l : SumOne Try.prog 128 z0v := by
  intro pts v news hp w vals hv
  unfold z0v at hp
  split at hp
  · rename_i x
    injection hp with hp
    injection hp with h1 hp
    injection hp with h2 h3
    subst h2
    subst h3
    obtain ⟨l, hl⟩ : ∃ l, l = vals.toList := ⟨_, rfl⟩
    rw [← hl] at hv
    cases hv with
    | cons a1 a2 =>
      cases a2
      have hb1 : _ = Value.int .u64 x := a1
      subst hb1
      rename_i hx
      have hvals : vals = #[.int .u64 x] := by rw [← Array.toList_inj, ← hl]
      subst hvals
      have hw := okU_lt h1
      refine .inl ⟨_, w, by (simp only [callFunc, Sem.run_bind, run_program, Result.andThen_ok, Try.func128]; rfl), NoB, ⟨⟨(fun t b' h => by cases t <;> cases h), (fun t t' b1 b2 x x' _ h => by cases t <;> cases h)⟩, (fun t x h => by cases h), Fr.refl _ w⟩, ⟨_, rfl, hw, rfl⟩⟩
  · cases hp
def z1i : List PT → Option (Bool × AV × List Blk)
  | [.one (.s (.flt .f64 x))] => some (bnot (nanQ .f64 x), A1 (.int .u64 x), [])
  | _ => none
theorem z14 : SumOne Try.prog 134 z1i := by
  intro pts v news hp w vals hv
  unfold z1i at hp
  split at hp
  · rename_i x
    injection hp with hp
    injection hp with h1 hp
    injection hp with h2 h3
    subst h2
    subst h3
    obtain ⟨l, hl⟩ : ∃ l, l = vals.toList := ⟨_, rfl⟩
    rw [← hl] at hv
    cases hv with
    | cons a1 a2 =>
      cases a2
      obtain ⟨b, hb1, hb2, hb3⟩ := a1
      subst hb1
      rename_i hx
      have hvals : vals = #[.float .f64 b] := by rw [← Array.toList_inj, ← hl]
      subst hvals
      have hn : nanB .f64 b = false := by rw [← nanB_cn, hb3]; simpa [bnot, nanQ] using h1
      rw [cn_of_not hn] at hb3
      subst hb3
      refine .inl ⟨_, w, by (simp only [callFunc, Sem.run_bind, run_program, Result.andThen_ok, Try.func134]; rfl), NoB, ⟨⟨(fun t b' h => by cases t <;> cases h), (fun t t' b1 b2 x x' _ h => by cases t <;> cases h)⟩, (fun t x h => by cases h), Fr.refl _ w⟩, rfl⟩
  · cases hp
def z2g : List PT → Option (Bool × AV × List Blk)
  | [.one (.s (.flt .f64 x))] => some (bnot (nanQ .f64 x), A1 (.flt .f64 (fint .zero x)), [])
  | _ => none
theorem z1h : SumOne Try.prog 137 z2g := by
  intro pts v news hp w vals hv
  unfold z2g at hp
  split at hp
  · rename_i x
    injection hp with hp
    injection hp with h1 hp
    injection hp with h2 h3
    subst h2
    subst h3
    obtain ⟨l, hl⟩ : ∃ l, l = vals.toList := ⟨_, rfl⟩
    rw [← hl] at hv
    cases hv with
    | cons a1 a2 =>
      cases a2
      obtain ⟨b, hb1, hb2, hb3⟩ := a1
      subst hb1
      rename_i hx
      have hvals : vals = #[.float .f64 b] := by rw [← Array.toList_inj, ← hl]
      subst hvals
      have hn : nanB .f64 b = false := by rw [← nanB_cn, hb3]; simpa [bnot, nanQ] using h1
      rw [cn_of_not hn] at hb3
      subst hb3
      refine .inl ⟨_, w, by (simp only [callFunc, Sem.run_bind, run_program, Result.andThen_ok, Try.func137]; change (do let v ← Extern.MathFloor.toIntegral "math.archTrunc" .zero #[.float .f64 b]; pure (.value v) : Sem Next).run Try.prog w = _; rw [Sem.run_bind, run_fint hn]; rfl), NoB, ⟨⟨(fun t b' h => by cases t <;> cases h), (fun t t' b1 b2 x x' _ h => by cases t <;> cases h)⟩, (fun t x h => by cases h), Fr.refl _ w⟩, fint_rel hn⟩
  · cases hp
noncomputable def tb0 : List (Nat × (List PT → Option (Bool × AV × List Blk))) := [(125, z2f), (128, z0v), (134, z1i), (137, z2g)]
noncomputable def lt0 : List ((Nat × Nat) × (Nat → St → Option (Bool × LO))) := []
noncomputable def Γ0 : Ctx := ⟨tyTab, fnTab, tblSum tb0, tblLp lt0⟩
theorem tb0_ok : SumL Try.prog tb0 := SumL.cons z1g (SumL.cons z0l (SumL.cons z14 (SumL.cons z1h (SumL.nil))))
theorem lt0_ok : LpL Try.prog fnTab lt0 := LpL.nil
noncomputable def z2p : List PT → Option (Bool × AV × List Blk)
  | [.one (.s (.flt .f64 a)), .one (.s (.flt .f64 b))] => some ((z9j a b), ((AV.v (TV.one (At.bool (z97 a b)))), []))
  | _ => none
def zo2 (a : Nat) (b : Nat) : Option (Bool) → Option (AV × List Blk)
  | some r => some ((AV.v (TV.one (At.bool r))), [])
  | none => none
theorem zsf (a : Nat) (b : Nat) : evFn Γ0 8 8 18 (impTs 0 [.one (.s (.flt .f64 a)), .one (.s (.flt .f64 b))]).1 (impTs 0 [.one (.s (.flt .f64 a)), .one (.s (.flt .f64 b))]).2 (expo (impTs 0 [.one (.s (.flt .f64 a)), .one (.s (.flt .f64 b))]).2.length) = zdr a b (fun c0_ => some ((AV.v (TV.one (At.bool c0_))), [])) := by kernel_rfl
theorem z1s : SumOne Try.prog 18 z2p := sum_of (Γ := Γ0) (fuel := 8) (d := 8) tyTab_ok (FnL.ok fnTab_ok _ _) (LpL.ok lt0_ok) (SumL.ok tb0_ok _) mixed (by
  intro pts v news hp hc
  clear hc
  unfold z2p at hp
  split at hp
  · rename_i a b
    exact Eq.trans (Eq.trans (zsf a b) (zpx (zo2 a b) rfl a b (fun c0_ => some c0_))) (fin_out (o := (zo2 a b)) (x := ze2 a b) (d := default) (V := fun r => ((AV.v (TV.one (At.bool r))), [])) (fun r => rfl) hp)
  · cases hp)
noncomputable def z2n : List PT → Option (Bool × AV × List Blk)
  | [.agg [.s (.flt .f32 q2g), .s (.flt .f32 q2o), .s (.flt .f32 q2p)]] => some ((zmi q2g q2o q2p), ((AV.v (TV.agg [(At.flt FloatKind.f32 q2g), (At.flt FloatKind.f32 q2o), (At.flt FloatKind.f32 q2p)])), []))
  | _ => none
def zno (q2g : Nat) (q2o : Nat) (q2p : Nat) : Option (Unit) → Option (AV × List Blk)
  | some r => some ((AV.v (TV.agg [(At.flt FloatKind.f32 q2g), (At.flt FloatKind.f32 q2o), (At.flt FloatKind.f32 q2p)])), [])
  | none => none
theorem zsl (q2g : Nat) (q2o : Nat) (q2p : Nat) : evFn Γ0 8 8 44 (impTs 0 [.agg [.s (.flt .f32 q2g), .s (.flt .f32 q2o), .s (.flt .f32 q2p)]]).1 (impTs 0 [.agg [.s (.flt .f32 q2g), .s (.flt .f32 q2o), .s (.flt .f32 q2p)]]).2 (expo (impTs 0 [.agg [.s (.flt .f32 q2g), .s (.flt .f32 q2o), .s (.flt .f32 q2p)]]).2.length) = zfk q2g q2o q2p (fun _ => some ((AV.v (TV.agg [(At.flt FloatKind.f32 q2g), (At.flt FloatKind.f32 q2o), (At.flt FloatKind.f32 q2p)])), [])) := by kernel_rfl
theorem z1p : SumOne Try.prog 44 z2n := sum_of (Γ := Γ0) (fuel := 8) (d := 8) tyTab_ok (FnL.ok fnTab_ok _ _) (LpL.ok lt0_ok) (SumL.ok tb0_ok _) mixed (by
  intro pts v news hp hc
  clear hc
  unfold z2n at hp
  split at hp
  · rename_i q2g q2o q2p
    exact Eq.trans (Eq.trans (zsl q2g q2o q2p) (zqb (zno q2g q2o q2p) rfl q2g q2o q2p (fun _ => some ()))) (fin_out (o := (zno q2g q2o q2p)) (x := znm q2g q2o q2p) (d := default) (V := fun r => ((AV.v (TV.agg [(At.flt FloatKind.f32 q2g), (At.flt FloatKind.f32 q2o), (At.flt FloatKind.f32 q2p)])), [])) (fun r => rfl) hp)
  · cases hp)
noncomputable def z27 : List PT → Option (Bool × AV × List Blk)
  | [.one (.row 1 a_n (.fl .f32 a)), .one (.s (.int .i64 q2c))] => some ((zd3 a_n a q2c), ((AV.v (TV.one (At.int IntKind.i64 (z5n a_n a q2c)))), []))
  | _ => none
def zn4 (a_n : Nat) (a : List Nat) (q2c : Int) : Option (Int) → Option (AV × List Blk)
  | some r => some ((AV.v (TV.one (At.int IntKind.i64 r))), [])
  | none => none
theorem zs1 (a_n : Nat) (a : List Nat) (q2c : Int) : evFn Γ0 8 8 48 (impTs 0 [.one (.row 1 a_n (.fl .f32 a)), .one (.s (.int .i64 q2c))]).1 (impTs 0 [.one (.row 1 a_n (.fl .f32 a)), .one (.s (.int .i64 q2c))]).2 (expo (impTs 0 [.one (.row 1 a_n (.fl .f32 a)), .one (.s (.int .i64 q2c))]).2.length) = zdb a_n a q2c (fun c0_ => some ((AV.v (TV.one (At.int IntKind.i64 c0_))), [])) := by kernel_rfl
theorem z1f : SumOne Try.prog 48 z27 := sum_of (Γ := Γ0) (fuel := 8) (d := 8) tyTab_ok (FnL.ok fnTab_ok _ _) (LpL.ok lt0_ok) (SumL.ok tb0_ok _) mixed (by
  intro pts v news hp hc
  clear hc
  unfold z27 at hp
  split at hp
  · rename_i a_n a q2c
    exact Eq.trans (Eq.trans (zs1 a_n a q2c) (zp7 (zn4 a_n a q2c) rfl a_n a q2c (fun c0_ => some c0_))) (fin_out (o := (zn4 a_n a q2c)) (x := zcx a_n a q2c) (d := default) (V := fun r => ((AV.v (TV.one (At.int IntKind.i64 r))), [])) (fun r => rfl) hp)
  · cases hp)
noncomputable def z3f : List PT → Option (Bool × AV × List Blk)
  | [.one (.s (.flt .f32 x))] => some ((za0 x), ((AV.v (TV.one (At.bool (z9i x)))), []))
  | _ => none
def zof (x : Nat) : Option (Bool) → Option (AV × List Blk)
  | some r => some ((AV.v (TV.one (At.bool r))), [])
  | none => none
theorem zt4 (x : Nat) : evFn Γ0 8 8 54 (impTs 0 [.one (.s (.flt .f32 x))]).1 (impTs 0 [.one (.s (.flt .f32 x))]).2 (expo (impTs 0 [.one (.s (.flt .f32 x))]).2.length) = zh1 x (fun c0_ => some ((AV.v (TV.one (At.bool c0_))), [])) := by kernel_rfl
theorem z24 : SumOne Try.prog 54 z3f := sum_of (Γ := Γ0) (fuel := 8) (d := 8) tyTab_ok (FnL.ok fnTab_ok _ _) (LpL.ok lt0_ok) (SumL.ok tb0_ok _) mixed (by
  intro pts v news hp hc
  clear hc
  unfold z3f at hp
  split at hp
  · rename_i x
    exact Eq.trans (Eq.trans (zt4 x) (zqw (zof x) rfl x (fun c0_ => some c0_))) (fin_out (o := (zof x)) (x := zh2 x) (d := default) (V := fun r => ((AV.v (TV.one (At.bool r))), [])) (fun r => rfl) hp)
  · cases hp)
noncomputable def z2m : List PT → Option (Bool × AV × List Blk)
  | [.one (.s (.flt .f32 x))] => some ((z81 x), ((AV.v (TV.one (At.bool (z7p x)))), []))
  | _ => none
def zns (x : Nat) : Option (Bool) → Option (AV × List Blk)
  | some r => some ((AV.v (TV.one (At.bool r))), [])
  | none => none
theorem zsg (x : Nat) : evFn Γ0 8 8 61 (impTs 0 [.one (.s (.flt .f32 x))]).1 (impTs 0 [.one (.s (.flt .f32 x))]).2 (expo (impTs 0 [.one (.s (.flt .f32 x))]).2.length) = zfb x (fun c0_ => some ((AV.v (TV.one (At.bool c0_))), [])) := by kernel_rfl
theorem z1q : SumOne Try.prog 61 z2m := sum_of (Γ := Γ0) (fuel := 8) (d := 8) tyTab_ok (FnL.ok fnTab_ok _ _) (LpL.ok lt0_ok) (SumL.ok tb0_ok _) mixed (by
  intro pts v news hp hc
  clear hc
  unfold z2m at hp
  split at hp
  · rename_i x
    exact Eq.trans (Eq.trans (zsg x) (zqi (zns x) rfl x (fun c0_ => some c0_))) (fin_out (o := (zns x)) (x := zfc x) (d := default) (V := fun r => ((AV.v (TV.one (At.bool r))), [])) (fun r => rfl) hp)
  · cases hp)
noncomputable def z4f : List PT → Option (Bool × AV × List Blk)
  | [.one (.s (.int .i64 n_)), .one (.s (.int .i64 low)), .one (.s (.int .i64 q2v))] => some ((zml n_ low q2v), ((AV.v (TV.one (At.bool (zmg n_ low q2v)))), []))
  | _ => none
def zre (n_ : Int) (low : Int) (q2v : Int) : Option (Bool) → Option (AV × List Blk)
  | some r => some ((AV.v (TV.one (At.bool r))), [])
  | none => none
theorem ztj (n_ : Int) (low : Int) (q2v : Int) : evFn Γ0 8 8 63 (impTs 0 [.one (.s (.int .i64 n_)), .one (.s (.int .i64 low)), .one (.s (.int .i64 q2v))]).1 (impTs 0 [.one (.s (.int .i64 n_)), .one (.s (.int .i64 low)), .one (.s (.int .i64 q2v))]).2 (expo (impTs 0 [.one (.s (.int .i64 n_)), .one (.s (.int .i64 low)), .one (.s (.int .i64 q2v))]).2.length) = zk4 n_ low q2v (fun c0_ => some ((AV.v (TV.one (At.bool c0_))), [])) := by kernel_rfl
theorem z3s : SumOne Try.prog 63 z4f := sum_of (Γ := Γ0) (fuel := 8) (d := 8) tyTab_ok (FnL.ok fnTab_ok _ _) (LpL.ok lt0_ok) (SumL.ok tb0_ok _) mixed (by
  intro pts v news hp hc
  clear hc
  unfold z4f at hp
  split at hp
  · rename_i n_ low q2v
    exact Eq.trans (Eq.trans (ztj n_ low q2v) (zsk (zre n_ low q2v) rfl n_ low q2v (fun c0_ => some c0_))) (fin_out (o := (zre n_ low q2v)) (x := zkf n_ low q2v) (d := default) (V := fun r => ((AV.v (TV.one (At.bool r))), [])) (fun r => rfl) hp)
  · cases hp)
noncomputable def z42 : List PT → Option (Bool × AV × List Blk)
  | [.ptr [.row 1 q12 (.fl .f32 q1r), .row 1 q1c (.fl .f32 q26), .row 1 q1b (.fl .f32 q25)]] => some ((zmh q12 q1r q1c q26 q1b q25), ((AV.v (TV.agg [(At.sl 0 0 (zm2 q12 q1r q1c q26 q1b q25) 1), (At.sl 1 0 (zm4 q12 q1r q1c q26 q1b q25) 1), (At.sl 2 0 (zm5 q12 q1r q1c q26 q1b q25) 1)])), [(Blk.mk Bool.true (Body.fl FloatKind.f32 (zlz q12 q1r q1c q26 q1b q25))), (Blk.mk Bool.true (Body.fl FloatKind.f32 (zm0 q12 q1r q1c q26 q1b q25))), (Blk.mk Bool.true (Body.fl FloatKind.f32 (zm1 q12 q1r q1c q26 q1b q25)))]))
  | _ => none
def zqp (q12 : Nat) (q1r : List Nat) (q1c : Nat) (q26 : List Nat) (q1b : Nat) (q25 : List Nat) : Option (Nat × Nat × Nat × (List Nat) × (List Nat) × (List Nat)) → Option (AV × List Blk)
  | some r => some ((AV.v (TV.agg [(At.sl 0 0 r.1 1), (At.sl 1 0 r.2.1 1), (At.sl 2 0 r.2.2.1 1)])), [(Blk.mk Bool.true (Body.fl FloatKind.f32 r.2.2.2.1)), (Blk.mk Bool.true (Body.fl FloatKind.f32 r.2.2.2.2.1)), (Blk.mk Bool.true (Body.fl FloatKind.f32 r.2.2.2.2.2))])
  | none => none
theorem ztd (q12 : Nat) (q1r : List Nat) (q1c : Nat) (q26 : List Nat) (q1b : Nat) (q25 : List Nat) : evFn Γ0 8 8 64 (impTs 0 [.ptr [.row 1 q12 (.fl .f32 q1r), .row 1 q1c (.fl .f32 q26), .row 1 q1b (.fl .f32 q25)]]).1 (impTs 0 [.ptr [.row 1 q12 (.fl .f32 q1r), .row 1 q1c (.fl .f32 q26), .row 1 q1b (.fl .f32 q25)]]).2 (expo (impTs 0 [.ptr [.row 1 q12 (.fl .f32 q1r), .row 1 q1c (.fl .f32 q26), .row 1 q1b (.fl .f32 q25)]]).2.length) = zgu q12 q1r q1c q26 q1b q25 (fun c0_ c1_ c2_ c3_ c4_ c5_ => some ((AV.v (TV.agg [(At.sl 0 0 c0_ 1), (At.sl 1 0 c1_ 1), (At.sl 2 0 c2_ 1)])), [(Blk.mk Bool.true (Body.fl FloatKind.f32 c3_)), (Blk.mk Bool.true (Body.fl FloatKind.f32 c4_)), (Blk.mk Bool.true (Body.fl FloatKind.f32 c5_))])) := by kernel_rfl
theorem z39 : SumOne Try.prog 64 z42 := sum_of (Γ := Γ0) (fuel := 8) (d := 8) tyTab_ok (FnL.ok fnTab_ok _ _) (LpL.ok lt0_ok) (SumL.ok tb0_ok _) mixed (by
  intro pts v news hp hc
  clear hc
  unfold z42 at hp
  split at hp
  · rename_i q12 q1r q1c q26 q1b q25
    exact Eq.trans (Eq.trans (ztd q12 q1r q1c q26 q1b q25) (zrx (zqp q12 q1r q1c q26 q1b q25) rfl q12 q1r q1c q26 q1b q25 (fun c0_ c1_ c2_ c3_ c4_ c5_ => some (c0_, c1_, c2_, c3_, c4_, c5_)))) (fin_out (o := (zqp q12 q1r q1c q26 q1b q25)) (x := z9u q12 q1r q1c q26 q1b q25) (d := default) (V := fun r => ((AV.v (TV.agg [(At.sl 0 0 r.1 1), (At.sl 1 0 r.2.1 1), (At.sl 2 0 r.2.2.1 1)])), [(Blk.mk Bool.true (Body.fl FloatKind.f32 r.2.2.2.1)), (Blk.mk Bool.true (Body.fl FloatKind.f32 r.2.2.2.2.1)), (Blk.mk Bool.true (Body.fl FloatKind.f32 r.2.2.2.2.2))])) (fun r => rfl) hp)
  · cases hp)
noncomputable def z43 : List PT → Option (Bool × AV × List Blk)
  | [.one (.s (.int .i64 n_)), .one (.s (.int .i64 low)), .one (.s (.int .i64 q2v))] => some ((zmf n_ low q2v), ((AV.v (TV.one (At.bool (zm3 n_ low q2v)))), []))
  | _ => none
def zqs (n_ : Int) (low : Int) (q2v : Int) : Option (Bool) → Option (AV × List Blk)
  | some r => some ((AV.v (TV.one (At.bool r))), [])
  | none => none
theorem ztg (n_ : Int) (low : Int) (q2v : Int) : evFn Γ0 8 8 66 (impTs 0 [.one (.s (.int .i64 n_)), .one (.s (.int .i64 low)), .one (.s (.int .i64 q2v))]).1 (impTs 0 [.one (.s (.int .i64 n_)), .one (.s (.int .i64 low)), .one (.s (.int .i64 q2v))]).2 (expo (impTs 0 [.one (.s (.int .i64 n_)), .one (.s (.int .i64 low)), .one (.s (.int .i64 q2v))]).2.length) = zgs n_ low q2v (fun c0_ => some ((AV.v (TV.one (At.bool c0_))), [])) := by kernel_rfl
theorem z38 : SumOne Try.prog 66 z43 := sum_of (Γ := Γ0) (fuel := 8) (d := 8) tyTab_ok (FnL.ok fnTab_ok _ _) (LpL.ok lt0_ok) (SumL.ok tb0_ok _) mixed (by
  intro pts v news hp hc
  clear hc
  unfold z43 at hp
  split at hp
  · rename_i n_ low q2v
    exact Eq.trans (Eq.trans (ztg n_ low q2v) (zs0 (zqs n_ low q2v) rfl n_ low q2v (fun c0_ => some c0_))) (fin_out (o := (zqs n_ low q2v)) (x := zgt n_ low q2v) (d := default) (V := fun r => ((AV.v (TV.one (At.bool r))), [])) (fun r => rfl) hp)
  · cases hp)
noncomputable def z28 : List PT → Option (Bool × AV × List Blk)
  | [.one (.row 3 a_n (.fl .f32 a)), .one (.s (.int .i64 q2c))] => some ((zju a_n a q2c), ((AV.v (TV.one (At.int IntKind.i64 (ze8 a_n a q2c)))), []))
  | _ => none
def znb (a_n : Nat) (a : List Nat) (q2c : Int) : Option (Int) → Option (AV × List Blk)
  | some r => some ((AV.v (TV.one (At.int IntKind.i64 r))), [])
  | none => none
theorem zrz (a_n : Nat) (a : List Nat) (q2c : Int) : evFn Γ0 8 8 80 (impTs 0 [.one (.row 3 a_n (.fl .f32 a)), .one (.s (.int .i64 q2c))]).1 (impTs 0 [.one (.row 3 a_n (.fl .f32 a)), .one (.s (.int .i64 q2c))]).2 (expo (impTs 0 [.one (.row 3 a_n (.fl .f32 a)), .one (.s (.int .i64 q2c))]).2.length) = zd0 a_n a q2c (fun c0_ => some ((AV.v (TV.one (At.int IntKind.i64 c0_))), [])) := by kernel_rfl
theorem z1d : SumOne Try.prog 80 z28 := sum_of (Γ := Γ0) (fuel := 8) (d := 8) tyTab_ok (FnL.ok fnTab_ok _ _) (LpL.ok lt0_ok) (SumL.ok tb0_ok _) mixed (by
  intro pts v news hp hc
  clear hc
  unfold z28 at hp
  split at hp
  · rename_i a_n a q2c
    exact Eq.trans (Eq.trans (zrz a_n a q2c) (zpm (znb a_n a q2c) rfl a_n a q2c (fun c0_ => some c0_))) (fin_out (o := (znb a_n a q2c)) (x := zdh a_n a q2c) (d := default) (V := fun r => ((AV.v (TV.one (At.int IntKind.i64 r))), [])) (fun r => rfl) hp)
  · cases hp)
noncomputable def z3e : List PT → Option (Bool × AV × List Blk)
  | [.one (.s (.flt .f32 x)), .one (.s (.flt .f32 low)), .one (.s (.flt .f32 q2v))] => some ((zli x low q2v), ((AV.v (TV.one (At.bool (zkz x low q2v)))), []))
  | _ => none
def zod (x : Nat) (low : Nat) (q2v : Nat) : Option (Bool) → Option (AV × List Blk)
  | some r => some ((AV.v (TV.one (At.bool r))), [])
  | none => none
theorem zt0 (x : Nat) (low : Nat) (q2v : Nat) : evFn Γ0 8 8 97 (impTs 0 [.one (.s (.flt .f32 x)), .one (.s (.flt .f32 low)), .one (.s (.flt .f32 q2v))]).1 (impTs 0 [.one (.s (.flt .f32 x)), .one (.s (.flt .f32 low)), .one (.s (.flt .f32 q2v))]).2 (expo (impTs 0 [.one (.s (.flt .f32 x)), .one (.s (.flt .f32 low)), .one (.s (.flt .f32 q2v))]).2.length) = zej x low q2v (fun c0_ => some ((AV.v (TV.one (At.bool c0_))), [])) := by kernel_rfl
theorem z25 : SumOne Try.prog 97 z3e := sum_of (Γ := Γ0) (fuel := 8) (d := 8) tyTab_ok (FnL.ok fnTab_ok _ _) (LpL.ok lt0_ok) (SumL.ok tb0_ok _) mixed (by
  intro pts v news hp hc
  clear hc
  unfold z3e at hp
  split at hp
  · rename_i x low q2v
    exact Eq.trans (Eq.trans (zt0 x low q2v) (zr2 (zod x low q2v) rfl x low q2v (fun c0_ => some c0_))) (fin_out (o := (zod x low q2v)) (x := zea x low q2v) (d := default) (V := fun r => ((AV.v (TV.one (At.bool r))), [])) (fun r => rfl) hp)
  · cases hp)
noncomputable def z0s : List PT → Option (Bool × AV × List Blk)
  | [.one (.row 1 s_n (.fl .f32 s))] => some ((z9e s_n s), ((AV.v (TV.one (At.sl 0 0 (z9a s_n s) 1))), [(Blk.mk Bool.true (Body.fl FloatKind.f32 (z99 s_n s)))]))
  | _ => none
def zaj (s_n : Nat) (s : List Nat) : Option (Nat × (List Nat)) → Option (AV × List Blk)
  | some r => some ((AV.v (TV.one (At.sl 0 0 r.1 1))), [(Blk.mk Bool.true (Body.fl FloatKind.f32 r.2))])
  | none => none
theorem znf (s_n : Nat) (s : List Nat) : ∀ a b, (zaj s_n s) a = (zaj s_n s) b → a = b := by
  intro a b h
  cases a <;> cases b <;> simp_all [zaj, Prod.ext_iff]
theorem zob (s_n : Nat) (s : List Nat) : evFn Γ0 8 8 104 (impTs 0 [.one (.row 1 s_n (.fl .f32 s))]).1 (impTs 0 [.one (.row 1 s_n (.fl .f32 s))]).2 (expo (impTs 0 [.one (.row 1 s_n (.fl .f32 s))]).2.length) = z9f s_n s (fun c0_ c1_ => some ((AV.v (TV.one (At.sl 0 0 c0_ 1))), [(Blk.mk Bool.true (Body.fl FloatKind.f32 c1_))])) := by kernel_rfl
theorem z0k : SumOne Try.prog 104 z0s := sum_of (Γ := Γ0) (fuel := 8) (d := 8) tyTab_ok (FnL.ok fnTab_ok _ _) (LpL.ok lt0_ok) (SumL.ok tb0_ok _) mixed (by
  intro pts v news hp hc
  clear hc
  unfold z0s at hp
  split at hp
  · rename_i s_n s
    exact Eq.trans (Eq.trans (zob s_n s) (zmw (zaj s_n s) rfl (znf s_n s) s_n s (fun c0_ c1_ => some (c0_, c1_)))) (fin_out (o := (zaj s_n s)) (x := z88 s_n s) (d := default) (V := fun r => ((AV.v (TV.one (At.sl 0 0 r.1 1))), [(Blk.mk Bool.true (Body.fl FloatKind.f32 r.2))])) (fun r => rfl) hp)
  · cases hp)
noncomputable def z01 : List PT → Option (Bool × AV × List Blk)
  | [.one (.row 3 s_n (.fl .f32 s))] => some ((z7l s_n s), ((AV.v (TV.one (At.sl 0 0 (z7c s_n s) 3))), [(Blk.mk Bool.true (Body.fl FloatKind.f32 (z7g s_n s)))]))
  | _ => none
def z6a (s_n : Nat) (s : List Nat) : Option (Nat × (List Nat)) → Option (AV × List Blk)
  | some r => some ((AV.v (TV.one (At.sl 0 0 r.1 3))), [(Blk.mk Bool.true (Body.fl FloatKind.f32 r.2))])
  | none => none
theorem ziv (s_n : Nat) (s : List Nat) : ∀ a b, (z6a s_n s) a = (z6a s_n s) b → a = b := by
  intro a b h
  cases a <;> cases b <;> simp_all [z6a, Prod.ext_iff]
theorem zkn (s_n : Nat) (s : List Nat) : evFn Γ0 8 8 115 (impTs 0 [.one (.row 3 s_n (.fl .f32 s))]).1 (impTs 0 [.one (.row 3 s_n (.fl .f32 s))]).2 (expo (impTs 0 [.one (.row 3 s_n (.fl .f32 s))]).2.length) = z5t s_n s (fun c0_ c1_ => some ((AV.v (TV.one (At.sl 0 0 c0_ 3))), [(Blk.mk Bool.true (Body.fl FloatKind.f32 c1_))])) := by kernel_rfl
theorem z00 : SumOne Try.prog 115 z01 := sum_of (Γ := Γ0) (fuel := 8) (d := 8) tyTab_ok (FnL.ok fnTab_ok _ _) (LpL.ok lt0_ok) (SumL.ok tb0_ok _) mixed (by
  intro pts v news hp hc
  clear hc
  unfold z01 at hp
  split at hp
  · rename_i s_n s
    exact Eq.trans (Eq.trans (zkn s_n s) (zgx (z6a s_n s) rfl (ziv s_n s) s_n s (fun c0_ c1_ => some (c0_, c1_)))) (fin_out (o := (z6a s_n s)) (x := z56 s_n s) (d := default) (V := fun r => ((AV.v (TV.one (At.sl 0 0 r.1 3))), [(Blk.mk Bool.true (Body.fl FloatKind.f32 r.2))])) (fun r => rfl) hp)
  · cases hp)
noncomputable def tb1 : List (Nat × (List PT → Option (Bool × AV × List Blk))) := [(125, z2f), (128, z0v), (134, z1i), (137, z2g), (18, z2p), (44, z2n), (48, z27), (54, z3f), (61, z2m), (63, z4f), (64, z42), (66, z43), (80, z28), (97, z3e), (104, z0s), (115, z01)]
noncomputable def lt1 : List ((Nat × Nat) × (Nat → St → Option (Bool × LO))) := []
noncomputable def Γ1 : Ctx := ⟨tyTab, fnTab, tblSum tb1, tblLp lt1⟩
theorem tb1_ok : SumL Try.prog tb1 := SumL.cons z1g (SumL.cons z0l (SumL.cons z14 (SumL.cons z1h (SumL.cons z1s (SumL.cons z1p (SumL.cons z1f (SumL.cons z24 (SumL.cons z1q (SumL.cons z3s (SumL.cons z39 (SumL.cons z38 (SumL.cons z1d (SumL.cons z25 (SumL.cons z0k (SumL.cons z00 (SumL.nil))))))))))))))))
theorem lt1_ok : LpL Try.prog fnTab lt1 := LpL.nil
noncomputable def z34 : List PT → Option (Bool × AV × List Blk)
  | [.agg [.row 1 q0t (.fl .f32 q0z), .row 1 q0v (.fl .f32 q13), .row 1 q0w (.fl .f32 q15)], .one (.s (.int .i64 q2c))] => some ((zl1 q0t q0z q0v q13 q0w q15 q2c), ((AV.v (TV.one (At.int IntKind.i64 (zap q0t q0z q0v q13 q0w q15 q2c)))), []))
  | _ => none
def zo0 (q0t : Nat) (q0z : List Nat) (q0v : Nat) (q13 : List Nat) (q0w : Nat) (q15 : List Nat) (q2c : Int) : Option (Int) → Option (AV × List Blk)
  | some r => some ((AV.v (TV.one (At.int IntKind.i64 r))), [])
  | none => none
theorem zsq (q0t : Nat) (q0z : List Nat) (q0v : Nat) (q13 : List Nat) (q0w : Nat) (q15 : List Nat) (q2c : Int) : evFn Γ1 8 8 14 (impTs 0 [.agg [.row 1 q0t (.fl .f32 q0z), .row 1 q0v (.fl .f32 q13), .row 1 q0w (.fl .f32 q15)], .one (.s (.int .i64 q2c))]).1 (impTs 0 [.agg [.row 1 q0t (.fl .f32 q0z), .row 1 q0v (.fl .f32 q13), .row 1 q0w (.fl .f32 q15)], .one (.s (.int .i64 q2c))]).2 (expo (impTs 0 [.agg [.row 1 q0t (.fl .f32 q0z), .row 1 q0v (.fl .f32 q13), .row 1 q0w (.fl .f32 q15)], .one (.s (.int .i64 q2c))]).2.length) = zdt q0t q0z q0v q13 q0w q15 q2c (fun c0_ => some ((AV.v (TV.one (At.int IntKind.i64 c0_))), [])) := by kernel_rfl
theorem z20 : SumOne Try.prog 14 z34 := sum_of (Γ := Γ1) (fuel := 8) (d := 8) tyTab_ok (FnL.ok fnTab_ok _ _) (LpL.ok lt1_ok) (SumL.ok tb1_ok _) mixed (by
  intro pts v news hp hc
  clear hc
  unfold z34 at hp
  split at hp
  · rename_i q0t q0z q0v q13 q0w q15 q2c
    exact Eq.trans (Eq.trans (zsq q0t q0z q0v q13 q0w q15 q2c) (zq8 (zo0 q0t q0z q0v q13 q0w q15 q2c) rfl q0t q0z q0v q13 q0w q15 q2c (fun c0_ => some c0_))) (fin_out (o := (zo0 q0t q0z q0v q13 q0w q15 q2c)) (x := zdz q0t q0z q0v q13 q0w q15 q2c) (d := default) (V := fun r => ((AV.v (TV.one (At.int IntKind.i64 r))), [])) (fun r => rfl) hp)
  · cases hp)
noncomputable def z1x : List PT → Option (Bool × AV × List Blk)
  | [.agg [.row 1 q12 (.fl .f32 q1r), .row 1 q1c (.fl .f32 q26), .row 1 q1b (.fl .f32 q25)]] => some ((zhd q12 q1r q1c q26 q1b q25), ((AV.v (TV.agg [(At.sl 0 0 (zfu q12 q1r q1c q26 q1b q25) 1), (At.sl 1 0 (zfv q12 q1r q1c q26 q1b q25) 1), (At.sl 2 0 (zfx q12 q1r q1c q26 q1b q25) 1)])), [(Blk.mk Bool.true (Body.fl FloatKind.f32 (zfw q12 q1r q1c q26 q1b q25))), (Blk.mk Bool.true (Body.fl FloatKind.f32 (zfo q12 q1r q1c q26 q1b q25))), (Blk.mk Bool.true (Body.fl FloatKind.f32 (zfz q12 q1r q1c q26 q1b q25)))]))
  | _ => none
def zmv (q12 : Nat) (q1r : List Nat) (q1c : Nat) (q26 : List Nat) (q1b : Nat) (q25 : List Nat) : Option (Nat × Nat × Nat × (List Nat) × (List Nat) × (List Nat)) → Option (AV × List Blk)
  | some r => some ((AV.v (TV.agg [(At.sl 0 0 r.1 1), (At.sl 1 0 r.2.1 1), (At.sl 2 0 r.2.2.1 1)])), [(Blk.mk Bool.true (Body.fl FloatKind.f32 r.2.2.2.1)), (Blk.mk Bool.true (Body.fl FloatKind.f32 r.2.2.2.2.1)), (Blk.mk Bool.true (Body.fl FloatKind.f32 r.2.2.2.2.2))])
  | none => none
theorem zra (q12 : Nat) (q1r : List Nat) (q1c : Nat) (q26 : List Nat) (q1b : Nat) (q25 : List Nat) : evFn Γ1 8 8 67 (impTs 0 [.agg [.row 1 q12 (.fl .f32 q1r), .row 1 q1c (.fl .f32 q26), .row 1 q1b (.fl .f32 q25)]]).1 (impTs 0 [.agg [.row 1 q12 (.fl .f32 q1r), .row 1 q1c (.fl .f32 q26), .row 1 q1b (.fl .f32 q25)]]).2 (expo (impTs 0 [.agg [.row 1 q12 (.fl .f32 q1r), .row 1 q1c (.fl .f32 q26), .row 1 q1b (.fl .f32 q25)]]).2.length) = zc8 q12 q1r q1c q26 q1b q25 (fun c0_ c1_ c2_ c3_ c4_ c5_ => some ((AV.v (TV.agg [(At.sl 0 0 c0_ 1), (At.sl 1 0 c1_ 1), (At.sl 2 0 c2_ 1)])), [(Blk.mk Bool.true (Body.fl FloatKind.f32 c3_)), (Blk.mk Bool.true (Body.fl FloatKind.f32 c4_)), (Blk.mk Bool.true (Body.fl FloatKind.f32 c5_))])) := by kernel_rfl
theorem z1b : SumOne Try.prog 67 z1x := sum_of (Γ := Γ1) (fuel := 8) (d := 8) tyTab_ok (FnL.ok fnTab_ok _ _) (LpL.ok lt1_ok) (SumL.ok tb1_ok _) mixed (by
  intro pts v news hp hc
  clear hc
  unfold z1x at hp
  split at hp
  · rename_i q12 q1r q1c q26 q1b q25
    exact Eq.trans (Eq.trans (zra q12 q1r q1c q26 q1b q25) (zp4 (zmv q12 q1r q1c q26 q1b q25) rfl q12 q1r q1c q26 q1b q25 (fun c0_ c1_ c2_ c3_ c4_ c5_ => some (c0_, c1_, c2_, c3_, c4_, c5_)))) (fin_out (o := (zmv q12 q1r q1c q26 q1b q25)) (x := z6y q12 q1r q1c q26 q1b q25) (d := default) (V := fun r => ((AV.v (TV.agg [(At.sl 0 0 r.1 1), (At.sl 1 0 r.2.1 1), (At.sl 2 0 r.2.2.1 1)])), [(Blk.mk Bool.true (Body.fl FloatKind.f32 r.2.2.2.1)), (Blk.mk Bool.true (Body.fl FloatKind.f32 r.2.2.2.2.1)), (Blk.mk Bool.true (Body.fl FloatKind.f32 r.2.2.2.2.2))])) (fun r => rfl) hp)
  · cases hp)
noncomputable def z46 : List PT → Option (Bool × AV × List Blk)
  | [.ptr [.row 1 q08 (.fl .f32 q0e), .row 1 q09 (.fl .f32 q0g), .row 1 q0a (.fl .f32 q0f), .row 3 q0h (.fl .f32 q0i), .s (.int .i64 q0n), .s (.flt .f32 q0s), .s (.flt .f32 q0r)]] => some ((zme q08 q0e q09 q0g q0a q0f q0h q0i q0n q0s q0r), ((AV.v (TV.agg [(At.sl 0 0 (zc4 q08 q0e q09 q0g q0a q0f q0h q0i q0n q0s q0r) 1), (At.sl 1 0 (zc7 q08 q0e q09 q0g q0a q0f q0h q0i q0n q0s q0r) 1), (At.sl 2 0 (zcf q08 q0e q09 q0g q0a q0f q0h q0i q0n q0s q0r) 1), (At.sl 3 0 (z6b q08 q0e q09 q0g q0a q0f q0h q0i q0n q0s q0r) 3), (At.int IntKind.i64 q0n), (At.flt FloatKind.f32 q0s), (At.flt FloatKind.f32 q0r)])), [(Blk.mk Bool.true (Body.fl FloatKind.f32 (zf4 q08 q0e q09 q0g q0a q0f q0h q0i q0n q0s q0r))), (Blk.mk Bool.true (Body.fl FloatKind.f32 (zf6 q08 q0e q09 q0g q0a q0f q0h q0i q0n q0s q0r))), (Blk.mk Bool.true (Body.fl FloatKind.f32 (zf8 q08 q0e q09 q0g q0a q0f q0h q0i q0n q0s q0r))), (Blk.mk Bool.true (Body.fl FloatKind.f32 (ze1 q08 q0e q09 q0g q0a q0f q0h q0i q0n q0s q0r)))]))
  | _ => none
def zqr (q08 : Nat) (q0e : List Nat) (q09 : Nat) (q0g : List Nat) (q0a : Nat) (q0f : List Nat) (q0h : Nat) (q0i : List Nat) (q0n : Int) (q0s : Nat) (q0r : Nat) : Option (Nat × Nat × Nat × Nat × (List Nat) × (List Nat) × (List Nat) × (List Nat)) → Option (AV × List Blk)
  | some r => some ((AV.v (TV.agg [(At.sl 0 0 r.1 1), (At.sl 1 0 r.2.1 1), (At.sl 2 0 r.2.2.1 1), (At.sl 3 0 r.2.2.2.1 3), (At.int IntKind.i64 q0n), (At.flt FloatKind.f32 q0s), (At.flt FloatKind.f32 q0r)])), [(Blk.mk Bool.true (Body.fl FloatKind.f32 r.2.2.2.2.1)), (Blk.mk Bool.true (Body.fl FloatKind.f32 r.2.2.2.2.2.1)), (Blk.mk Bool.true (Body.fl FloatKind.f32 r.2.2.2.2.2.2.1)), (Blk.mk Bool.true (Body.fl FloatKind.f32 r.2.2.2.2.2.2.2))])
  | none => none
theorem zte (q08 : Nat) (q0e : List Nat) (q09 : Nat) (q0g : List Nat) (q0a : Nat) (q0f : List Nat) (q0h : Nat) (q0i : List Nat) (q0n : Int) (q0s : Nat) (q0r : Nat) : evFn Γ1 8 8 92 (impTs 0 [.ptr [.row 1 q08 (.fl .f32 q0e), .row 1 q09 (.fl .f32 q0g), .row 1 q0a (.fl .f32 q0f), .row 3 q0h (.fl .f32 q0i), .s (.int .i64 q0n), .s (.flt .f32 q0s), .s (.flt .f32 q0r)]]).1 (impTs 0 [.ptr [.row 1 q08 (.fl .f32 q0e), .row 1 q09 (.fl .f32 q0g), .row 1 q0a (.fl .f32 q0f), .row 3 q0h (.fl .f32 q0i), .s (.int .i64 q0n), .s (.flt .f32 q0s), .s (.flt .f32 q0r)]]).2 (expo (impTs 0 [.ptr [.row 1 q08 (.fl .f32 q0e), .row 1 q09 (.fl .f32 q0g), .row 1 q0a (.fl .f32 q0f), .row 3 q0h (.fl .f32 q0i), .s (.int .i64 q0n), .s (.flt .f32 q0s), .s (.flt .f32 q0r)]]).2.length) = zgr q08 q0e q09 q0g q0a q0f q0h q0i q0n q0s q0r (fun c0_ c1_ c2_ c3_ c4_ c5_ c6_ c7_ => some ((AV.v (TV.agg [(At.sl 0 0 c0_ 1), (At.sl 1 0 c1_ 1), (At.sl 2 0 c2_ 1), (At.sl 3 0 c3_ 3), (At.int IntKind.i64 q0n), (At.flt FloatKind.f32 q0s), (At.flt FloatKind.f32 q0r)])), [(Blk.mk Bool.true (Body.fl FloatKind.f32 c4_)), (Blk.mk Bool.true (Body.fl FloatKind.f32 c5_)), (Blk.mk Bool.true (Body.fl FloatKind.f32 c6_)), (Blk.mk Bool.true (Body.fl FloatKind.f32 c7_))])) := by kernel_rfl
theorem z3h : SumOne Try.prog 92 z46 := sum_of (Γ := Γ1) (fuel := 8) (d := 8) tyTab_ok (FnL.ok fnTab_ok _ _) (LpL.ok lt1_ok) (SumL.ok tb1_ok _) mixed (by
  intro pts v news hp hc
  clear hc
  unfold z46 at hp
  split at hp
  · rename_i q08 q0e q09 q0g q0a q0f q0h q0i q0n q0s q0r
    exact Eq.trans (Eq.trans (zte q08 q0e q09 q0g q0a q0f q0h q0i q0n q0s q0r) (zs6 (zqr q08 q0e q09 q0g q0a q0f q0h q0i q0n q0s q0r) rfl q08 q0e q09 q0g q0a q0f q0h q0i q0n q0s q0r (fun c0_ c1_ c2_ c3_ c4_ c5_ c6_ c7_ => some (c0_, c1_, c2_, c3_, c4_, c5_, c6_, c7_)))) (fin_out (o := (zqr q08 q0e q09 q0g q0a q0f q0h q0i q0n q0s q0r)) (x := z8m q08 q0e q09 q0g q0a q0f q0h q0i q0n q0s q0r) (d := default) (V := fun r => ((AV.v (TV.agg [(At.sl 0 0 r.1 1), (At.sl 1 0 r.2.1 1), (At.sl 2 0 r.2.2.1 1), (At.sl 3 0 r.2.2.2.1 3), (At.int IntKind.i64 q0n), (At.flt FloatKind.f32 q0s), (At.flt FloatKind.f32 q0r)])), [(Blk.mk Bool.true (Body.fl FloatKind.f32 r.2.2.2.2.1)), (Blk.mk Bool.true (Body.fl FloatKind.f32 r.2.2.2.2.2.1)), (Blk.mk Bool.true (Body.fl FloatKind.f32 r.2.2.2.2.2.2.1)), (Blk.mk Bool.true (Body.fl FloatKind.f32 r.2.2.2.2.2.2.2))])) (fun r => rfl) hp)
  · cases hp)
noncomputable def z3j : List PT → Option (Bool × AV × List Blk)
  | [.one (.s (.flt .f32 x))] => some ((zar x), ((AV.v (TV.one (At.bool (za9 x)))), []))
  | _ => none
def zoe (x : Nat) : Option (Bool) → Option (AV × List Blk)
  | some r => some ((AV.v (TV.one (At.bool r))), [])
  | none => none
theorem zsv (x : Nat) : evFn Γ1 8 8 103 (impTs 0 [.one (.s (.flt .f32 x))]).1 (impTs 0 [.one (.s (.flt .f32 x))]).2 (expo (impTs 0 [.one (.s (.flt .f32 x))]).2.length) = zei x (fun c0_ => some ((AV.v (TV.one (At.bool c0_))), [])) := by kernel_rfl
theorem z2c : SumOne Try.prog 103 z3j := sum_of (Γ := Γ1) (fuel := 8) (d := 8) tyTab_ok (FnL.ok fnTab_ok _ _) (LpL.ok lt1_ok) (SumL.ok tb1_ok _) mixed (by
  intro pts v news hp hc
  clear hc
  unfold z3j at hp
  split at hp
  · rename_i x
    exact Eq.trans (Eq.trans (zsv x) (zr3 (zoe x) rfl x (fun c0_ => some c0_))) (fin_out (o := (zoe x)) (x := zef x) (d := default) (V := fun r => ((AV.v (TV.one (At.bool r))), [])) (fun r => rfl) hp)
  · cases hp)
noncomputable def z35 : List PT → Option (Bool × AV × List Blk)
  | [.agg [.s (.flt .f32 q2g), .s (.flt .f32 q2o), .s (.flt .f32 q2p)], .agg [.s (.flt .f32 q37), .s (.flt .f32 q3d), .s (.flt .f32 q3c)]] => some ((zl4 q2g q2o q2p q37 q3d q3c), ((AV.v (TV.one (At.bool (zjj q2g q2o q2p q37 q3d q3c)))), []))
  | _ => none
def znk (q2g : Nat) (q2o : Nat) (q2p : Nat) (q37 : Nat) (q3d : Nat) (q3c : Nat) : Option (Bool) → Option (AV × List Blk)
  | some r => some ((AV.v (TV.one (At.bool r))), [])
  | none => none
theorem zsr (q2g : Nat) (q2o : Nat) (q2p : Nat) (q37 : Nat) (q3d : Nat) (q3c : Nat) : evFn Γ1 8 8 105 (impTs 0 [.agg [.s (.flt .f32 q2g), .s (.flt .f32 q2o), .s (.flt .f32 q2p)], .agg [.s (.flt .f32 q37), .s (.flt .f32 q3d), .s (.flt .f32 q3c)]]).1 (impTs 0 [.agg [.s (.flt .f32 q2g), .s (.flt .f32 q2o), .s (.flt .f32 q2p)], .agg [.s (.flt .f32 q37), .s (.flt .f32 q3d), .s (.flt .f32 q3c)]]).2 (expo (impTs 0 [.agg [.s (.flt .f32 q2g), .s (.flt .f32 q2o), .s (.flt .f32 q2p)], .agg [.s (.flt .f32 q37), .s (.flt .f32 q3d), .s (.flt .f32 q3c)]]).2.length) = ze3 q2g q2o q2p q37 q3d q3c (fun c0_ => some ((AV.v (TV.one (At.bool c0_))), [])) := by kernel_rfl
theorem z1z : SumOne Try.prog 105 z35 := sum_of (Γ := Γ1) (fuel := 8) (d := 8) tyTab_ok (FnL.ok fnTab_ok _ _) (LpL.ok lt1_ok) (SumL.ok tb1_ok _) mixed (by
  intro pts v news hp hc
  clear hc
  unfold z35 at hp
  split at hp
  · rename_i q2g q2o q2p q37 q3d q3c
    exact Eq.trans (Eq.trans (zsr q2g q2o q2p q37 q3d q3c) (zqe (znk q2g q2o q2p q37 q3d q3c) rfl q2g q2o q2p q37 q3d q3c (fun c0_ => some c0_))) (fin_out (o := (znk q2g q2o q2p q37 q3d q3c)) (x := zdw q2g q2o q2p q37 q3d q3c) (d := default) (V := fun r => ((AV.v (TV.one (At.bool r))), [])) (fun r => rfl) hp)
  · cases hp)
noncomputable def z3w : List PT → Option (Bool × AV × List Blk)
  | [.one (.s (.flt .f32 x))] => some ((zkb x), ((AV.v (TV.one (At.bool (zh5 x)))), []))
  | _ => none
def zpp (x : Nat) : Option (Bool) → Option (AV × List Blk)
  | some r => some ((AV.v (TV.one (At.bool r))), [])
  | none => none
theorem zta (x : Nat) : evFn Γ1 8 8 111 (impTs 0 [.one (.s (.flt .f32 x))]).1 (impTs 0 [.one (.s (.flt .f32 x))]).2 (expo (impTs 0 [.one (.s (.flt .f32 x))]).2.length) = zf3 x (fun c0_ => some ((AV.v (TV.one (At.bool c0_))), [])) := by kernel_rfl
theorem z30 : SumOne Try.prog 111 z3w := sum_of (Γ := Γ1) (fuel := 8) (d := 8) tyTab_ok (FnL.ok fnTab_ok _ _) (LpL.ok lt1_ok) (SumL.ok tb1_ok _) mixed (by
  intro pts v news hp hc
  clear hc
  unfold z3w at hp
  split at hp
  · rename_i x
    exact Eq.trans (Eq.trans (zta x) (zrl (zpp x) rfl x (fun c0_ => some c0_))) (fin_out (o := (zpp x)) (x := zf2 x) (d := default) (V := fun r => ((AV.v (TV.one (At.bool r))), [])) (fun r => rfl) hp)
  · cases hp)
noncomputable def z3k : List PT → Option (Bool × AV × List Blk)
  | [.one (.s (.flt .f32 x))] => some ((zld x), ((AV.v (TV.one (At.bool (zl5 x)))), []))
  | _ => none
def zoi (x : Nat) : Option (Bool) → Option (AV × List Blk)
  | some r => some ((AV.v (TV.one (At.bool r))), [])
  | none => none
theorem zss (x : Nat) : evFn Γ1 8 8 114 (impTs 0 [.one (.s (.flt .f32 x))]).1 (impTs 0 [.one (.s (.flt .f32 x))]).2 (expo (impTs 0 [.one (.s (.flt .f32 x))]).2.length) = zee x (fun c0_ => some ((AV.v (TV.one (At.bool c0_))), [])) := by kernel_rfl
theorem z2b : SumOne Try.prog 114 z3k := sum_of (Γ := Γ1) (fuel := 8) (d := 8) tyTab_ok (FnL.ok fnTab_ok _ _) (LpL.ok lt1_ok) (SumL.ok tb1_ok _) mixed (by
  intro pts v news hp hc
  clear hc
  unfold z3k at hp
  split at hp
  · rename_i x
    exact Eq.trans (Eq.trans (zss x) (zr1 (zoi x) rfl x (fun c0_ => some c0_))) (fin_out (o := (zoi x)) (x := zeg x) (d := default) (V := fun r => ((AV.v (TV.one (At.bool r))), [])) (fun r => rfl) hp)
  · cases hp)
noncomputable def z1y : List PT → Option (Bool × AV × List Blk)
  | [.one (.s (.flt .f32 x))] => some ((zha x), ((AV.v (TV.one (At.bool (zfp x)))), []))
  | _ => none
def zmt (x : Nat) : Option (Bool) → Option (AV × List Blk)
  | some r => some ((AV.v (TV.one (At.bool r))), [])
  | none => none
theorem zr8 (x : Nat) : evFn Γ1 8 8 118 (impTs 0 [.one (.s (.flt .f32 x))]).1 (impTs 0 [.one (.s (.flt .f32 x))]).2 (expo (impTs 0 [.one (.s (.flt .f32 x))]).2.length) = zcc x (fun c0_ => some ((AV.v (TV.one (At.bool c0_))), [])) := by kernel_rfl
theorem z1c : SumOne Try.prog 118 z1y := sum_of (Γ := Γ1) (fuel := 8) (d := 8) tyTab_ok (FnL.ok fnTab_ok _ _) (LpL.ok lt1_ok) (SumL.ok tb1_ok _) mixed (by
  intro pts v news hp hc
  clear hc
  unfold z1y at hp
  split at hp
  · rename_i x
    exact Eq.trans (Eq.trans (zr8 x) (zoo (zmt x) rfl x (fun c0_ => some c0_))) (fin_out (o := (zmt x)) (x := zc6 x) (d := default) (V := fun r => ((AV.v (TV.one (At.bool r))), [])) (fun r => rfl) hp)
  · cases hp)
noncomputable def z19 : List PT → Option (Bool × AV × List Blk)
  | [.one (.s (.flt .f32 x))] => some ((zev x), ((AV.v (TV.one (At.bool (zeh x)))), []))
  | _ => none
def zmj (x : Nat) : Option (Bool) → Option (AV × List Blk)
  | some r => some ((AV.v (TV.one (At.bool r))), [])
  | none => none
theorem zq3 (x : Nat) : evFn Γ1 8 8 122 (impTs 0 [.one (.s (.flt .f32 x))]).1 (impTs 0 [.one (.s (.flt .f32 x))]).2 (expo (impTs 0 [.one (.s (.flt .f32 x))]).2.length) = zae x (fun c0_ => some ((AV.v (TV.one (At.bool c0_))), [])) := by kernel_rfl
theorem z0y : SumOne Try.prog 122 z19 := sum_of (Γ := Γ1) (fuel := 8) (d := 8) tyTab_ok (FnL.ok fnTab_ok _ _) (LpL.ok lt1_ok) (SumL.ok tb1_ok _) mixed (by
  intro pts v news hp hc
  clear hc
  unfold z19 at hp
  split at hp
  · rename_i x
    exact Eq.trans (Eq.trans (zq3 x) (znj (zmj x) rfl x (fun c0_ => some c0_))) (fin_out (o := (zmj x)) (x := zad x) (d := default) (V := fun r => ((AV.v (TV.one (At.bool r))), [])) (fun r => rfl) hp)
  · cases hp)
noncomputable def zm8 (an : Nat) (q2l : Nat) (i : Int) (b0 : List Nat) (b1 : List Nat) : Bool × LO := ((zcv an q2l b0 i b1), (LO.one (Ex.exit 0) (St.mk [(0, (AV.v (TV.one (At.vw 0 0 an 1)))), (3, (AV.v (TV.one (At.sl 1 0 q2l 1)))), (4, (AV.v (TV.one (At.int IntKind.i64 (zgm an q2l b0 i b1))))), (11, (AV.v (TV.one (At.bool (zgh an q2l b0 i b1)))))] [(Blk.mk Bool.false (Body.fl FloatKind.f32 b0)), (Blk.mk Bool.true (Body.fl FloatKind.f32 (zal an q2l b0 i b1)))])))
noncomputable def z1e : Nat → St → Option (Bool × LO) := lpT 1 (pSt [(pTm 0 (pV (pOne (pVw 0 (liN 0) 1)))), (pTm 3 (pV (pOne (pSl 1 (liN 0) 1)))), (pTm 4 (pV (pOne (pInt IntKind.i64))))] [(pBlk Bool.false (pFl FloatKind.f32)), (pBlk Bool.true (pFl FloatKind.f32))]) (fun hs => zm8 (hvN (hGet hs 0)) (hvN (hGet hs 1)) (hvI (hGet hs 2)) (hvLn (hGet hs 3)) (hvLn (hGet hs 4)))
def zem (an : Nat) (q2l : Nat) (b0 : List Nat) : Option ((Int × Bool × (List Nat))) → Option (Ex × St)
  | none => none
  | some r => some ((Ex.exit 0), (St.mk [(0, (AV.v (TV.one (At.vw 0 0 an 1)))), (3, (AV.v (TV.one (At.sl 1 0 q2l 1)))), (4, (AV.v (TV.one (At.int IntKind.i64 r.1)))), (11, (AV.v (TV.one (At.bool r.2.1))))] [(Blk.mk Bool.false (Body.fl FloatKind.f32 b0)), (Blk.mk Bool.true (Body.fl FloatKind.f32 r.2.2))]))
def zp9 (an : Nat) (q2l : Nat) (b0 : List Nat) (x : Option ((Int × Bool × (List Nat)))) : LO := (LO.one (Ex.exit 0) (St.mk [(0, (AV.v (TV.one (At.vw 0 0 an 1)))), (3, (AV.v (TV.one (At.sl 1 0 q2l 1)))), (4, (AV.v (TV.one (At.int IntKind.i64 (x.getD default).1)))), (11, (AV.v (TV.one (At.bool (x.getD default).2.1))))] [(Blk.mk Bool.false (Body.fl FloatKind.f32 b0)), (Blk.mk Bool.true (Body.fl FloatKind.f32 (x.getD default).2.2))]))
theorem zq1 (an : Nat) (q2l : Nat) (b0 : List Nat) : ∀ x : Option ((Int × Bool × (List Nat))), x.isSome = true → (zem an q2l b0) x = some (pick (zp9 an q2l b0 x))
  | none, h => by cases h
  | some r, _ => rfl
theorem zql (an : Nat) (q2l : Nat) (i : Int) (b0 : List Nat) (b1 : List Nat) (K : Ex → St → Option (Ex × St)) : evC (R := Ex × St) Γ1 (evFn Γ1 8 8) 52 1 fi52.nt fi52.live fi52.nl 8 (findL 3 (loopsIn fi52.code)) (St.mk [(0, (AV.v (TV.one (At.vw 0 0 an 1)))), (3, (AV.v (TV.one (At.sl 1 0 q2l 1)))), (4, (AV.v (TV.one (At.int IntKind.i64 i))))] [(Blk.mk Bool.false (Body.fl FloatKind.f32 b0)), (Blk.mk Bool.true (Body.fl FloatKind.f32 b1))]) K = z7t an q2l b0 i b1 (fun i' b1' => K .normal (St.mk [(0, (AV.v (TV.one (At.vw 0 0 an 1)))), (3, (AV.v (TV.one (At.sl 1 0 q2l 1)))), (4, (AV.v (TV.one (At.int IntKind.i64 i'))))] [(Blk.mk Bool.false (Body.fl FloatKind.f32 b0)), (Blk.mk Bool.true (Body.fl FloatKind.f32 b1'))])) (fun c0_ c1_ c2_ => K (Ex.exit 0) (St.mk [(0, (AV.v (TV.one (At.vw 0 0 an 1)))), (3, (AV.v (TV.one (At.sl 1 0 q2l 1)))), (4, (AV.v (TV.one (At.int IntKind.i64 c0_)))), (11, (AV.v (TV.one (At.bool c1_))))] [(Blk.mk Bool.false (Body.fl FloatKind.f32 b0)), (Blk.mk Bool.true (Body.fl FloatKind.f32 c2_))])) := by kernel_rfl
theorem zq5 (an : Nat) (q2l : Nat) (b0 : List Nat) : ∀ (n : Nat) (i : Int) (b1 : List Nat), iter 52 3 1 (evC (R := Ex × St) Γ1 (evFn Γ1 8 8) 52 1 fi52.nt fi52.live fi52.nl 8 (findL 3 (loopsIn fi52.code))) n (St.mk [(0, (AV.v (TV.one (At.vw 0 0 an 1)))), (3, (AV.v (TV.one (At.sl 1 0 q2l 1)))), (4, (AV.v (TV.one (At.int IntKind.i64 i))))] [(Blk.mk Bool.false (Body.fl FloatKind.f32 b0)), (Blk.mk Bool.true (Body.fl FloatKind.f32 b1))]) (fun e st => some (e, st)) = (zem an q2l b0) (z65 an q2l b0 n i b1) := by
  intro n
  induction n with
  | zero => intros; rfl
  | succ n ih =>
    intro i b1
    refine Eq.trans (iter_succ ..) (Eq.trans (zql an q2l i b0 b1 (nextK 52 3 1 (evC (R := Ex × St) Γ1 (evFn Γ1 8 8) 52 1 fi52.nt fi52.live fi52.nl 8 (findL 3 (loopsIn fi52.code))) n (fun e st => some (e, st)))) (Eq.trans ?_ (znz (zem an q2l b0) rfl an q2l b0 i b1 (fun i' b1' => z65 an q2l b0 n i' b1') (fun c0_ c1_ c2_ => some (c0_, c1_, c2_)))))
    exact congrArg (fun kn_ => z7t an q2l b0 i b1 kn_ (fun c0_ c1_ c2_ => (zem an q2l b0) (some (c0_, c1_, c2_)))) (funext fun i' => funext fun b1' => ih i' b1')
theorem z0z : LoopOne Try.prog fnTab 52 3 z1e := lp_of (Γ := Γ1) tyTab_ok (FnL.ok fnTab_ok _ _) (LpL.ok lt1_ok) (SumL.ok tb1_ok _) mixed (fi := fi52) (by kernel_rfl) (by kernel_rfl) (by
  intro lo st out hp
  obtain ⟨hs, e1, e2, e3⟩ := lpT_inv hp
  clear hp
  obtain rfl : st = (St.mk [(0, (AV.v (TV.one (At.vw 0 0 (hvN (hGet hs 0)) 1)))), (3, (AV.v (TV.one (At.sl 1 0 (hvN (hGet hs 1)) 1)))), (4, (AV.v (TV.one (At.int IntKind.i64 (hvI (hGet hs 2))))))] [(Blk.mk Bool.false (Body.fl FloatKind.f32 (hvLn (hGet hs 3)))), (Blk.mk Bool.true (Body.fl FloatKind.f32 (hvLn (hGet hs 4))))]) := e2.trans (by kernel_rfl)
  clear e2
  subst e1
  unfold zm8 at e3
  injection e3 with h1 h2
  subst h2
  exact ⟨8, 8, big, Eq.trans (zq5 (hvN (hGet hs 0)) (hvN (hGet hs 1)) (hvLn (hGet hs 3)) big (hvI (hGet hs 2)) (hvLn (hGet hs 4))) (zq1 (hvN (hGet hs 0)) (hvN (hGet hs 1)) (hvLn (hGet hs 3)) (z65 (hvN (hGet hs 0)) (hvN (hGet hs 1)) (hvLn (hGet hs 3)) big (hvI (hGet hs 2)) (hvLn (hGet hs 4))) h1)⟩)
noncomputable def zlo (an : Nat) (k : Int) (i : Int) (b0 : List Nat) : Bool × LO := ((ze5 an b0 k i), (LO.two (zdk an b0 k i) (LO.one Ex.ret (St.mk [(4, (AV.v (TV.one (At.int IntKind.i64 (Int.negSucc 0)))))] [(Blk.mk Bool.false (Body.fl FloatKind.f32 b0))])) (LO.one (Ex.exit 0) (St.mk [(0, (AV.v (TV.one (At.vw 0 0 an 3)))), (1, (AV.v (TV.one (At.int IntKind.i64 (zck an b0 k i))))), (5, (AV.v (TV.one (At.int IntKind.i64 (zf0 an b0 k i))))), (9, (AV.v (TV.one (At.bool (zet an b0 k i)))))] [(Blk.mk Bool.false (Body.fl FloatKind.f32 b0))]))))
noncomputable def z10 : Nat → St → Option (Bool × LO) := lpT 1 (pSt [(pTm 0 (pV (pOne (pVw 0 (liN 0) 3)))), (pTm 1 (pV (pOne (pInt IntKind.i64)))), (pTm 5 (pV (pOne (pInt IntKind.i64))))] [(pBlk Bool.false (pFl FloatKind.f32))]) (fun hs => zlo (hvN (hGet hs 0)) (hvI (hGet hs 1)) (hvI (hGet hs 2)) (hvLn (hGet hs 3)))
def zb5 (an : Nat) (b0 : List Nat) : Option ((Unit) ⊕ (Int × Int × Bool)) → Option (Ex × St)
  | none => none
  | some (Sum.inl r) => some (Ex.ret, (St.mk [(4, (AV.v (TV.one (At.int IntKind.i64 (Int.negSucc 0)))))] [(Blk.mk Bool.false (Body.fl FloatKind.f32 b0))]))
  | some (Sum.inr r) => some ((Ex.exit 0), (St.mk [(0, (AV.v (TV.one (At.vw 0 0 an 3)))), (1, (AV.v (TV.one (At.int IntKind.i64 r.1)))), (5, (AV.v (TV.one (At.int IntKind.i64 r.2.1)))), (9, (AV.v (TV.one (At.bool r.2.2))))] [(Blk.mk Bool.false (Body.fl FloatKind.f32 b0))]))
def zo8 (an : Nat) (b0 : List Nat) (x : Option ((Unit) ⊕ (Int × Int × Bool))) : LO := (LO.two (oL x) (LO.one Ex.ret (St.mk [(4, (AV.v (TV.one (At.int IntKind.i64 (Int.negSucc 0)))))] [(Blk.mk Bool.false (Body.fl FloatKind.f32 b0))])) (LO.one (Ex.exit 0) (St.mk [(0, (AV.v (TV.one (At.vw 0 0 an 3)))), (1, (AV.v (TV.one (At.int IntKind.i64 ((tR x).getD default).1)))), (5, (AV.v (TV.one (At.int IntKind.i64 ((tR x).getD default).2.1)))), (9, (AV.v (TV.one (At.bool ((tR x).getD default).2.2))))] [(Blk.mk Bool.false (Body.fl FloatKind.f32 b0))])))
theorem zou (an : Nat) (b0 : List Nat) : ∀ x : Option ((Unit) ⊕ (Int × Int × Bool)), x.isSome = true → (zb5 an b0) x = some (pick (zo8 an b0 x))
  | none, h => by cases h
  | some (Sum.inl r), _ => rfl
  | some (Sum.inr r), _ => rfl
theorem zor (an : Nat) (k : Int) (i : Int) (b0 : List Nat) (K : Ex → St → Option (Ex × St)) : evC (R := Ex × St) Γ1 (evFn Γ1 8 8) 72 1 fi72.nt fi72.live fi72.nl 8 (findL 2 (loopsIn fi72.code)) (St.mk [(0, (AV.v (TV.one (At.vw 0 0 an 3)))), (1, (AV.v (TV.one (At.int IntKind.i64 k)))), (5, (AV.v (TV.one (At.int IntKind.i64 i))))] [(Blk.mk Bool.false (Body.fl FloatKind.f32 b0))]) K = z6w an b0 k i (fun k' i' => K .normal (St.mk [(0, (AV.v (TV.one (At.vw 0 0 an 3)))), (1, (AV.v (TV.one (At.int IntKind.i64 k')))), (5, (AV.v (TV.one (At.int IntKind.i64 i'))))] [(Blk.mk Bool.false (Body.fl FloatKind.f32 b0))])) (fun _ => K Ex.ret (St.mk [(4, (AV.v (TV.one (At.int IntKind.i64 (Int.negSucc 0)))))] [(Blk.mk Bool.false (Body.fl FloatKind.f32 b0))])) (fun c0_ c1_ c2_ => K (Ex.exit 0) (St.mk [(0, (AV.v (TV.one (At.vw 0 0 an 3)))), (1, (AV.v (TV.one (At.int IntKind.i64 c0_)))), (5, (AV.v (TV.one (At.int IntKind.i64 c1_)))), (9, (AV.v (TV.one (At.bool c2_))))] [(Blk.mk Bool.false (Body.fl FloatKind.f32 b0))])) := by kernel_rfl
theorem zp2 (an : Nat) (b0 : List Nat) : ∀ (n : Nat) (k : Int) (i : Int), iter 72 2 1 (evC (R := Ex × St) Γ1 (evFn Γ1 8 8) 72 1 fi72.nt fi72.live fi72.nl 8 (findL 2 (loopsIn fi72.code))) n (St.mk [(0, (AV.v (TV.one (At.vw 0 0 an 3)))), (1, (AV.v (TV.one (At.int IntKind.i64 k)))), (5, (AV.v (TV.one (At.int IntKind.i64 i))))] [(Blk.mk Bool.false (Body.fl FloatKind.f32 b0))]) (fun e st => some (e, st)) = (zb5 an b0) (z4r an b0 n k i) := by
  intro n
  induction n with
  | zero => intros; rfl
  | succ n ih =>
    intro k i
    refine Eq.trans (iter_succ ..) (Eq.trans (zor an k i b0 (nextK 72 2 1 (evC (R := Ex × St) Γ1 (evFn Γ1 8 8) 72 1 fi72.nt fi72.live fi72.nl 8 (findL 2 (loopsIn fi72.code))) n (fun e st => some (e, st)))) (Eq.trans ?_ (zn0 (zb5 an b0) rfl an b0 k i (fun k' i' => z4r an b0 n k' i') (fun _ => some (Sum.inl ())) (fun c0_ c1_ c2_ => some (Sum.inr (c0_, c1_, c2_))))))
    exact congrArg (fun kn_ => z6w an b0 k i kn_ (fun _ => (zb5 an b0) (some (Sum.inl ()))) (fun c0_ c1_ c2_ => (zb5 an b0) (some (Sum.inr (c0_, c1_, c2_))))) (funext fun k' => funext fun i' => ih k' i')
theorem z0r : LoopOne Try.prog fnTab 72 2 z10 := lp_of (Γ := Γ1) tyTab_ok (FnL.ok fnTab_ok _ _) (LpL.ok lt1_ok) (SumL.ok tb1_ok _) mixed (fi := fi72) (by kernel_rfl) (by kernel_rfl) (by
  intro lo st out hp
  obtain ⟨hs, e1, e2, e3⟩ := lpT_inv hp
  clear hp
  obtain rfl : st = (St.mk [(0, (AV.v (TV.one (At.vw 0 0 (hvN (hGet hs 0)) 3)))), (1, (AV.v (TV.one (At.int IntKind.i64 (hvI (hGet hs 1)))))), (5, (AV.v (TV.one (At.int IntKind.i64 (hvI (hGet hs 2))))))] [(Blk.mk Bool.false (Body.fl FloatKind.f32 (hvLn (hGet hs 3))))]) := e2.trans (by kernel_rfl)
  clear e2
  subst e1
  unfold zlo at e3
  injection e3 with h1 h2
  subst h2
  exact ⟨8, 8, big, Eq.trans (zp2 (hvN (hGet hs 0)) (hvLn (hGet hs 3)) big (hvI (hGet hs 1)) (hvI (hGet hs 2))) (zou (hvN (hGet hs 0)) (hvLn (hGet hs 3)) (z4r (hvN (hGet hs 0)) (hvLn (hGet hs 3)) big (hvI (hGet hs 1)) (hvI (hGet hs 2))) h1)⟩)
noncomputable def zlw (an : Nat) (k : Int) (i : Int) (b0 : List Nat) : Bool × LO := ((ze4 an b0 k i), (LO.two (zdl an b0 k i) (LO.one Ex.ret (St.mk [(4, (AV.v (TV.one (At.int IntKind.i64 (Int.negSucc 0)))))] [(Blk.mk Bool.false (Body.fl FloatKind.f32 b0))])) (LO.one (Ex.exit 0) (St.mk [(0, (AV.v (TV.one (At.vw 0 0 an 1)))), (1, (AV.v (TV.one (At.int IntKind.i64 (zcj an b0 k i))))), (5, (AV.v (TV.one (At.int IntKind.i64 (zep an b0 k i))))), (9, (AV.v (TV.one (At.bool (zf1 an b0 k i)))))] [(Blk.mk Bool.false (Body.fl FloatKind.f32 b0))]))))
noncomputable def z11 : Nat → St → Option (Bool × LO) := lpT 1 (pSt [(pTm 0 (pV (pOne (pVw 0 (liN 0) 1)))), (pTm 1 (pV (pOne (pInt IntKind.i64)))), (pTm 5 (pV (pOne (pInt IntKind.i64))))] [(pBlk Bool.false (pFl FloatKind.f32))]) (fun hs => zlw (hvN (hGet hs 0)) (hvI (hGet hs 1)) (hvI (hGet hs 2)) (hvLn (hGet hs 3)))
def zb6 (an : Nat) (b0 : List Nat) : Option ((Unit) ⊕ (Int × Int × Bool)) → Option (Ex × St)
  | none => none
  | some (Sum.inl r) => some (Ex.ret, (St.mk [(4, (AV.v (TV.one (At.int IntKind.i64 (Int.negSucc 0)))))] [(Blk.mk Bool.false (Body.fl FloatKind.f32 b0))]))
  | some (Sum.inr r) => some ((Ex.exit 0), (St.mk [(0, (AV.v (TV.one (At.vw 0 0 an 1)))), (1, (AV.v (TV.one (At.int IntKind.i64 r.1)))), (5, (AV.v (TV.one (At.int IntKind.i64 r.2.1)))), (9, (AV.v (TV.one (At.bool r.2.2))))] [(Blk.mk Bool.false (Body.fl FloatKind.f32 b0))]))
def zo7 (an : Nat) (b0 : List Nat) (x : Option ((Unit) ⊕ (Int × Int × Bool))) : LO := (LO.two (oL x) (LO.one Ex.ret (St.mk [(4, (AV.v (TV.one (At.int IntKind.i64 (Int.negSucc 0)))))] [(Blk.mk Bool.false (Body.fl FloatKind.f32 b0))])) (LO.one (Ex.exit 0) (St.mk [(0, (AV.v (TV.one (At.vw 0 0 an 1)))), (1, (AV.v (TV.one (At.int IntKind.i64 ((tR x).getD default).1)))), (5, (AV.v (TV.one (At.int IntKind.i64 ((tR x).getD default).2.1)))), (9, (AV.v (TV.one (At.bool ((tR x).getD default).2.2))))] [(Blk.mk Bool.false (Body.fl FloatKind.f32 b0))])))
theorem zos (an : Nat) (b0 : List Nat) : ∀ x : Option ((Unit) ⊕ (Int × Int × Bool)), x.isSome = true → (zb6 an b0) x = some (pick (zo7 an b0 x))
  | none, h => by cases h
  | some (Sum.inl r), _ => rfl
  | some (Sum.inr r), _ => rfl
theorem zoz (an : Nat) (k : Int) (i : Int) (b0 : List Nat) (K : Ex → St → Option (Ex × St)) : evC (R := Ex × St) Γ1 (evFn Γ1 8 8) 79 1 fi79.nt fi79.live fi79.nl 8 (findL 2 (loopsIn fi79.code)) (St.mk [(0, (AV.v (TV.one (At.vw 0 0 an 1)))), (1, (AV.v (TV.one (At.int IntKind.i64 k)))), (5, (AV.v (TV.one (At.int IntKind.i64 i))))] [(Blk.mk Bool.false (Body.fl FloatKind.f32 b0))]) K = z6u an b0 k i (fun k' i' => K .normal (St.mk [(0, (AV.v (TV.one (At.vw 0 0 an 1)))), (1, (AV.v (TV.one (At.int IntKind.i64 k')))), (5, (AV.v (TV.one (At.int IntKind.i64 i'))))] [(Blk.mk Bool.false (Body.fl FloatKind.f32 b0))])) (fun _ => K Ex.ret (St.mk [(4, (AV.v (TV.one (At.int IntKind.i64 (Int.negSucc 0)))))] [(Blk.mk Bool.false (Body.fl FloatKind.f32 b0))])) (fun c0_ c1_ c2_ => K (Ex.exit 0) (St.mk [(0, (AV.v (TV.one (At.vw 0 0 an 1)))), (1, (AV.v (TV.one (At.int IntKind.i64 c0_)))), (5, (AV.v (TV.one (At.int IntKind.i64 c1_)))), (9, (AV.v (TV.one (At.bool c2_))))] [(Blk.mk Bool.false (Body.fl FloatKind.f32 b0))])) := by kernel_rfl
theorem zox (an : Nat) (b0 : List Nat) : ∀ (n : Nat) (k : Int) (i : Int), iter 79 2 1 (evC (R := Ex × St) Γ1 (evFn Γ1 8 8) 79 1 fi79.nt fi79.live fi79.nl 8 (findL 2 (loopsIn fi79.code))) n (St.mk [(0, (AV.v (TV.one (At.vw 0 0 an 1)))), (1, (AV.v (TV.one (At.int IntKind.i64 k)))), (5, (AV.v (TV.one (At.int IntKind.i64 i))))] [(Blk.mk Bool.false (Body.fl FloatKind.f32 b0))]) (fun e st => some (e, st)) = (zb6 an b0) (z4t an b0 n k i) := by
  intro n
  induction n with
  | zero => intros; rfl
  | succ n ih =>
    intro k i
    refine Eq.trans (iter_succ ..) (Eq.trans (zoz an k i b0 (nextK 79 2 1 (evC (R := Ex × St) Γ1 (evFn Γ1 8 8) 79 1 fi79.nt fi79.live fi79.nl 8 (findL 2 (loopsIn fi79.code))) n (fun e st => some (e, st)))) (Eq.trans ?_ (zn1 (zb6 an b0) rfl an b0 k i (fun k' i' => z4t an b0 n k' i') (fun _ => some (Sum.inl ())) (fun c0_ c1_ c2_ => some (Sum.inr (c0_, c1_, c2_))))))
    exact congrArg (fun kn_ => z6u an b0 k i kn_ (fun _ => (zb6 an b0) (some (Sum.inl ()))) (fun c0_ c1_ c2_ => (zb6 an b0) (some (Sum.inr (c0_, c1_, c2_))))) (funext fun k' => funext fun i' => ih k' i')
theorem z0q : LoopOne Try.prog fnTab 79 2 z11 := lp_of (Γ := Γ1) tyTab_ok (FnL.ok fnTab_ok _ _) (LpL.ok lt1_ok) (SumL.ok tb1_ok _) mixed (fi := fi79) (by kernel_rfl) (by kernel_rfl) (by
  intro lo st out hp
  obtain ⟨hs, e1, e2, e3⟩ := lpT_inv hp
  clear hp
  obtain rfl : st = (St.mk [(0, (AV.v (TV.one (At.vw 0 0 (hvN (hGet hs 0)) 1)))), (1, (AV.v (TV.one (At.int IntKind.i64 (hvI (hGet hs 1)))))), (5, (AV.v (TV.one (At.int IntKind.i64 (hvI (hGet hs 2))))))] [(Blk.mk Bool.false (Body.fl FloatKind.f32 (hvLn (hGet hs 3))))]) := e2.trans (by kernel_rfl)
  clear e2
  subst e1
  unfold zlw at e3
  injection e3 with h1 h2
  subst h2
  exact ⟨8, 8, big, Eq.trans (zox (hvN (hGet hs 0)) (hvLn (hGet hs 3)) big (hvI (hGet hs 1)) (hvI (hGet hs 2))) (zos (hvN (hGet hs 0)) (hvLn (hGet hs 3)) (z4t (hvN (hGet hs 0)) (hvLn (hGet hs 3)) big (hvI (hGet hs 1)) (hvI (hGet hs 2))) h1)⟩)
noncomputable def tb2 : List (Nat × (List PT → Option (Bool × AV × List Blk))) := [(125, z2f), (128, z0v), (134, z1i), (137, z2g), (18, z2p), (44, z2n), (48, z27), (54, z3f), (61, z2m), (63, z4f), (64, z42), (66, z43), (80, z28), (97, z3e), (104, z0s), (115, z01), (14, z34), (67, z1x), (92, z46), (103, z3j), (105, z35), (111, z3w), (114, z3k), (118, z1y), (122, z19)]
noncomputable def lt2 : List ((Nat × Nat) × (Nat → St → Option (Bool × LO))) := [((52, 3), z1e), ((72, 2), z10), ((79, 2), z11)]
noncomputable def Γ2 : Ctx := ⟨tyTab, fnTab, tblSum tb2, tblLp lt2⟩
theorem tb2_ok : SumL Try.prog tb2 := SumL.cons z1g (SumL.cons z0l (SumL.cons z14 (SumL.cons z1h (SumL.cons z1s (SumL.cons z1p (SumL.cons z1f (SumL.cons z24 (SumL.cons z1q (SumL.cons z3s (SumL.cons z39 (SumL.cons z38 (SumL.cons z1d (SumL.cons z25 (SumL.cons z0k (SumL.cons z00 (SumL.cons z20 (SumL.cons z1b (SumL.cons z3h (SumL.cons z2c (SumL.cons z1z (SumL.cons z30 (SumL.cons z2b (SumL.cons z1c (SumL.cons z0y (SumL.nil)))))))))))))))))))))))))
theorem lt2_ok : LpL Try.prog fnTab lt2 := LpL.cons z0z (LpL.cons z0r (LpL.cons z0q (LpL.nil)))
noncomputable def z3y : List PT → Option (Bool × AV × List Blk)
  | [.agg [.row 1 q0j (.fl .f32 q0m), .row 1 q0k (.fl .f32 q0o), .row 1 q0l (.fl .f32 q0p), .row 3 q0q (.fl .f32 q0u), .s (.int .i64 q14), .s (.flt .f32 q23), .s (.flt .f32 q24)], .one (.s (.int .i64 q2c))] => some ((zjx q0j q0m q0k q0o q0l q0p q0q q0u q14 q23 q24 q2c), ((AV.v (TV.one (At.int IntKind.i64 (zhl q0j q0m q0k q0o q0l q0p q0q q0u q14 q23 q24 q2c)))), []))
  | _ => none
def zpb (q0j : Nat) (q0m : List Nat) (q0k : Nat) (q0o : List Nat) (q0l : Nat) (q0p : List Nat) (q0q : Nat) (q0u : List Nat) (q14 : Int) (q23 : Nat) (q24 : Nat) (q2c : Int) : Option (Int) → Option (AV × List Blk)
  | some r => some ((AV.v (TV.one (At.int IntKind.i64 r))), [])
  | none => none
theorem zt6 (q0j : Nat) (q0m : List Nat) (q0k : Nat) (q0o : List Nat) (q0l : Nat) (q0p : List Nat) (q0q : Nat) (q0u : List Nat) (q14 : Int) (q23 : Nat) (q24 : Nat) (q2c : Int) : evFn Γ2 8 8 37 (impTs 0 [.agg [.row 1 q0j (.fl .f32 q0m), .row 1 q0k (.fl .f32 q0o), .row 1 q0l (.fl .f32 q0p), .row 3 q0q (.fl .f32 q0u), .s (.int .i64 q14), .s (.flt .f32 q23), .s (.flt .f32 q24)], .one (.s (.int .i64 q2c))]).1 (impTs 0 [.agg [.row 1 q0j (.fl .f32 q0m), .row 1 q0k (.fl .f32 q0o), .row 1 q0l (.fl .f32 q0p), .row 3 q0q (.fl .f32 q0u), .s (.int .i64 q14), .s (.flt .f32 q23), .s (.flt .f32 q24)], .one (.s (.int .i64 q2c))]).2 (expo (impTs 0 [.agg [.row 1 q0j (.fl .f32 q0m), .row 1 q0k (.fl .f32 q0o), .row 1 q0l (.fl .f32 q0p), .row 3 q0q (.fl .f32 q0u), .s (.int .i64 q14), .s (.flt .f32 q23), .s (.flt .f32 q24)], .one (.s (.int .i64 q2c))]).2.length) = zf9 q0j q0m q0k q0o q0l q0p q0q q0u q14 q23 q24 q2c (fun c0_ => some ((AV.v (TV.one (At.int IntKind.i64 c0_))), [])) := by kernel_rfl
theorem z36 : SumOne Try.prog 37 z3y := sum_of (Γ := Γ2) (fuel := 8) (d := 8) tyTab_ok (FnL.ok fnTab_ok _ _) (LpL.ok lt2_ok) (SumL.ok tb2_ok _) mixed (by
  intro pts v news hp hc
  clear hc
  unfold z3y at hp
  split at hp
  · rename_i q0j q0m q0k q0o q0l q0p q0q q0u q14 q23 q24 q2c
    exact Eq.trans (Eq.trans (zt6 q0j q0m q0k q0o q0l q0p q0q q0u q14 q23 q24 q2c) (zri (zpb q0j q0m q0k q0o q0l q0p q0q q0u q14 q23 q24 q2c) rfl q0j q0m q0k q0o q0l q0p q0q q0u q14 q23 q24 q2c (fun c0_ => some c0_))) (fin_out (o := (zpb q0j q0m q0k q0o q0l q0p q0q q0u q14 q23 q24 q2c)) (x := zfa q0j q0m q0k q0o q0l q0p q0q q0u q14 q23 q24 q2c) (d := default) (V := fun r => ((AV.v (TV.one (At.int IntKind.i64 r))), [])) (fun r => rfl) hp)
  · cases hp)
noncomputable def z2j : List PT → Option (Bool × AV × List Blk)
  | [.one (.row 1 a_n (.fl .f32 a))] => some ((zcz a_n a), ((AV.v (TV.one (At.sl 0 0 (zch a_n a) 1))), [(Blk.mk Bool.true (Body.fl FloatKind.f32 (zce a_n a)))]))
  | _ => none
def zn5 (a_n : Nat) (a : List Nat) : Option (Nat × (List Nat)) → Option (AV × List Blk)
  | some r => some ((AV.v (TV.one (At.sl 0 0 r.1 1))), [(Blk.mk Bool.true (Body.fl FloatKind.f32 r.2))])
  | none => none
theorem zro (a_n : Nat) (a : List Nat) : evFn Γ2 8 8 52 (impTs 0 [.one (.row 1 a_n (.fl .f32 a))]).1 (impTs 0 [.one (.row 1 a_n (.fl .f32 a))]).2 (expo (impTs 0 [.one (.row 1 a_n (.fl .f32 a))]).2.length) = zd6 a_n a (fun c0_ c1_ => some ((AV.v (TV.one (At.sl 0 0 c0_ 1))), [(Blk.mk Bool.true (Body.fl FloatKind.f32 c1_))])) := by kernel_rfl
theorem z1v : SumOne Try.prog 52 z2j := sum_of (Γ := Γ2) (fuel := 8) (d := 8) tyTab_ok (FnL.ok fnTab_ok _ _) (LpL.ok lt2_ok) (SumL.ok tb2_ok _) mixed (by
  intro pts v news hp hc
  clear hc
  unfold z2j at hp
  split at hp
  · rename_i a_n a
    exact Eq.trans (Eq.trans (zro a_n a) (zpf (zn5 a_n a) rfl a_n a (fun c0_ c1_ => some (c0_, c1_)))) (fin_out (o := (zn5 a_n a)) (x := zao a_n a) (d := default) (V := fun r => ((AV.v (TV.one (At.sl 0 0 r.1 1))), [(Blk.mk Bool.true (Body.fl FloatKind.f32 r.2))])) (fun r => rfl) hp)
  · cases hp)
noncomputable def z1o : List PT → Option (Bool × AV × List Blk)
  | [.one (.row 3 a_n (.fl .f32 a)), .one (.s (.int .i64 k))] => some ((zfq a_n a k), ((AV.v (TV.one (At.int IntKind.i64 (zcs a_n a k)))), []))
  | _ => none
def zmp (a_n : Nat) (a : List Nat) (k : Int) : Option (Int) → Option (AV × List Blk)
  | some r => some ((AV.v (TV.one (At.int IntKind.i64 r))), [])
  | none => none
theorem zr4 (a_n : Nat) (a : List Nat) (k : Int) : evFn Γ2 8 8 72 (impTs 0 [.one (.row 3 a_n (.fl .f32 a)), .one (.s (.int .i64 k))]).1 (impTs 0 [.one (.row 3 a_n (.fl .f32 a)), .one (.s (.int .i64 k))]).2 (expo (impTs 0 [.one (.row 3 a_n (.fl .f32 a)), .one (.s (.int .i64 k))]).2.length) = zb3 a_n a k (fun c0_ => some ((AV.v (TV.one (At.int IntKind.i64 c0_))), [])) := by kernel_rfl
theorem z17 : SumOne Try.prog 72 z1o := sum_of (Γ := Γ2) (fuel := 8) (d := 8) tyTab_ok (FnL.ok fnTab_ok _ _) (LpL.ok lt2_ok) (SumL.ok tb2_ok _) mixed (by
  intro pts v news hp hc
  clear hc
  unfold z1o at hp
  split at hp
  · rename_i a_n a k
    exact Eq.trans (Eq.trans (zr4 a_n a k) (zo6 (zmp a_n a k) rfl a_n a k (fun c0_ => some c0_))) (fin_out (o := (zmp a_n a k)) (x := zay a_n a k) (d := default) (V := fun r => ((AV.v (TV.one (At.int IntKind.i64 r))), [])) (fun r => rfl) hp)
  · cases hp)
noncomputable def z1r : List PT → Option (Bool × AV × List Blk)
  | [.one (.row 1 a_n (.fl .f32 a)), .one (.s (.int .i64 k))] => some ((zaz a_n a k), ((AV.v (TV.one (At.int IntKind.i64 (z58 a_n a k)))), []))
  | _ => none
def zmq (a_n : Nat) (a : List Nat) (k : Int) : Option (Int) → Option (AV × List Blk)
  | some r => some ((AV.v (TV.one (At.int IntKind.i64 r))), [])
  | none => none
theorem zr5 (a_n : Nat) (a : List Nat) (k : Int) : evFn Γ2 8 8 79 (impTs 0 [.one (.row 1 a_n (.fl .f32 a)), .one (.s (.int .i64 k))]).1 (impTs 0 [.one (.row 1 a_n (.fl .f32 a)), .one (.s (.int .i64 k))]).2 (expo (impTs 0 [.one (.row 1 a_n (.fl .f32 a)), .one (.s (.int .i64 k))]).2.length) = zb4 a_n a k (fun c0_ => some ((AV.v (TV.one (At.int IntKind.i64 c0_))), [])) := by kernel_rfl
theorem z18 : SumOne Try.prog 79 z1r := sum_of (Γ := Γ2) (fuel := 8) (d := 8) tyTab_ok (FnL.ok fnTab_ok _ _) (LpL.ok lt2_ok) (SumL.ok tb2_ok _) mixed (by
  intro pts v news hp hc
  clear hc
  unfold z1r at hp
  split at hp
  · rename_i a_n a k
    exact Eq.trans (Eq.trans (zr5 a_n a k) (zo9 (zmq a_n a k) rfl a_n a k (fun c0_ => some c0_))) (fin_out (o := (zmq a_n a k)) (x := zb1 a_n a k) (d := default) (V := fun r => ((AV.v (TV.one (At.int IntKind.i64 r))), [])) (fun r => rfl) hp)
  · cases hp)
noncomputable def z3a : List PT → Option (Bool × AV × List Blk)
  | [.agg [.row 1 q08 (.fl .f32 q0e), .row 1 q09 (.fl .f32 q0g), .row 1 q0a (.fl .f32 q0f), .row 3 q0h (.fl .f32 q0i), .s (.int .i64 q0n), .s (.flt .f32 q0s), .s (.flt .f32 q0r)]] => some ((zl2 q08 q0e q09 q0g q0a q0f q0h q0i q0n q0s q0r), ((AV.v (TV.agg [(At.sl 0 0 (z9x q08 q0e q09 q0g q0a q0f q0h q0i q0n q0s q0r) 1), (At.sl 1 0 (z9w q08 q0e q09 q0g q0a q0f q0h q0i q0n q0s q0r) 1), (At.sl 2 0 (z9v q08 q0e q09 q0g q0a q0f q0h q0i q0n q0s q0r) 1), (At.sl 3 0 (z5m q08 q0e q09 q0g q0a q0f q0h q0i q0n q0s q0r) 3), (At.int IntKind.i64 q0n), (At.flt FloatKind.f32 q0s), (At.flt FloatKind.f32 q0r)])), [(Blk.mk Bool.true (Body.fl FloatKind.f32 (zd5 q08 q0e q09 q0g q0a q0f q0h q0i q0n q0s q0r))), (Blk.mk Bool.true (Body.fl FloatKind.f32 (zda q08 q0e q09 q0g q0a q0f q0h q0i q0n q0s q0r))), (Blk.mk Bool.true (Body.fl FloatKind.f32 (zd2 q08 q0e q09 q0g q0a q0f q0h q0i q0n q0s q0r))), (Blk.mk Bool.true (Body.fl FloatKind.f32 (zan q08 q0e q09 q0g q0a q0f q0h q0i q0n q0s q0r)))]))
  | _ => none
def znn (q08 : Nat) (q0e : List Nat) (q09 : Nat) (q0g : List Nat) (q0a : Nat) (q0f : List Nat) (q0h : Nat) (q0i : List Nat) (q0n : Int) (q0s : Nat) (q0r : Nat) : Option (Nat × Nat × Nat × Nat × (List Nat) × (List Nat) × (List Nat) × (List Nat)) → Option (AV × List Blk)
  | some r => some ((AV.v (TV.agg [(At.sl 0 0 r.1 1), (At.sl 1 0 r.2.1 1), (At.sl 2 0 r.2.2.1 1), (At.sl 3 0 r.2.2.2.1 3), (At.int IntKind.i64 q0n), (At.flt FloatKind.f32 q0s), (At.flt FloatKind.f32 q0r)])), [(Blk.mk Bool.true (Body.fl FloatKind.f32 r.2.2.2.2.1)), (Blk.mk Bool.true (Body.fl FloatKind.f32 r.2.2.2.2.2.1)), (Blk.mk Bool.true (Body.fl FloatKind.f32 r.2.2.2.2.2.2.1)), (Blk.mk Bool.true (Body.fl FloatKind.f32 r.2.2.2.2.2.2.2))])
  | none => none
theorem zsc (q08 : Nat) (q0e : List Nat) (q09 : Nat) (q0g : List Nat) (q0a : Nat) (q0f : List Nat) (q0h : Nat) (q0i : List Nat) (q0n : Int) (q0s : Nat) (q0r : Nat) : evFn Γ2 8 8 93 (impTs 0 [.agg [.row 1 q08 (.fl .f32 q0e), .row 1 q09 (.fl .f32 q0g), .row 1 q0a (.fl .f32 q0f), .row 3 q0h (.fl .f32 q0i), .s (.int .i64 q0n), .s (.flt .f32 q0s), .s (.flt .f32 q0r)]]).1 (impTs 0 [.agg [.row 1 q08 (.fl .f32 q0e), .row 1 q09 (.fl .f32 q0g), .row 1 q0a (.fl .f32 q0f), .row 3 q0h (.fl .f32 q0i), .s (.int .i64 q0n), .s (.flt .f32 q0s), .s (.flt .f32 q0r)]]).2 (expo (impTs 0 [.agg [.row 1 q08 (.fl .f32 q0e), .row 1 q09 (.fl .f32 q0g), .row 1 q0a (.fl .f32 q0f), .row 3 q0h (.fl .f32 q0i), .s (.int .i64 q0n), .s (.flt .f32 q0s), .s (.flt .f32 q0r)]]).2.length) = zdy q08 q0e q09 q0g q0a q0f q0h q0i q0n q0s q0r (fun c0_ c1_ c2_ c3_ c4_ c5_ c6_ c7_ => some ((AV.v (TV.agg [(At.sl 0 0 c0_ 1), (At.sl 1 0 c1_ 1), (At.sl 2 0 c2_ 1), (At.sl 3 0 c3_ 3), (At.int IntKind.i64 q0n), (At.flt FloatKind.f32 q0s), (At.flt FloatKind.f32 q0r)])), [(Blk.mk Bool.true (Body.fl FloatKind.f32 c4_)), (Blk.mk Bool.true (Body.fl FloatKind.f32 c5_)), (Blk.mk Bool.true (Body.fl FloatKind.f32 c6_)), (Blk.mk Bool.true (Body.fl FloatKind.f32 c7_))])) := by kernel_rfl
theorem z26 : SumOne Try.prog 93 z3a := sum_of (Γ := Γ2) (fuel := 8) (d := 8) tyTab_ok (FnL.ok fnTab_ok _ _) (LpL.ok lt2_ok) (SumL.ok tb2_ok _) mixed (by
  intro pts v news hp hc
  clear hc
  unfold z3a at hp
  split at hp
  · rename_i q08 q0e q09 q0g q0a q0f q0h q0i q0n q0s q0r
    exact Eq.trans (Eq.trans (zsc q08 q0e q09 q0g q0a q0f q0h q0i q0n q0s q0r) (zpr (znn q08 q0e q09 q0g q0a q0f q0h q0i q0n q0s q0r) rfl q08 q0e q09 q0g q0a q0f q0h q0i q0n q0s q0r (fun c0_ c1_ c2_ c3_ c4_ c5_ c6_ c7_ => some (c0_, c1_, c2_, c3_, c4_, c5_, c6_, c7_)))) (fin_out (o := (znn q08 q0e q09 q0g q0a q0f q0h q0i q0n q0s q0r)) (x := z6q q08 q0e q09 q0g q0a q0f q0h q0i q0n q0s q0r) (d := default) (V := fun r => ((AV.v (TV.agg [(At.sl 0 0 r.1 1), (At.sl 1 0 r.2.1 1), (At.sl 2 0 r.2.2.1 1), (At.sl 3 0 r.2.2.2.1 3), (At.int IntKind.i64 q0n), (At.flt FloatKind.f32 q0s), (At.flt FloatKind.f32 q0r)])), [(Blk.mk Bool.true (Body.fl FloatKind.f32 r.2.2.2.2.1)), (Blk.mk Bool.true (Body.fl FloatKind.f32 r.2.2.2.2.2.1)), (Blk.mk Bool.true (Body.fl FloatKind.f32 r.2.2.2.2.2.2.1)), (Blk.mk Bool.true (Body.fl FloatKind.f32 r.2.2.2.2.2.2.2))])) (fun r => rfl) hp)
  · cases hp)
noncomputable def z2k : List PT → Option (Bool × AV × List Blk)
  | [.one (.s (.flt .f32 x))] => some ((zjo x), ((AV.v (TV.one (At.bool (zgw x)))), []))
  | _ => none
def zn6 (x : Nat) : Option (Bool) → Option (AV × List Blk)
  | some r => some ((AV.v (TV.one (At.bool r))), [])
  | none => none
theorem zs9 (x : Nat) : evFn Γ2 8 8 119 (impTs 0 [.one (.s (.flt .f32 x))]).1 (impTs 0 [.one (.s (.flt .f32 x))]).2 (expo (impTs 0 [.one (.s (.flt .f32 x))]).2.length) = zdd x (fun c0_ => some ((AV.v (TV.one (At.bool c0_))), [])) := by kernel_rfl
theorem z1t : SumOne Try.prog 119 z2k := sum_of (Γ := Γ2) (fuel := 8) (d := 8) tyTab_ok (FnL.ok fnTab_ok _ _) (LpL.ok lt2_ok) (SumL.ok tb2_ok _) mixed (by
  intro pts v news hp hc
  clear hc
  unfold z2k at hp
  split at hp
  · rename_i x
    exact Eq.trans (Eq.trans (zs9 x) (zpc (zn6 x) rfl x (fun c0_ => some c0_))) (fin_out (o := (zn6 x)) (x := zd1 x) (d := default) (V := fun r => ((AV.v (TV.one (At.bool r))), [])) (fun r => rfl) hp)
  · cases hp)
noncomputable def zm7 (an : Nat) (bn : Nat) (i : Int) (b0 : List Nat) (b1 : List Nat) : Bool × LO := ((zeu an bn b0 b1 i), (LO.two (ze9 an bn b0 b1 i) (LO.one Ex.ret (St.mk [(4, (AV.v (TV.one (At.bool Bool.false))))] [(Blk.mk Bool.false (Body.fl FloatKind.f32 b0)), (Blk.mk Bool.false (Body.fl FloatKind.f32 b1))])) (LO.one (Ex.exit 0) (St.mk [(0, (AV.v (TV.one (At.vw 0 0 an 1)))), (1, (AV.v (TV.one (At.vw 1 0 bn 1)))), (5, (AV.v (TV.one (At.int IntKind.i64 (zgd an bn b0 b1 i))))), (14, (AV.v (TV.one (At.bool (zgb an bn b0 b1 i)))))] [(Blk.mk Bool.false (Body.fl FloatKind.f32 b0)), (Blk.mk Bool.false (Body.fl FloatKind.f32 b1))]))))
noncomputable def z1j : Nat → St → Option (Bool × LO) := lpT 2 (pSt [(pTm 0 (pV (pOne (pVw 0 (liN 0) 1)))), (pTm 1 (pV (pOne (pVw 1 (liN 0) 1)))), (pTm 5 (pV (pOne (pInt IntKind.i64))))] [(pBlk Bool.false (pFl FloatKind.f32)), (pBlk Bool.false (pFl FloatKind.f32))]) (fun hs => zm7 (hvN (hGet hs 0)) (hvN (hGet hs 1)) (hvI (hGet hs 2)) (hvLn (hGet hs 3)) (hvLn (hGet hs 4)))
def zcp (an : Nat) (bn : Nat) (b0 : List Nat) (b1 : List Nat) : Option ((Unit) ⊕ (Int × Bool)) → Option (Ex × St)
  | none => none
  | some (Sum.inl r) => some (Ex.ret, (St.mk [(4, (AV.v (TV.one (At.bool Bool.false))))] [(Blk.mk Bool.false (Body.fl FloatKind.f32 b0)), (Blk.mk Bool.false (Body.fl FloatKind.f32 b1))]))
  | some (Sum.inr r) => some ((Ex.exit 0), (St.mk [(0, (AV.v (TV.one (At.vw 0 0 an 1)))), (1, (AV.v (TV.one (At.vw 1 0 bn 1)))), (5, (AV.v (TV.one (At.int IntKind.i64 r.1)))), (14, (AV.v (TV.one (At.bool r.2))))] [(Blk.mk Bool.false (Body.fl FloatKind.f32 b0)), (Blk.mk Bool.false (Body.fl FloatKind.f32 b1))]))
def zpl (an : Nat) (bn : Nat) (b0 : List Nat) (b1 : List Nat) (x : Option ((Unit) ⊕ (Int × Bool))) : LO := (LO.two (oL x) (LO.one Ex.ret (St.mk [(4, (AV.v (TV.one (At.bool Bool.false))))] [(Blk.mk Bool.false (Body.fl FloatKind.f32 b0)), (Blk.mk Bool.false (Body.fl FloatKind.f32 b1))])) (LO.one (Ex.exit 0) (St.mk [(0, (AV.v (TV.one (At.vw 0 0 an 1)))), (1, (AV.v (TV.one (At.vw 1 0 bn 1)))), (5, (AV.v (TV.one (At.int IntKind.i64 ((tR x).getD default).1)))), (14, (AV.v (TV.one (At.bool ((tR x).getD default).2))))] [(Blk.mk Bool.false (Body.fl FloatKind.f32 b0)), (Blk.mk Bool.false (Body.fl FloatKind.f32 b1))])))
theorem zqg (an : Nat) (bn : Nat) (b0 : List Nat) (b1 : List Nat) : ∀ x : Option ((Unit) ⊕ (Int × Bool)), x.isSome = true → (zcp an bn b0 b1) x = some (pick (zpl an bn b0 b1 x))
  | none, h => by cases h
  | some (Sum.inl r), _ => rfl
  | some (Sum.inr r), _ => rfl
theorem zqc (an : Nat) (bn : Nat) (i : Int) (b0 : List Nat) (b1 : List Nat) (K : Ex → St → Option (Ex × St)) : evC (R := Ex × St) Γ2 (evFn Γ2 8 8) 57 2 fi57.nt fi57.live fi57.nl 8 (findL 4 (loopsIn fi57.code)) (St.mk [(0, (AV.v (TV.one (At.vw 0 0 an 1)))), (1, (AV.v (TV.one (At.vw 1 0 bn 1)))), (5, (AV.v (TV.one (At.int IntKind.i64 i))))] [(Blk.mk Bool.false (Body.fl FloatKind.f32 b0)), (Blk.mk Bool.false (Body.fl FloatKind.f32 b1))]) K = z7s an bn b0 b1 i (fun i' => K .normal (St.mk [(0, (AV.v (TV.one (At.vw 0 0 an 1)))), (1, (AV.v (TV.one (At.vw 1 0 bn 1)))), (5, (AV.v (TV.one (At.int IntKind.i64 i'))))] [(Blk.mk Bool.false (Body.fl FloatKind.f32 b0)), (Blk.mk Bool.false (Body.fl FloatKind.f32 b1))])) (fun _ => K Ex.ret (St.mk [(4, (AV.v (TV.one (At.bool Bool.false))))] [(Blk.mk Bool.false (Body.fl FloatKind.f32 b0)), (Blk.mk Bool.false (Body.fl FloatKind.f32 b1))])) (fun c0_ c1_ => K (Ex.exit 0) (St.mk [(0, (AV.v (TV.one (At.vw 0 0 an 1)))), (1, (AV.v (TV.one (At.vw 1 0 bn 1)))), (5, (AV.v (TV.one (At.int IntKind.i64 c0_)))), (14, (AV.v (TV.one (At.bool c1_))))] [(Blk.mk Bool.false (Body.fl FloatKind.f32 b0)), (Blk.mk Bool.false (Body.fl FloatKind.f32 b1))])) := by kernel_rfl
theorem zq0 (an : Nat) (bn : Nat) (b0 : List Nat) (b1 : List Nat) : ∀ (n : Nat) (i : Int), iter 57 4 2 (evC (R := Ex × St) Γ2 (evFn Γ2 8 8) 57 2 fi57.nt fi57.live fi57.nl 8 (findL 4 (loopsIn fi57.code))) n (St.mk [(0, (AV.v (TV.one (At.vw 0 0 an 1)))), (1, (AV.v (TV.one (At.vw 1 0 bn 1)))), (5, (AV.v (TV.one (At.int IntKind.i64 i))))] [(Blk.mk Bool.false (Body.fl FloatKind.f32 b0)), (Blk.mk Bool.false (Body.fl FloatKind.f32 b1))]) (fun e st => some (e, st)) = (zcp an bn b0 b1) (z64 an bn b0 b1 n i) := by
  intro n
  induction n with
  | zero => intros; rfl
  | succ n ih =>
    intro i
    refine Eq.trans (iter_succ ..) (Eq.trans (zqc an bn i b0 b1 (nextK 57 4 2 (evC (R := Ex × St) Γ2 (evFn Γ2 8 8) 57 2 fi57.nt fi57.live fi57.nl 8 (findL 4 (loopsIn fi57.code))) n (fun e st => some (e, st)))) (Eq.trans ?_ (znq (zcp an bn b0 b1) rfl an bn b0 b1 i (fun i' => z64 an bn b0 b1 n i') (fun _ => some (Sum.inl ())) (fun c0_ c1_ => some (Sum.inr (c0_, c1_))))))
    exact congrArg (fun kn_ => z7s an bn b0 b1 i kn_ (fun _ => (zcp an bn b0 b1) (some (Sum.inl ()))) (fun c0_ c1_ => (zcp an bn b0 b1) (some (Sum.inr (c0_, c1_))))) (funext fun i' => ih i')
theorem z12 : LoopOne Try.prog fnTab 57 4 z1j := lp_of (Γ := Γ2) tyTab_ok (FnL.ok fnTab_ok _ _) (LpL.ok lt2_ok) (SumL.ok tb2_ok _) mixed (fi := fi57) (by kernel_rfl) (by kernel_rfl) (by
  intro lo st out hp
  obtain ⟨hs, e1, e2, e3⟩ := lpT_inv hp
  clear hp
  obtain rfl : st = (St.mk [(0, (AV.v (TV.one (At.vw 0 0 (hvN (hGet hs 0)) 1)))), (1, (AV.v (TV.one (At.vw 1 0 (hvN (hGet hs 1)) 1)))), (5, (AV.v (TV.one (At.int IntKind.i64 (hvI (hGet hs 2))))))] [(Blk.mk Bool.false (Body.fl FloatKind.f32 (hvLn (hGet hs 3)))), (Blk.mk Bool.false (Body.fl FloatKind.f32 (hvLn (hGet hs 4))))]) := e2.trans (by kernel_rfl)
  clear e2
  subst e1
  unfold zm7 at e3
  injection e3 with h1 h2
  subst h2
  exact ⟨8, 8, big, Eq.trans (zq0 (hvN (hGet hs 0)) (hvN (hGet hs 1)) (hvLn (hGet hs 3)) (hvLn (hGet hs 4)) big (hvI (hGet hs 2))) (zqg (hvN (hGet hs 0)) (hvN (hGet hs 1)) (hvLn (hGet hs 3)) (hvLn (hGet hs 4)) (z64 (hvN (hGet hs 0)) (hvN (hGet hs 1)) (hvLn (hGet hs 3)) (hvLn (hGet hs 4)) big (hvI (hGet hs 2))) h1)⟩)
noncomputable def zmb (an : Nat) (q2l : Nat) (i : Int) (b0 : List Nat) (b1 : List Nat) : Bool × LO := ((zcw an q2l b0 i b1), (LO.one (Ex.exit 0) (St.mk [(0, (AV.v (TV.one (At.vw 0 0 an 3)))), (3, (AV.v (TV.one (At.sl 1 0 q2l 3)))), (4, (AV.v (TV.one (At.int IntKind.i64 (zgl an q2l b0 i b1))))), (11, (AV.v (TV.one (At.bool (zgg an q2l b0 i b1)))))] [(Blk.mk Bool.false (Body.fl FloatKind.f32 b0)), (Blk.mk Bool.true (Body.fl FloatKind.f32 (zag an q2l b0 i b1)))])))
noncomputable def z1k : Nat → St → Option (Bool × LO) := lpT 1 (pSt [(pTm 0 (pV (pOne (pVw 0 (liN 0) 3)))), (pTm 3 (pV (pOne (pSl 1 (liN 0) 3)))), (pTm 4 (pV (pOne (pInt IntKind.i64))))] [(pBlk Bool.false (pFl FloatKind.f32)), (pBlk Bool.true (pFl FloatKind.f32))]) (fun hs => zmb (hvN (hGet hs 0)) (hvN (hGet hs 1)) (hvI (hGet hs 2)) (hvLn (hGet hs 3)) (hvLn (hGet hs 4)))
def zer (an : Nat) (q2l : Nat) (b0 : List Nat) : Option ((Int × Bool × (List Nat))) → Option (Ex × St)
  | none => none
  | some r => some ((Ex.exit 0), (St.mk [(0, (AV.v (TV.one (At.vw 0 0 an 3)))), (3, (AV.v (TV.one (At.sl 1 0 q2l 3)))), (4, (AV.v (TV.one (At.int IntKind.i64 r.1)))), (11, (AV.v (TV.one (At.bool r.2.1))))] [(Blk.mk Bool.false (Body.fl FloatKind.f32 b0)), (Blk.mk Bool.true (Body.fl FloatKind.f32 r.2.2))]))
def zph (an : Nat) (q2l : Nat) (b0 : List Nat) (x : Option ((Int × Bool × (List Nat)))) : LO := (LO.one (Ex.exit 0) (St.mk [(0, (AV.v (TV.one (At.vw 0 0 an 3)))), (3, (AV.v (TV.one (At.sl 1 0 q2l 3)))), (4, (AV.v (TV.one (At.int IntKind.i64 (x.getD default).1)))), (11, (AV.v (TV.one (At.bool (x.getD default).2.1))))] [(Blk.mk Bool.false (Body.fl FloatKind.f32 b0)), (Blk.mk Bool.true (Body.fl FloatKind.f32 (x.getD default).2.2))]))
theorem zps (an : Nat) (q2l : Nat) (b0 : List Nat) : ∀ x : Option ((Int × Bool × (List Nat))), x.isSome = true → (zer an q2l b0) x = some (pick (zph an q2l b0 x))
  | none, h => by cases h
  | some r, _ => rfl
theorem zq9 (an : Nat) (q2l : Nat) (i : Int) (b0 : List Nat) (b1 : List Nat) (K : Ex → St → Option (Ex × St)) : evC (R := Ex × St) Γ2 (evFn Γ2 8 8) 86 1 fi86.nt fi86.live fi86.nl 8 (findL 3 (loopsIn fi86.code)) (St.mk [(0, (AV.v (TV.one (At.vw 0 0 an 3)))), (3, (AV.v (TV.one (At.sl 1 0 q2l 3)))), (4, (AV.v (TV.one (At.int IntKind.i64 i))))] [(Blk.mk Bool.false (Body.fl FloatKind.f32 b0)), (Blk.mk Bool.true (Body.fl FloatKind.f32 b1))]) K = z7q an q2l b0 i b1 (fun i' b1' => K .normal (St.mk [(0, (AV.v (TV.one (At.vw 0 0 an 3)))), (3, (AV.v (TV.one (At.sl 1 0 q2l 3)))), (4, (AV.v (TV.one (At.int IntKind.i64 i'))))] [(Blk.mk Bool.false (Body.fl FloatKind.f32 b0)), (Blk.mk Bool.true (Body.fl FloatKind.f32 b1'))])) (fun c0_ c1_ c2_ => K (Ex.exit 0) (St.mk [(0, (AV.v (TV.one (At.vw 0 0 an 3)))), (3, (AV.v (TV.one (At.sl 1 0 q2l 3)))), (4, (AV.v (TV.one (At.int IntKind.i64 c0_)))), (11, (AV.v (TV.one (At.bool c1_))))] [(Blk.mk Bool.false (Body.fl FloatKind.f32 b0)), (Blk.mk Bool.true (Body.fl FloatKind.f32 c2_))])) := by kernel_rfl
theorem zqm (an : Nat) (q2l : Nat) (b0 : List Nat) : ∀ (n : Nat) (i : Int) (b1 : List Nat), iter 86 3 1 (evC (R := Ex × St) Γ2 (evFn Γ2 8 8) 86 1 fi86.nt fi86.live fi86.nl 8 (findL 3 (loopsIn fi86.code))) n (St.mk [(0, (AV.v (TV.one (At.vw 0 0 an 3)))), (3, (AV.v (TV.one (At.sl 1 0 q2l 3)))), (4, (AV.v (TV.one (At.int IntKind.i64 i))))] [(Blk.mk Bool.false (Body.fl FloatKind.f32 b0)), (Blk.mk Bool.true (Body.fl FloatKind.f32 b1))]) (fun e st => some (e, st)) = (zer an q2l b0) (z59 an q2l b0 n i b1) := by
  intro n
  induction n with
  | zero => intros; rfl
  | succ n ih =>
    intro i b1
    refine Eq.trans (iter_succ ..) (Eq.trans (zq9 an q2l i b0 b1 (nextK 86 3 1 (evC (R := Ex × St) Γ2 (evFn Γ2 8 8) 86 1 fi86.nt fi86.live fi86.nl 8 (findL 3 (loopsIn fi86.code))) n (fun e st => some (e, st)))) (Eq.trans ?_ (znr (zer an q2l b0) rfl an q2l b0 i b1 (fun i' b1' => z59 an q2l b0 n i' b1') (fun c0_ c1_ c2_ => some (c0_, c1_, c2_)))))
    exact congrArg (fun kn_ => z7q an q2l b0 i b1 kn_ (fun c0_ c1_ c2_ => (zer an q2l b0) (some (c0_, c1_, c2_)))) (funext fun i' => funext fun b1' => ih i' b1')
theorem z13 : LoopOne Try.prog fnTab 86 3 z1k := lp_of (Γ := Γ2) tyTab_ok (FnL.ok fnTab_ok _ _) (LpL.ok lt2_ok) (SumL.ok tb2_ok _) mixed (fi := fi86) (by kernel_rfl) (by kernel_rfl) (by
  intro lo st out hp
  obtain ⟨hs, e1, e2, e3⟩ := lpT_inv hp
  clear hp
  obtain rfl : st = (St.mk [(0, (AV.v (TV.one (At.vw 0 0 (hvN (hGet hs 0)) 3)))), (3, (AV.v (TV.one (At.sl 1 0 (hvN (hGet hs 1)) 3)))), (4, (AV.v (TV.one (At.int IntKind.i64 (hvI (hGet hs 2))))))] [(Blk.mk Bool.false (Body.fl FloatKind.f32 (hvLn (hGet hs 3)))), (Blk.mk Bool.true (Body.fl FloatKind.f32 (hvLn (hGet hs 4))))]) := e2.trans (by kernel_rfl)
  clear e2
  subst e1
  unfold zmb at e3
  injection e3 with h1 h2
  subst h2
  exact ⟨8, 8, big, Eq.trans (zqm (hvN (hGet hs 0)) (hvN (hGet hs 1)) (hvLn (hGet hs 3)) big (hvI (hGet hs 2)) (hvLn (hGet hs 4))) (zps (hvN (hGet hs 0)) (hvN (hGet hs 1)) (hvLn (hGet hs 3)) (z59 (hvN (hGet hs 0)) (hvN (hGet hs 1)) (hvLn (hGet hs 3)) big (hvI (hGet hs 2)) (hvLn (hGet hs 4))) h1)⟩)
noncomputable def tb3 : List (Nat × (List PT → Option (Bool × AV × List Blk))) := [(125, z2f), (128, z0v), (134, z1i), (137, z2g), (18, z2p), (44, z2n), (48, z27), (54, z3f), (61, z2m), (63, z4f), (64, z42), (66, z43), (80, z28), (97, z3e), (104, z0s), (115, z01), (14, z34), (67, z1x), (92, z46), (103, z3j), (105, z35), (111, z3w), (114, z3k), (118, z1y), (122, z19), (37, z3y), (52, z2j), (72, z1o), (79, z1r), (93, z3a), (119, z2k)]
noncomputable def lt3 : List ((Nat × Nat) × (Nat → St → Option (Bool × LO))) := [((52, 3), z1e), ((72, 2), z10), ((79, 2), z11), ((57, 4), z1j), ((86, 3), z1k)]
noncomputable def Γ3 : Ctx := ⟨tyTab, fnTab, tblSum tb3, tblLp lt3⟩
theorem tb3_ok : SumL Try.prog tb3 := SumL.cons z1g (SumL.cons z0l (SumL.cons z14 (SumL.cons z1h (SumL.cons z1s (SumL.cons z1p (SumL.cons z1f (SumL.cons z24 (SumL.cons z1q (SumL.cons z3s (SumL.cons z39 (SumL.cons z38 (SumL.cons z1d (SumL.cons z25 (SumL.cons z0k (SumL.cons z00 (SumL.cons z20 (SumL.cons z1b (SumL.cons z3h (SumL.cons z2c (SumL.cons z1z (SumL.cons z30 (SumL.cons z2b (SumL.cons z1c (SumL.cons z0y (SumL.cons z36 (SumL.cons z1v (SumL.cons z17 (SumL.cons z18 (SumL.cons z26 (SumL.cons z1t (SumL.nil)))))))))))))))))))))))))))))))
theorem lt3_ok : LpL Try.prog fnTab lt3 := LpL.cons z0z (LpL.cons z0r (LpL.cons z0q (LpL.cons z12 (LpL.cons z13 (LpL.nil)))))
noncomputable def z3g : List PT → Option (Bool × AV × List Blk)
  | [.agg [.row 1 q0t (.fl .f32 q0z), .row 1 q0v (.fl .f32 q13), .row 1 q0w (.fl .f32 q15)]] => some ((zkw q0t q0z q0v q13 q0w q15), ((AV.v (TV.agg [(At.sl 0 0 (zjp q0t q0z q0v q13 q0w q15) 1), (At.sl 1 0 (zjt q0t q0z q0v q13 q0w q15) 1), (At.sl 2 0 (zjr q0t q0z q0v q13 q0w q15) 1)])), [(Blk.mk Bool.true (Body.fl FloatKind.f32 (zjn q0t q0z q0v q13 q0w q15))), (Blk.mk Bool.true (Body.fl FloatKind.f32 (zjs q0t q0z q0v q13 q0w q15))), (Blk.mk Bool.true (Body.fl FloatKind.f32 (zjg q0t q0z q0v q13 q0w q15)))]))
  | _ => none
def znv (q0t : Nat) (q0z : List Nat) (q0v : Nat) (q13 : List Nat) (q0w : Nat) (q15 : List Nat) : Option (Nat × Nat × Nat × (List Nat) × (List Nat) × (List Nat)) → Option (AV × List Blk)
  | some r => some ((AV.v (TV.agg [(At.sl 0 0 r.1 1), (At.sl 1 0 r.2.1 1), (At.sl 2 0 r.2.2.1 1)])), [(Blk.mk Bool.true (Body.fl FloatKind.f32 r.2.2.2.1)), (Blk.mk Bool.true (Body.fl FloatKind.f32 r.2.2.2.2.1)), (Blk.mk Bool.true (Body.fl FloatKind.f32 r.2.2.2.2.2))])
  | none => none
theorem zsm (q0t : Nat) (q0z : List Nat) (q0v : Nat) (q13 : List Nat) (q0w : Nat) (q15 : List Nat) : evFn Γ3 8 8 16 (impTs 0 [.agg [.row 1 q0t (.fl .f32 q0z), .row 1 q0v (.fl .f32 q13), .row 1 q0w (.fl .f32 q15)]]).1 (impTs 0 [.agg [.row 1 q0t (.fl .f32 q0z), .row 1 q0v (.fl .f32 q13), .row 1 q0w (.fl .f32 q15)]]).2 (expo (impTs 0 [.agg [.row 1 q0t (.fl .f32 q0z), .row 1 q0v (.fl .f32 q13), .row 1 q0w (.fl .f32 q15)]]).2.length) = zdv q0t q0z q0v q13 q0w q15 (fun c0_ c1_ c2_ c3_ c4_ c5_ => some ((AV.v (TV.agg [(At.sl 0 0 c0_ 1), (At.sl 1 0 c1_ 1), (At.sl 2 0 c2_ 1)])), [(Blk.mk Bool.true (Body.fl FloatKind.f32 c3_)), (Blk.mk Bool.true (Body.fl FloatKind.f32 c4_)), (Blk.mk Bool.true (Body.fl FloatKind.f32 c5_))])) := by kernel_rfl
theorem z2e : SumOne Try.prog 16 z3g := sum_of (Γ := Γ3) (fuel := 8) (d := 8) tyTab_ok (FnL.ok fnTab_ok _ _) (LpL.ok lt3_ok) (SumL.ok tb3_ok _) mixed (by
  intro pts v news hp hc
  clear hc
  unfold z3g at hp
  split at hp
  · rename_i q0t q0z q0v q13 q0w q15
    exact Eq.trans (Eq.trans (zsm q0t q0z q0v q13 q0w q15) (zpv (znv q0t q0z q0v q13 q0w q15) rfl q0t q0z q0v q13 q0w q15 (fun c0_ c1_ c2_ c3_ c4_ c5_ => some (c0_, c1_, c2_, c3_, c4_, c5_)))) (fin_out (o := (znv q0t q0z q0v q13 q0w q15)) (x := z82 q0t q0z q0v q13 q0w q15) (d := default) (V := fun r => ((AV.v (TV.agg [(At.sl 0 0 r.1 1), (At.sl 1 0 r.2.1 1), (At.sl 2 0 r.2.2.1 1)])), [(Blk.mk Bool.true (Body.fl FloatKind.f32 r.2.2.2.1)), (Blk.mk Bool.true (Body.fl FloatKind.f32 r.2.2.2.2.1)), (Blk.mk Bool.true (Body.fl FloatKind.f32 r.2.2.2.2.2))])) (fun r => rfl) hp)
  · cases hp)
noncomputable def z2d : List PT → Option (Bool × AV × List Blk)
  | [.agg [.row 1 q0t (.fl .f32 q0z), .row 1 q0v (.fl .f32 q13), .row 1 q0w (.fl .f32 q15)], .one (.s (.int .i64 k))] => some ((zhg q0t q0z q0v q13 q0w q15 k), ((AV.v (TV.one (At.int IntKind.i64 (z9z q0t q0z q0v q13 q0w q15 k)))), []))
  | _ => none
def zmu (q0t : Nat) (q0z : List Nat) (q0v : Nat) (q13 : List Nat) (q0w : Nat) (q15 : List Nat) (k : Int) : Option (Int) → Option (AV × List Blk)
  | some r => some ((AV.v (TV.one (At.int IntKind.i64 r))), [])
  | none => none
theorem zrk (q0t : Nat) (q0z : List Nat) (q0v : Nat) (q13 : List Nat) (q0w : Nat) (q15 : List Nat) (k : Int) : evFn Γ3 8 8 36 (impTs 0 [.agg [.row 1 q0t (.fl .f32 q0z), .row 1 q0v (.fl .f32 q13), .row 1 q0w (.fl .f32 q15)], .one (.s (.int .i64 k))]).1 (impTs 0 [.agg [.row 1 q0t (.fl .f32 q0z), .row 1 q0v (.fl .f32 q13), .row 1 q0w (.fl .f32 q15)], .one (.s (.int .i64 k))]).2 (expo (impTs 0 [.agg [.row 1 q0t (.fl .f32 q0z), .row 1 q0v (.fl .f32 q13), .row 1 q0w (.fl .f32 q15)], .one (.s (.int .i64 k))]).2.length) = zc9 q0t q0z q0v q13 q0w q15 k (fun c0_ => some ((AV.v (TV.one (At.int IntKind.i64 c0_))), [])) := by kernel_rfl
theorem z1l : SumOne Try.prog 36 z2d := sum_of (Γ := Γ3) (fuel := 8) (d := 8) tyTab_ok (FnL.ok fnTab_ok _ _) (LpL.ok lt3_ok) (SumL.ok tb3_ok _) mixed (by
  intro pts v news hp hc
  clear hc
  unfold z2d at hp
  split at hp
  · rename_i q0t q0z q0v q13 q0w q15 k
    exact Eq.trans (Eq.trans (zrk q0t q0z q0v q13 q0w q15 k) (zol (zmu q0t q0z q0v q13 q0w q15 k) rfl q0t q0z q0v q13 q0w q15 k (fun c0_ => some c0_))) (fin_out (o := (zmu q0t q0z q0v q13 q0w q15 k)) (x := zcd q0t q0z q0v q13 q0w q15 k) (d := default) (V := fun r => ((AV.v (TV.one (At.int IntKind.i64 r))), [])) (fun r => rfl) hp)
  · cases hp)
noncomputable def z32 : List PT → Option (Bool × AV × List Blk)
  | [.one (.row 1 a_n (.fl .f32 a)), .one (.row 1 b_n (.fl .f32 b))] => some ((zd9 a_n a b_n b), ((AV.v (TV.one (At.bool (zca a_n a b_n b)))), []))
  | _ => none
def znc (a_n : Nat) (a : List Nat) (b_n : Nat) (b : List Nat) : Option (Bool) → Option (AV × List Blk)
  | some r => some ((AV.v (TV.one (At.bool r))), [])
  | none => none
theorem zs7 (a_n : Nat) (a : List Nat) (b_n : Nat) (b : List Nat) : evFn Γ3 8 8 57 (impTs 0 [.one (.row 1 a_n (.fl .f32 a)), .one (.row 1 b_n (.fl .f32 b))]).1 (impTs 0 [.one (.row 1 a_n (.fl .f32 a)), .one (.row 1 b_n (.fl .f32 b))]).2 (expo (impTs 0 [.one (.row 1 a_n (.fl .f32 a)), .one (.row 1 b_n (.fl .f32 b))]).2.length) = zcy a_n a b_n b (fun c0_ => some ((AV.v (TV.one (At.bool c0_))), [])) := by kernel_rfl
theorem z22 : SumOne Try.prog 57 z32 := sum_of (Γ := Γ3) (fuel := 8) (d := 8) tyTab_ok (FnL.ok fnTab_ok _ _) (LpL.ok lt3_ok) (SumL.ok tb3_ok _) mixed (by
  intro pts v news hp hc
  clear hc
  unfold z32 at hp
  split at hp
  · rename_i a_n a b_n b
    exact Eq.trans (Eq.trans (zs7 a_n a b_n b) (zpo (znc a_n a b_n b) rfl a_n a b_n b (fun c0_ => some c0_))) (fin_out (o := (znc a_n a b_n b)) (x := zd7 a_n a b_n b) (d := default) (V := fun r => ((AV.v (TV.one (At.bool r))), [])) (fun r => rfl) hp)
  · cases hp)
noncomputable def z31 : List PT → Option (Bool × AV × List Blk)
  | [.one (.row 3 a_n (.fl .f32 a))] => some ((zjl a_n a), ((AV.v (TV.one (At.sl 0 0 (zhe a_n a) 3))), [(Blk.mk Bool.true (Body.fl FloatKind.f32 (zi1 a_n a)))]))
  | _ => none
def zn2 (a_n : Nat) (a : List Nat) : Option (Nat × (List Nat)) → Option (AV × List Blk)
  | some r => some ((AV.v (TV.one (At.sl 0 0 r.1 3))), [(Blk.mk Bool.true (Body.fl FloatKind.f32 r.2))])
  | none => none
theorem zs5 (a_n : Nat) (a : List Nat) : evFn Γ3 8 8 86 (impTs 0 [.one (.row 3 a_n (.fl .f32 a))]).1 (impTs 0 [.one (.row 3 a_n (.fl .f32 a))]).2 (expo (impTs 0 [.one (.row 3 a_n (.fl .f32 a))]).2.length) = zdc a_n a (fun c0_ c1_ => some ((AV.v (TV.one (At.sl 0 0 c0_ 3))), [(Blk.mk Bool.true (Body.fl FloatKind.f32 c1_))])) := by kernel_rfl
theorem z21 : SumOne Try.prog 86 z31 := sum_of (Γ := Γ3) (fuel := 8) (d := 8) tyTab_ok (FnL.ok fnTab_ok _ _) (LpL.ok lt3_ok) (SumL.ok tb3_ok _) mixed (by
  intro pts v news hp hc
  clear hc
  unfold z31 at hp
  split at hp
  · rename_i a_n a
    exact Eq.trans (Eq.trans (zs5 a_n a) (zpi (zn2 a_n a) rfl a_n a (fun c0_ c1_ => some (c0_, c1_)))) (fin_out (o := (zn2 a_n a)) (x := zam a_n a) (d := default) (V := fun r => ((AV.v (TV.one (At.sl 0 0 r.1 3))), [(Blk.mk Bool.true (Body.fl FloatKind.f32 r.2))])) (fun r => rfl) hp)
  · cases hp)
noncomputable def zn3 (t3 : Int) (t4 : Int) (b0 : List Nat) (b1 : List Nat) (b2 : List Nat) (q27 : Nat) (q2n : Nat) (q2m : Nat) : Bool × LO := ((zas t3 b0 b1 b2 q27 q2n q2m t4), (LO.two (za8 t3 b0 b1 b2 q27 q2n q2m t4) (LO.one Ex.ret (St.mk [(2, (AV.v (TV.one (At.bool Bool.false))))] [(Blk.mk Bool.false (Body.fl FloatKind.f32 b0)), (Blk.mk Bool.false (Body.fl FloatKind.f32 b1)), (Blk.mk Bool.false (Body.fl FloatKind.f32 b2)), (Blk.mk Bool.false (Body.cells [(At.vw 0 0 q27 1), (At.vw 1 0 q2n 1), (At.vw 2 0 q2m 1)]))])) (LO.one (Ex.exit 0) (St.mk [(0, (AV.v (TV.one (At.ptr 3 0 3)))), (3, (AV.v (TV.one (At.int IntKind.i64 t3)))), (4, (AV.v (TV.one (At.int IntKind.i64 (zlp t3 b0 b1 b2 q27 q2n q2m t4))))), (36, (AV.v (TV.one (At.bool (zlr t3 b0 b1 b2 q27 q2n q2m t4)))))] [(Blk.mk Bool.false (Body.fl FloatKind.f32 b0)), (Blk.mk Bool.false (Body.fl FloatKind.f32 b1)), (Blk.mk Bool.false (Body.fl FloatKind.f32 b2)), (Blk.mk Bool.false (Body.cells [(At.vw 0 0 q27 1), (At.vw 1 0 q2n 1), (At.vw 2 0 q2m 1)]))]))))
noncomputable def z3x : Nat → St → Option (Bool × LO) := lpT 4 (pSt [(pTm 0 (pV (pOne (pPtr 3 (liN 0) 3)))), (pTm 3 (pV (pOne (pInt IntKind.i64)))), (pTm 4 (pV (pOne (pInt IntKind.i64))))] [(pBlk Bool.false (pFl FloatKind.f32)), (pBlk Bool.false (pFl FloatKind.f32)), (pBlk Bool.false (pFl FloatKind.f32)), (pBlk Bool.false (pCells [(pVw 0 (liN 0) 1), (pVw 1 (liN 0) 1), (pVw 2 (liN 0) 1)]))]) (fun hs => zn3 (hvI (hGet hs 0)) (hvI (hGet hs 1)) (hvLn (hGet hs 2)) (hvLn (hGet hs 3)) (hvLn (hGet hs 4)) (hvN (hGet hs 5)) (hvN (hGet hs 6)) (hvN (hGet hs 7)))
def zib (t3 : Int) (b0 : List Nat) (b1 : List Nat) (b2 : List Nat) (q27 : Nat) (q2n : Nat) (q2m : Nat) : Option ((Unit) ⊕ (Int × Bool)) → Option (Ex × St)
  | none => none
  | some (Sum.inl r) => some (Ex.ret, (St.mk [(2, (AV.v (TV.one (At.bool Bool.false))))] [(Blk.mk Bool.false (Body.fl FloatKind.f32 b0)), (Blk.mk Bool.false (Body.fl FloatKind.f32 b1)), (Blk.mk Bool.false (Body.fl FloatKind.f32 b2)), (Blk.mk Bool.false (Body.cells [(At.vw 0 0 q27 1), (At.vw 1 0 q2n 1), (At.vw 2 0 q2m 1)]))]))
  | some (Sum.inr r) => some ((Ex.exit 0), (St.mk [(0, (AV.v (TV.one (At.ptr 3 0 3)))), (3, (AV.v (TV.one (At.int IntKind.i64 t3)))), (4, (AV.v (TV.one (At.int IntKind.i64 r.1)))), (36, (AV.v (TV.one (At.bool r.2))))] [(Blk.mk Bool.false (Body.fl FloatKind.f32 b0)), (Blk.mk Bool.false (Body.fl FloatKind.f32 b1)), (Blk.mk Bool.false (Body.fl FloatKind.f32 b2)), (Blk.mk Bool.false (Body.cells [(At.vw 0 0 q27 1), (At.vw 1 0 q2n 1), (At.vw 2 0 q2m 1)]))]))
def zsp (t3 : Int) (b0 : List Nat) (b1 : List Nat) (b2 : List Nat) (q27 : Nat) (q2n : Nat) (q2m : Nat) (x : Option ((Unit) ⊕ (Int × Bool))) : LO := (LO.two (oL x) (LO.one Ex.ret (St.mk [(2, (AV.v (TV.one (At.bool Bool.false))))] [(Blk.mk Bool.false (Body.fl FloatKind.f32 b0)), (Blk.mk Bool.false (Body.fl FloatKind.f32 b1)), (Blk.mk Bool.false (Body.fl FloatKind.f32 b2)), (Blk.mk Bool.false (Body.cells [(At.vw 0 0 q27 1), (At.vw 1 0 q2n 1), (At.vw 2 0 q2m 1)]))])) (LO.one (Ex.exit 0) (St.mk [(0, (AV.v (TV.one (At.ptr 3 0 3)))), (3, (AV.v (TV.one (At.int IntKind.i64 t3)))), (4, (AV.v (TV.one (At.int IntKind.i64 ((tR x).getD default).1)))), (36, (AV.v (TV.one (At.bool ((tR x).getD default).2))))] [(Blk.mk Bool.false (Body.fl FloatKind.f32 b0)), (Blk.mk Bool.false (Body.fl FloatKind.f32 b1)), (Blk.mk Bool.false (Body.fl FloatKind.f32 b2)), (Blk.mk Bool.false (Body.cells [(At.vw 0 0 q27 1), (At.vw 1 0 q2n 1), (At.vw 2 0 q2m 1)]))])))
theorem zt3 (t3 : Int) (b0 : List Nat) (b1 : List Nat) (b2 : List Nat) (q27 : Nat) (q2n : Nat) (q2m : Nat) : ∀ x : Option ((Unit) ⊕ (Int × Bool)), x.isSome = true → (zib t3 b0 b1 b2 q27 q2n q2m) x = some (pick (zsp t3 b0 b1 b2 q27 q2n q2m x))
  | none, h => by cases h
  | some (Sum.inl r), _ => rfl
  | some (Sum.inr r), _ => rfl
theorem zt1 (t3 : Int) (t4 : Int) (b0 : List Nat) (b1 : List Nat) (b2 : List Nat) (q27 : Nat) (q2n : Nat) (q2m : Nat) (K : Ex → St → Option (Ex × St)) : evC (R := Ex × St) Γ3 (evFn Γ3 8 8) 62 4 fi62.nt fi62.live fi62.nl 8 (findL 5 (loopsIn fi62.code)) (St.mk [(0, (AV.v (TV.one (At.ptr 3 0 3)))), (3, (AV.v (TV.one (At.int IntKind.i64 t3)))), (4, (AV.v (TV.one (At.int IntKind.i64 t4))))] [(Blk.mk Bool.false (Body.fl FloatKind.f32 b0)), (Blk.mk Bool.false (Body.fl FloatKind.f32 b1)), (Blk.mk Bool.false (Body.fl FloatKind.f32 b2)), (Blk.mk Bool.false (Body.cells [(At.vw 0 0 q27 1), (At.vw 1 0 q2n 1), (At.vw 2 0 q2m 1)]))]) K = za6 t3 b0 b1 b2 q27 q2n q2m t4 (fun t4' => K .normal (St.mk [(0, (AV.v (TV.one (At.ptr 3 0 3)))), (3, (AV.v (TV.one (At.int IntKind.i64 t3)))), (4, (AV.v (TV.one (At.int IntKind.i64 t4'))))] [(Blk.mk Bool.false (Body.fl FloatKind.f32 b0)), (Blk.mk Bool.false (Body.fl FloatKind.f32 b1)), (Blk.mk Bool.false (Body.fl FloatKind.f32 b2)), (Blk.mk Bool.false (Body.cells [(At.vw 0 0 q27 1), (At.vw 1 0 q2n 1), (At.vw 2 0 q2m 1)]))])) (fun _ => K Ex.ret (St.mk [(2, (AV.v (TV.one (At.bool Bool.false))))] [(Blk.mk Bool.false (Body.fl FloatKind.f32 b0)), (Blk.mk Bool.false (Body.fl FloatKind.f32 b1)), (Blk.mk Bool.false (Body.fl FloatKind.f32 b2)), (Blk.mk Bool.false (Body.cells [(At.vw 0 0 q27 1), (At.vw 1 0 q2n 1), (At.vw 2 0 q2m 1)]))])) (fun c0_ c1_ => K (Ex.exit 0) (St.mk [(0, (AV.v (TV.one (At.ptr 3 0 3)))), (3, (AV.v (TV.one (At.int IntKind.i64 t3)))), (4, (AV.v (TV.one (At.int IntKind.i64 c0_)))), (36, (AV.v (TV.one (At.bool c1_))))] [(Blk.mk Bool.false (Body.fl FloatKind.f32 b0)), (Blk.mk Bool.false (Body.fl FloatKind.f32 b1)), (Blk.mk Bool.false (Body.fl FloatKind.f32 b2)), (Blk.mk Bool.false (Body.cells [(At.vw 0 0 q27 1), (At.vw 1 0 q2n 1), (At.vw 2 0 q2m 1)]))])) := by kernel_rfl
theorem zsy (t3 : Int) (b0 : List Nat) (b1 : List Nat) (b2 : List Nat) (q27 : Nat) (q2n : Nat) (q2m : Nat) : ∀ (n : Nat) (t4 : Int), iter 62 5 4 (evC (R := Ex × St) Γ3 (evFn Γ3 8 8) 62 4 fi62.nt fi62.live fi62.nl 8 (findL 5 (loopsIn fi62.code))) n (St.mk [(0, (AV.v (TV.one (At.ptr 3 0 3)))), (3, (AV.v (TV.one (At.int IntKind.i64 t3)))), (4, (AV.v (TV.one (At.int IntKind.i64 t4))))] [(Blk.mk Bool.false (Body.fl FloatKind.f32 b0)), (Blk.mk Bool.false (Body.fl FloatKind.f32 b1)), (Blk.mk Bool.false (Body.fl FloatKind.f32 b2)), (Blk.mk Bool.false (Body.cells [(At.vw 0 0 q27 1), (At.vw 1 0 q2n 1), (At.vw 2 0 q2m 1)]))]) (fun e st => some (e, st)) = (zib t3 b0 b1 b2 q27 q2n q2m) (z7f t3 b0 b1 b2 q27 q2n q2m n t4) := by
  intro n
  induction n with
  | zero => intros; rfl
  | succ n ih =>
    intro t4
    refine Eq.trans (iter_succ ..) (Eq.trans (zt1 t3 t4 b0 b1 b2 q27 q2n q2m (nextK 62 5 4 (evC (R := Ex × St) Γ3 (evFn Γ3 8 8) 62 4 fi62.nt fi62.live fi62.nl 8 (findL 5 (loopsIn fi62.code))) n (fun e st => some (e, st)))) (Eq.trans ?_ (zqv (zib t3 b0 b1 b2 q27 q2n q2m) rfl t3 b0 b1 b2 q27 q2n q2m t4 (fun t4' => z7f t3 b0 b1 b2 q27 q2n q2m n t4') (fun _ => some (Sum.inl ())) (fun c0_ c1_ => some (Sum.inr (c0_, c1_))))))
    exact congrArg (fun kn_ => za6 t3 b0 b1 b2 q27 q2n q2m t4 kn_ (fun _ => (zib t3 b0 b1 b2 q27 q2n q2m) (some (Sum.inl ()))) (fun c0_ c1_ => (zib t3 b0 b1 b2 q27 q2n q2m) (some (Sum.inr (c0_, c1_))))) (funext fun t4' => ih t4')
theorem z33 : LoopOne Try.prog fnTab 62 5 z3x := lp_of (Γ := Γ3) tyTab_ok (FnL.ok fnTab_ok _ _) (LpL.ok lt3_ok) (SumL.ok tb3_ok _) mixed (fi := fi62) (by kernel_rfl) (by kernel_rfl) (by
  intro lo st out hp
  obtain ⟨hs, e1, e2, e3⟩ := lpT_inv hp
  clear hp
  obtain rfl : st = (St.mk [(0, (AV.v (TV.one (At.ptr 3 0 3)))), (3, (AV.v (TV.one (At.int IntKind.i64 (hvI (hGet hs 0)))))), (4, (AV.v (TV.one (At.int IntKind.i64 (hvI (hGet hs 1))))))] [(Blk.mk Bool.false (Body.fl FloatKind.f32 (hvLn (hGet hs 2)))), (Blk.mk Bool.false (Body.fl FloatKind.f32 (hvLn (hGet hs 3)))), (Blk.mk Bool.false (Body.fl FloatKind.f32 (hvLn (hGet hs 4)))), (Blk.mk Bool.false (Body.cells [(At.vw 0 0 (hvN (hGet hs 5)) 1), (At.vw 1 0 (hvN (hGet hs 6)) 1), (At.vw 2 0 (hvN (hGet hs 7)) 1)]))]) := e2.trans (by kernel_rfl)
  clear e2
  subst e1
  unfold zn3 at e3
  injection e3 with h1 h2
  subst h2
  exact ⟨8, 8, big, Eq.trans (zsy (hvI (hGet hs 0)) (hvLn (hGet hs 2)) (hvLn (hGet hs 3)) (hvLn (hGet hs 4)) (hvN (hGet hs 5)) (hvN (hGet hs 6)) (hvN (hGet hs 7)) big (hvI (hGet hs 1))) (zt3 (hvI (hGet hs 0)) (hvLn (hGet hs 2)) (hvLn (hGet hs 3)) (hvLn (hGet hs 4)) (hvN (hGet hs 5)) (hvN (hGet hs 6)) (hvN (hGet hs 7)) (z7f (hvI (hGet hs 0)) (hvLn (hGet hs 2)) (hvLn (hGet hs 3)) (hvLn (hGet hs 4)) (hvN (hGet hs 5)) (hvN (hGet hs 6)) (hvN (hGet hs 7)) big (hvI (hGet hs 1))) h1)⟩)
noncomputable def zma (an : Nat) (bn : Nat) (i : Int) (b0 : List Nat) (b1 : List Nat) : Bool × LO := ((zcr an bn b0 b1 i), (LO.two (zcg an bn b0 b1 i) (LO.one Ex.ret (St.mk [(4, (AV.v (TV.one (At.bool Bool.false))))] [(Blk.mk Bool.false (Body.fl FloatKind.f32 b0)), (Blk.mk Bool.false (Body.fl FloatKind.f32 b1))])) (LO.one (Ex.exit 0) (St.mk [(0, (AV.v (TV.one (At.vw 0 0 an 3)))), (1, (AV.v (TV.one (At.vw 1 0 bn 3)))), (5, (AV.v (TV.one (At.int IntKind.i64 (zgp an bn b0 b1 i))))), (14, (AV.v (TV.one (At.bool (zgc an bn b0 b1 i)))))] [(Blk.mk Bool.false (Body.fl FloatKind.f32 b0)), (Blk.mk Bool.false (Body.fl FloatKind.f32 b1))]))))
noncomputable def z1u : Nat → St → Option (Bool × LO) := lpT 2 (pSt [(pTm 0 (pV (pOne (pVw 0 (liN 0) 3)))), (pTm 1 (pV (pOne (pVw 1 (liN 0) 3)))), (pTm 5 (pV (pOne (pInt IntKind.i64))))] [(pBlk Bool.false (pFl FloatKind.f32)), (pBlk Bool.false (pFl FloatKind.f32))]) (fun hs => zma (hvN (hGet hs 0)) (hvN (hGet hs 1)) (hvI (hGet hs 2)) (hvLn (hGet hs 3)) (hvLn (hGet hs 4)))
def zco (an : Nat) (bn : Nat) (b0 : List Nat) (b1 : List Nat) : Option ((Unit) ⊕ (Int × Bool)) → Option (Ex × St)
  | none => none
  | some (Sum.inl r) => some (Ex.ret, (St.mk [(4, (AV.v (TV.one (At.bool Bool.false))))] [(Blk.mk Bool.false (Body.fl FloatKind.f32 b0)), (Blk.mk Bool.false (Body.fl FloatKind.f32 b1))]))
  | some (Sum.inr r) => some ((Ex.exit 0), (St.mk [(0, (AV.v (TV.one (At.vw 0 0 an 3)))), (1, (AV.v (TV.one (At.vw 1 0 bn 3)))), (5, (AV.v (TV.one (At.int IntKind.i64 r.1)))), (14, (AV.v (TV.one (At.bool r.2))))] [(Blk.mk Bool.false (Body.fl FloatKind.f32 b0)), (Blk.mk Bool.false (Body.fl FloatKind.f32 b1))]))
def zp8 (an : Nat) (bn : Nat) (b0 : List Nat) (b1 : List Nat) (x : Option ((Unit) ⊕ (Int × Bool))) : LO := (LO.two (oL x) (LO.one Ex.ret (St.mk [(4, (AV.v (TV.one (At.bool Bool.false))))] [(Blk.mk Bool.false (Body.fl FloatKind.f32 b0)), (Blk.mk Bool.false (Body.fl FloatKind.f32 b1))])) (LO.one (Ex.exit 0) (St.mk [(0, (AV.v (TV.one (At.vw 0 0 an 3)))), (1, (AV.v (TV.one (At.vw 1 0 bn 3)))), (5, (AV.v (TV.one (At.int IntKind.i64 ((tR x).getD default).1)))), (14, (AV.v (TV.one (At.bool ((tR x).getD default).2))))] [(Blk.mk Bool.false (Body.fl FloatKind.f32 b0)), (Blk.mk Bool.false (Body.fl FloatKind.f32 b1))])))
theorem zq4 (an : Nat) (bn : Nat) (b0 : List Nat) (b1 : List Nat) : ∀ x : Option ((Unit) ⊕ (Int × Bool)), x.isSome = true → (zco an bn b0 b1) x = some (pick (zp8 an bn b0 b1 x))
  | none, h => by cases h
  | some (Sum.inl r), _ => rfl
  | some (Sum.inr r), _ => rfl
theorem zqd (an : Nat) (bn : Nat) (i : Int) (b0 : List Nat) (b1 : List Nat) (K : Ex → St → Option (Ex × St)) : evC (R := Ex × St) Γ3 (evFn Γ3 8 8) 69 2 fi69.nt fi69.live fi69.nl 8 (findL 4 (loopsIn fi69.code)) (St.mk [(0, (AV.v (TV.one (At.vw 0 0 an 3)))), (1, (AV.v (TV.one (At.vw 1 0 bn 3)))), (5, (AV.v (TV.one (At.int IntKind.i64 i))))] [(Blk.mk Bool.false (Body.fl FloatKind.f32 b0)), (Blk.mk Bool.false (Body.fl FloatKind.f32 b1))]) K = z7u an bn b0 b1 i (fun i' => K .normal (St.mk [(0, (AV.v (TV.one (At.vw 0 0 an 3)))), (1, (AV.v (TV.one (At.vw 1 0 bn 3)))), (5, (AV.v (TV.one (At.int IntKind.i64 i'))))] [(Blk.mk Bool.false (Body.fl FloatKind.f32 b0)), (Blk.mk Bool.false (Body.fl FloatKind.f32 b1))])) (fun _ => K Ex.ret (St.mk [(4, (AV.v (TV.one (At.bool Bool.false))))] [(Blk.mk Bool.false (Body.fl FloatKind.f32 b0)), (Blk.mk Bool.false (Body.fl FloatKind.f32 b1))])) (fun c0_ c1_ => K (Ex.exit 0) (St.mk [(0, (AV.v (TV.one (At.vw 0 0 an 3)))), (1, (AV.v (TV.one (At.vw 1 0 bn 3)))), (5, (AV.v (TV.one (At.int IntKind.i64 c0_)))), (14, (AV.v (TV.one (At.bool c1_))))] [(Blk.mk Bool.false (Body.fl FloatKind.f32 b0)), (Blk.mk Bool.false (Body.fl FloatKind.f32 b1))])) := by kernel_rfl
theorem zq7 (an : Nat) (bn : Nat) (b0 : List Nat) (b1 : List Nat) : ∀ (n : Nat) (i : Int), iter 69 4 2 (evC (R := Ex × St) Γ3 (evFn Γ3 8 8) 69 2 fi69.nt fi69.live fi69.nl 8 (findL 4 (loopsIn fi69.code))) n (St.mk [(0, (AV.v (TV.one (At.vw 0 0 an 3)))), (1, (AV.v (TV.one (At.vw 1 0 bn 3)))), (5, (AV.v (TV.one (At.int IntKind.i64 i))))] [(Blk.mk Bool.false (Body.fl FloatKind.f32 b0)), (Blk.mk Bool.false (Body.fl FloatKind.f32 b1))]) (fun e st => some (e, st)) = (zco an bn b0 b1) (z66 an bn b0 b1 n i) := by
  intro n
  induction n with
  | zero => intros; rfl
  | succ n ih =>
    intro i
    refine Eq.trans (iter_succ ..) (Eq.trans (zqd an bn i b0 b1 (nextK 69 4 2 (evC (R := Ex × St) Γ3 (evFn Γ3 8 8) 69 2 fi69.nt fi69.live fi69.nl 8 (findL 4 (loopsIn fi69.code))) n (fun e st => some (e, st)))) (Eq.trans ?_ (zo1 (zco an bn b0 b1) rfl an bn b0 b1 i (fun i' => z66 an bn b0 b1 n i') (fun _ => some (Sum.inl ())) (fun c0_ c1_ => some (Sum.inr (c0_, c1_))))))
    exact congrArg (fun kn_ => z7u an bn b0 b1 i kn_ (fun _ => (zco an bn b0 b1) (some (Sum.inl ()))) (fun c0_ c1_ => (zco an bn b0 b1) (some (Sum.inr (c0_, c1_))))) (funext fun i' => ih i')
theorem z15 : LoopOne Try.prog fnTab 69 4 z1u := lp_of (Γ := Γ3) tyTab_ok (FnL.ok fnTab_ok _ _) (LpL.ok lt3_ok) (SumL.ok tb3_ok _) mixed (fi := fi69) (by kernel_rfl) (by kernel_rfl) (by
  intro lo st out hp
  obtain ⟨hs, e1, e2, e3⟩ := lpT_inv hp
  clear hp
  obtain rfl : st = (St.mk [(0, (AV.v (TV.one (At.vw 0 0 (hvN (hGet hs 0)) 3)))), (1, (AV.v (TV.one (At.vw 1 0 (hvN (hGet hs 1)) 3)))), (5, (AV.v (TV.one (At.int IntKind.i64 (hvI (hGet hs 2))))))] [(Blk.mk Bool.false (Body.fl FloatKind.f32 (hvLn (hGet hs 3)))), (Blk.mk Bool.false (Body.fl FloatKind.f32 (hvLn (hGet hs 4))))]) := e2.trans (by kernel_rfl)
  clear e2
  subst e1
  unfold zma at e3
  injection e3 with h1 h2
  subst h2
  exact ⟨8, 8, big, Eq.trans (zq7 (hvN (hGet hs 0)) (hvN (hGet hs 1)) (hvLn (hGet hs 3)) (hvLn (hGet hs 4)) big (hvI (hGet hs 2))) (zq4 (hvN (hGet hs 0)) (hvN (hGet hs 1)) (hvLn (hGet hs 3)) (hvLn (hGet hs 4)) (z66 (hvN (hGet hs 0)) (hvN (hGet hs 1)) (hvLn (hGet hs 3)) (hvLn (hGet hs 4)) big (hvI (hGet hs 2))) h1)⟩)
noncomputable def zb8 (sn : Nat) (t7 : Int) (t8 : Int) (b0 : List Nat) : Bool × LO := ((z5k sn t7 b0 t8), (LO.two (z5h sn t7 b0 t8) (LO.one Ex.ret (St.mk [(4, (AV.v (TV.one (At.int IntKind.i64 (z6p sn t7 b0 t8)))))] [(Blk.mk Bool.false (Body.fl FloatKind.f32 b0))])) (LO.one (Ex.exit 0) (St.mk [(0, (AV.v (TV.one (At.vw 0 0 sn 1)))), (1, (AV.v (TV.one (At.fn 118 [])))), (7, (AV.v (TV.one (At.int IntKind.i64 t7)))), (8, (AV.v (TV.one (At.int IntKind.i64 (z8v sn t7 b0 t8))))), (9, (AV.v (TV.one (At.bool (z8u sn t7 b0 t8)))))] [(Blk.mk Bool.false (Body.fl FloatKind.f32 b0))]))))
noncomputable def z05 : Nat → St → Option (Bool × LO) := lpT 1 (pSt [(pTm 0 (pV (pOne (pVw 0 (liN 0) 1)))), (pTm 1 (pV (pOne (pFn 118 [])))), (pTm 7 (pV (pOne (pInt IntKind.i64)))), (pTm 8 (pV (pOne (pInt IntKind.i64))))] [(pBlk Bool.false (pFl FloatKind.f32))]) (fun hs => zb8 (hvN (hGet hs 0)) (hvI (hGet hs 1)) (hvI (hGet hs 2)) (hvLn (hGet hs 3)))
def z68 (sn : Nat) (t7 : Int) (b0 : List Nat) : Option ((Int) ⊕ (Int × Bool)) → Option (Ex × St)
  | none => none
  | some (Sum.inl r) => some (Ex.ret, (St.mk [(4, (AV.v (TV.one (At.int IntKind.i64 r))))] [(Blk.mk Bool.false (Body.fl FloatKind.f32 b0))]))
  | some (Sum.inr r) => some ((Ex.exit 0), (St.mk [(0, (AV.v (TV.one (At.vw 0 0 sn 1)))), (1, (AV.v (TV.one (At.fn 118 [])))), (7, (AV.v (TV.one (At.int IntKind.i64 t7)))), (8, (AV.v (TV.one (At.int IntKind.i64 r.1)))), (9, (AV.v (TV.one (At.bool r.2))))] [(Blk.mk Bool.false (Body.fl FloatKind.f32 b0))]))
def zis (sn : Nat) (t7 : Int) (b0 : List Nat) (x : Option ((Int) ⊕ (Int × Bool))) : LO := (LO.two (oL x) (LO.one Ex.ret (St.mk [(4, (AV.v (TV.one (At.int IntKind.i64 ((tL x).getD default)))))] [(Blk.mk Bool.false (Body.fl FloatKind.f32 b0))])) (LO.one (Ex.exit 0) (St.mk [(0, (AV.v (TV.one (At.vw 0 0 sn 1)))), (1, (AV.v (TV.one (At.fn 118 [])))), (7, (AV.v (TV.one (At.int IntKind.i64 t7)))), (8, (AV.v (TV.one (At.int IntKind.i64 ((tR x).getD default).1)))), (9, (AV.v (TV.one (At.bool ((tR x).getD default).2))))] [(Blk.mk Bool.false (Body.fl FloatKind.f32 b0))])))
theorem zk1 (sn : Nat) (t7 : Int) (b0 : List Nat) : ∀ x : Option ((Int) ⊕ (Int × Bool)), x.isSome = true → (z68 sn t7 b0) x = some (pick (zis sn t7 b0 x))
  | none, h => by cases h
  | some (Sum.inl r), _ => rfl
  | some (Sum.inr r), _ => rfl
theorem zk6 (sn : Nat) (t7 : Int) (t8 : Int) (b0 : List Nat) (K : Ex → St → Option (Ex × St)) : evC (R := Ex × St) Γ3 (evFn Γ3 8 8) 99 1 fi99.nt fi99.live fi99.nl 8 (findL 2 (loopsIn fi99.code)) (St.mk [(0, (AV.v (TV.one (At.vw 0 0 sn 1)))), (1, (AV.v (TV.one (At.fn 118 [])))), (7, (AV.v (TV.one (At.int IntKind.i64 t7)))), (8, (AV.v (TV.one (At.int IntKind.i64 t8))))] [(Blk.mk Bool.false (Body.fl FloatKind.f32 b0))]) K = z4m sn t7 b0 t8 (fun t8' => K .normal (St.mk [(0, (AV.v (TV.one (At.vw 0 0 sn 1)))), (1, (AV.v (TV.one (At.fn 118 [])))), (7, (AV.v (TV.one (At.int IntKind.i64 t7)))), (8, (AV.v (TV.one (At.int IntKind.i64 t8'))))] [(Blk.mk Bool.false (Body.fl FloatKind.f32 b0))])) (fun c0_ => K Ex.ret (St.mk [(4, (AV.v (TV.one (At.int IntKind.i64 c0_))))] [(Blk.mk Bool.false (Body.fl FloatKind.f32 b0))])) (fun c0_ c1_ => K (Ex.exit 0) (St.mk [(0, (AV.v (TV.one (At.vw 0 0 sn 1)))), (1, (AV.v (TV.one (At.fn 118 [])))), (7, (AV.v (TV.one (At.int IntKind.i64 t7)))), (8, (AV.v (TV.one (At.int IntKind.i64 c0_)))), (9, (AV.v (TV.one (At.bool c1_))))] [(Blk.mk Bool.false (Body.fl FloatKind.f32 b0))])) := by kernel_rfl
theorem zk5 (sn : Nat) (t7 : Int) (b0 : List Nat) : ∀ (n : Nat) (t8 : Int), iter 99 2 1 (evC (R := Ex × St) Γ3 (evFn Γ3 8 8) 99 1 fi99.nt fi99.live fi99.nl 8 (findL 2 (loopsIn fi99.code))) n (St.mk [(0, (AV.v (TV.one (At.vw 0 0 sn 1)))), (1, (AV.v (TV.one (At.fn 118 [])))), (7, (AV.v (TV.one (At.int IntKind.i64 t7)))), (8, (AV.v (TV.one (At.int IntKind.i64 t8))))] [(Blk.mk Bool.false (Body.fl FloatKind.f32 b0))]) (fun e st => some (e, st)) = (z68 sn t7 b0) (z2a sn t7 b0 n t8) := by
  intro n
  induction n with
  | zero => intros; rfl
  | succ n ih =>
    intro t8
    refine Eq.trans (iter_succ ..) (Eq.trans (zk6 sn t7 t8 b0 (nextK 99 2 1 (evC (R := Ex × St) Γ3 (evFn Γ3 8 8) 99 1 fi99.nt fi99.live fi99.nl 8 (findL 2 (loopsIn fi99.code))) n (fun e st => some (e, st)))) (Eq.trans ?_ (zgn (z68 sn t7 b0) rfl sn t7 b0 t8 (fun t8' => z2a sn t7 b0 n t8') (fun c0_ => some (Sum.inl c0_)) (fun c0_ c1_ => some (Sum.inr (c0_, c1_))))))
    exact congrArg (fun kn_ => z4m sn t7 b0 t8 kn_ (fun c0_ => (z68 sn t7 b0) (some (Sum.inl c0_))) (fun c0_ c1_ => (z68 sn t7 b0) (some (Sum.inr (c0_, c1_))))) (funext fun t8' => ih t8')
theorem z04 : LoopOne Try.prog fnTab 99 2 z05 := lp_of (Γ := Γ3) tyTab_ok (FnL.ok fnTab_ok _ _) (LpL.ok lt3_ok) (SumL.ok tb3_ok _) mixed (fi := fi99) (by kernel_rfl) (by kernel_rfl) (by
  intro lo st out hp
  obtain ⟨hs, e1, e2, e3⟩ := lpT_inv hp
  clear hp
  obtain rfl : st = (St.mk [(0, (AV.v (TV.one (At.vw 0 0 (hvN (hGet hs 0)) 1)))), (1, (AV.v (TV.one (At.fn 118 [])))), (7, (AV.v (TV.one (At.int IntKind.i64 (hvI (hGet hs 1)))))), (8, (AV.v (TV.one (At.int IntKind.i64 (hvI (hGet hs 2))))))] [(Blk.mk Bool.false (Body.fl FloatKind.f32 (hvLn (hGet hs 3))))]) := e2.trans (by kernel_rfl)
  clear e2
  subst e1
  unfold zb8 at e3
  injection e3 with h1 h2
  subst h2
  exact ⟨8, 8, big, Eq.trans (zk5 (hvN (hGet hs 0)) (hvI (hGet hs 1)) (hvLn (hGet hs 3)) big (hvI (hGet hs 2))) (zk1 (hvN (hGet hs 0)) (hvI (hGet hs 1)) (hvLn (hGet hs 3)) (z2a (hvN (hGet hs 0)) (hvI (hGet hs 1)) (hvLn (hGet hs 3)) big (hvI (hGet hs 2))) h1)⟩)
noncomputable def zaf (sn : Nat) (t7 : Int) (t8 : Int) (b0 : List Nat) : Bool × LO := ((z5c sn t7 b0 t8), (LO.two (z5a sn t7 b0 t8) (LO.one Ex.ret (St.mk [(4, (AV.v (TV.one (At.int IntKind.i64 (z6c sn t7 b0 t8)))))] [(Blk.mk Bool.false (Body.fl FloatKind.f32 b0))])) (LO.one (Ex.exit 0) (St.mk [(0, (AV.v (TV.one (At.vw 0 0 sn 1)))), (1, (AV.v (TV.one (At.fn 122 [])))), (7, (AV.v (TV.one (At.int IntKind.i64 t7)))), (8, (AV.v (TV.one (At.int IntKind.i64 (z84 sn t7 b0 t8))))), (9, (AV.v (TV.one (At.bool (z85 sn t7 b0 t8)))))] [(Blk.mk Bool.false (Body.fl FloatKind.f32 b0))]))))
noncomputable def z03 : Nat → St → Option (Bool × LO) := lpT 1 (pSt [(pTm 0 (pV (pOne (pVw 0 (liN 0) 1)))), (pTm 1 (pV (pOne (pFn 122 [])))), (pTm 7 (pV (pOne (pInt IntKind.i64)))), (pTm 8 (pV (pOne (pInt IntKind.i64))))] [(pBlk Bool.false (pFl FloatKind.f32))]) (fun hs => zaf (hvN (hGet hs 0)) (hvI (hGet hs 1)) (hvI (hGet hs 2)) (hvLn (hGet hs 3)))
def z63 (sn : Nat) (t7 : Int) (b0 : List Nat) : Option ((Int) ⊕ (Int × Bool)) → Option (Ex × St)
  | none => none
  | some (Sum.inl r) => some (Ex.ret, (St.mk [(4, (AV.v (TV.one (At.int IntKind.i64 r))))] [(Blk.mk Bool.false (Body.fl FloatKind.f32 b0))]))
  | some (Sum.inr r) => some ((Ex.exit 0), (St.mk [(0, (AV.v (TV.one (At.vw 0 0 sn 1)))), (1, (AV.v (TV.one (At.fn 122 [])))), (7, (AV.v (TV.one (At.int IntKind.i64 t7)))), (8, (AV.v (TV.one (At.int IntKind.i64 r.1)))), (9, (AV.v (TV.one (At.bool r.2))))] [(Blk.mk Bool.false (Body.fl FloatKind.f32 b0))]))
def zh9 (sn : Nat) (t7 : Int) (b0 : List Nat) (x : Option ((Int) ⊕ (Int × Bool))) : LO := (LO.two (oL x) (LO.one Ex.ret (St.mk [(4, (AV.v (TV.one (At.int IntKind.i64 ((tL x).getD default)))))] [(Blk.mk Bool.false (Body.fl FloatKind.f32 b0))])) (LO.one (Ex.exit 0) (St.mk [(0, (AV.v (TV.one (At.vw 0 0 sn 1)))), (1, (AV.v (TV.one (At.fn 122 [])))), (7, (AV.v (TV.one (At.int IntKind.i64 t7)))), (8, (AV.v (TV.one (At.int IntKind.i64 ((tR x).getD default).1)))), (9, (AV.v (TV.one (At.bool ((tR x).getD default).2))))] [(Blk.mk Bool.false (Body.fl FloatKind.f32 b0))])))
theorem zio (sn : Nat) (t7 : Int) (b0 : List Nat) : ∀ x : Option ((Int) ⊕ (Int × Bool)), x.isSome = true → (z63 sn t7 b0) x = some (pick (zh9 sn t7 b0 x))
  | none, h => by cases h
  | some (Sum.inl r), _ => rfl
  | some (Sum.inr r), _ => rfl
theorem zil (sn : Nat) (t7 : Int) (t8 : Int) (b0 : List Nat) (K : Ex → St → Option (Ex × St)) : evC (R := Ex × St) Γ3 (evFn Γ3 8 8) 99 1 fi99.nt fi99.live fi99.nl 8 (findL 2 (loopsIn fi99.code)) (St.mk [(0, (AV.v (TV.one (At.vw 0 0 sn 1)))), (1, (AV.v (TV.one (At.fn 122 [])))), (7, (AV.v (TV.one (At.int IntKind.i64 t7)))), (8, (AV.v (TV.one (At.int IntKind.i64 t8))))] [(Blk.mk Bool.false (Body.fl FloatKind.f32 b0))]) K = z4g sn t7 b0 t8 (fun t8' => K .normal (St.mk [(0, (AV.v (TV.one (At.vw 0 0 sn 1)))), (1, (AV.v (TV.one (At.fn 122 [])))), (7, (AV.v (TV.one (At.int IntKind.i64 t7)))), (8, (AV.v (TV.one (At.int IntKind.i64 t8'))))] [(Blk.mk Bool.false (Body.fl FloatKind.f32 b0))])) (fun c0_ => K Ex.ret (St.mk [(4, (AV.v (TV.one (At.int IntKind.i64 c0_))))] [(Blk.mk Bool.false (Body.fl FloatKind.f32 b0))])) (fun c0_ c1_ => K (Ex.exit 0) (St.mk [(0, (AV.v (TV.one (At.vw 0 0 sn 1)))), (1, (AV.v (TV.one (At.fn 122 [])))), (7, (AV.v (TV.one (At.int IntKind.i64 t7)))), (8, (AV.v (TV.one (At.int IntKind.i64 c0_)))), (9, (AV.v (TV.one (At.bool c1_))))] [(Blk.mk Bool.false (Body.fl FloatKind.f32 b0))])) := by kernel_rfl
theorem zip (sn : Nat) (t7 : Int) (b0 : List Nat) : ∀ (n : Nat) (t8 : Int), iter 99 2 1 (evC (R := Ex × St) Γ3 (evFn Γ3 8 8) 99 1 fi99.nt fi99.live fi99.nl 8 (findL 2 (loopsIn fi99.code))) n (St.mk [(0, (AV.v (TV.one (At.vw 0 0 sn 1)))), (1, (AV.v (TV.one (At.fn 122 [])))), (7, (AV.v (TV.one (At.int IntKind.i64 t7)))), (8, (AV.v (TV.one (At.int IntKind.i64 t8))))] [(Blk.mk Bool.false (Body.fl FloatKind.f32 b0))]) (fun e st => some (e, st)) = (z63 sn t7 b0) (z23 sn t7 b0 n t8) := by
  intro n
  induction n with
  | zero => intros; rfl
  | succ n ih =>
    intro t8
    refine Eq.trans (iter_succ ..) (Eq.trans (zil sn t7 t8 b0 (nextK 99 2 1 (evC (R := Ex × St) Γ3 (evFn Γ3 8 8) 99 1 fi99.nt fi99.live fi99.nl 8 (findL 2 (loopsIn fi99.code))) n (fun e st => some (e, st)))) (Eq.trans ?_ (zfj (z63 sn t7 b0) rfl sn t7 b0 t8 (fun t8' => z23 sn t7 b0 n t8') (fun c0_ => some (Sum.inl c0_)) (fun c0_ c1_ => some (Sum.inr (c0_, c1_))))))
    exact congrArg (fun kn_ => z4g sn t7 b0 t8 kn_ (fun c0_ => (z63 sn t7 b0) (some (Sum.inl c0_))) (fun c0_ c1_ => (z63 sn t7 b0) (some (Sum.inr (c0_, c1_))))) (funext fun t8' => ih t8')
theorem z02 : LoopOne Try.prog fnTab 99 2 z03 := lp_of (Γ := Γ3) tyTab_ok (FnL.ok fnTab_ok _ _) (LpL.ok lt3_ok) (SumL.ok tb3_ok _) mixed (fi := fi99) (by kernel_rfl) (by kernel_rfl) (by
  intro lo st out hp
  obtain ⟨hs, e1, e2, e3⟩ := lpT_inv hp
  clear hp
  obtain rfl : st = (St.mk [(0, (AV.v (TV.one (At.vw 0 0 (hvN (hGet hs 0)) 1)))), (1, (AV.v (TV.one (At.fn 122 [])))), (7, (AV.v (TV.one (At.int IntKind.i64 (hvI (hGet hs 1)))))), (8, (AV.v (TV.one (At.int IntKind.i64 (hvI (hGet hs 2))))))] [(Blk.mk Bool.false (Body.fl FloatKind.f32 (hvLn (hGet hs 3))))]) := e2.trans (by kernel_rfl)
  clear e2
  subst e1
  unfold zaf at e3
  injection e3 with h1 h2
  subst h2
  exact ⟨8, 8, big, Eq.trans (zip (hvN (hGet hs 0)) (hvI (hGet hs 1)) (hvLn (hGet hs 3)) big (hvI (hGet hs 2))) (zio (hvN (hGet hs 0)) (hvI (hGet hs 1)) (hvLn (hGet hs 3)) (z23 (hvN (hGet hs 0)) (hvI (hGet hs 1)) (hvLn (hGet hs 3)) big (hvI (hGet hs 2))) h1)⟩)
noncomputable def tb4 : List (Nat × (List PT → Option (Bool × AV × List Blk))) := [(125, z2f), (128, z0v), (134, z1i), (137, z2g), (18, z2p), (44, z2n), (48, z27), (54, z3f), (61, z2m), (63, z4f), (64, z42), (66, z43), (80, z28), (97, z3e), (104, z0s), (115, z01), (14, z34), (67, z1x), (92, z46), (103, z3j), (105, z35), (111, z3w), (114, z3k), (118, z1y), (122, z19), (37, z3y), (52, z2j), (72, z1o), (79, z1r), (93, z3a), (119, z2k), (16, z3g), (36, z2d), (57, z32), (86, z31)]
noncomputable def lt4 : List ((Nat × Nat) × (Nat → St → Option (Bool × LO))) := [((52, 3), z1e), ((72, 2), z10), ((79, 2), z11), ((57, 4), z1j), ((86, 3), z1k), ((62, 5), z3x), ((69, 4), z1u), ((99, 2), z05), ((99, 2), z03)]
noncomputable def Γ4 : Ctx := ⟨tyTab, fnTab, tblSum tb4, tblLp lt4⟩
theorem tb4_ok : SumL Try.prog tb4 := SumL.cons z1g (SumL.cons z0l (SumL.cons z14 (SumL.cons z1h (SumL.cons z1s (SumL.cons z1p (SumL.cons z1f (SumL.cons z24 (SumL.cons z1q (SumL.cons z3s (SumL.cons z39 (SumL.cons z38 (SumL.cons z1d (SumL.cons z25 (SumL.cons z0k (SumL.cons z00 (SumL.cons z20 (SumL.cons z1b (SumL.cons z3h (SumL.cons z2c (SumL.cons z1z (SumL.cons z30 (SumL.cons z2b (SumL.cons z1c (SumL.cons z0y (SumL.cons z36 (SumL.cons z1v (SumL.cons z17 (SumL.cons z18 (SumL.cons z26 (SumL.cons z1t (SumL.cons z2e (SumL.cons z1l (SumL.cons z22 (SumL.cons z21 (SumL.nil)))))))))))))))))))))))))))))))))))
theorem lt4_ok : LpL Try.prog fnTab lt4 := LpL.cons z0z (LpL.cons z0r (LpL.cons z0q (LpL.cons z12 (LpL.cons z13 (LpL.cons z33 (LpL.cons z15 (LpL.cons z04 (LpL.cons z02 (LpL.nil)))))))))
noncomputable def z3p : List PT → Option (Bool × AV × List Blk)
  | [.agg [.row 1 q0t (.fl .f32 q0z), .row 1 q0v (.fl .f32 q13), .row 1 q0w (.fl .f32 q15)], .agg [.row 1 q32 (.fl .f32 q38), .row 1 q35 (.fl .f32 q3a), .row 1 q34 (.fl .f32 q3b)]] => some ((zl0 q0t q0z q0v q13 q0w q15 q32 q38 q35 q3a q34 q3b), ((AV.v (TV.one (At.bool (zji q0t q0z q0v q13 q0w q15 q32 q38 q35 q3a q34 q3b)))), []))
  | _ => none
def znl (q0t : Nat) (q0z : List Nat) (q0v : Nat) (q13 : List Nat) (q0w : Nat) (q15 : List Nat) (q32 : Nat) (q38 : List Nat) (q35 : Nat) (q3a : List Nat) (q34 : Nat) (q3b : List Nat) : Option (Bool) → Option (AV × List Blk)
  | some r => some ((AV.v (TV.one (At.bool r))), [])
  | none => none
theorem zsn (q0t : Nat) (q0z : List Nat) (q0v : Nat) (q13 : List Nat) (q0w : Nat) (q15 : List Nat) (q32 : Nat) (q38 : List Nat) (q35 : Nat) (q3a : List Nat) (q34 : Nat) (q3b : List Nat) : evFn Γ4 8 8 19 (impTs 0 [.agg [.row 1 q0t (.fl .f32 q0z), .row 1 q0v (.fl .f32 q13), .row 1 q0w (.fl .f32 q15)], .agg [.row 1 q32 (.fl .f32 q38), .row 1 q35 (.fl .f32 q3a), .row 1 q34 (.fl .f32 q3b)]]).1 (impTs 0 [.agg [.row 1 q0t (.fl .f32 q0z), .row 1 q0v (.fl .f32 q13), .row 1 q0w (.fl .f32 q15)], .agg [.row 1 q32 (.fl .f32 q38), .row 1 q35 (.fl .f32 q3a), .row 1 q34 (.fl .f32 q3b)]]).2 (expo (impTs 0 [.agg [.row 1 q0t (.fl .f32 q0z), .row 1 q0v (.fl .f32 q13), .row 1 q0w (.fl .f32 q15)], .agg [.row 1 q32 (.fl .f32 q38), .row 1 q35 (.fl .f32 q3a), .row 1 q34 (.fl .f32 q3b)]]).2.length) = zdp q0t q0z q0v q13 q0w q15 q32 q38 q35 q3a q34 q3b (fun c0_ => some ((AV.v (TV.one (At.bool c0_))), [])) := by kernel_rfl
theorem z2q : SumOne Try.prog 19 z3p := sum_of (Γ := Γ4) (fuel := 8) (d := 8) tyTab_ok (FnL.ok fnTab_ok _ _) (LpL.ok lt4_ok) (SumL.ok tb4_ok _) mixed (by
  intro pts v news hp hc
  clear hc
  unfold z3p at hp
  split at hp
  · rename_i q0t q0z q0v q13 q0w q15 q32 q38 q35 q3a q34 q3b
    exact Eq.trans (Eq.trans (zsn q0t q0z q0v q13 q0w q15 q32 q38 q35 q3a q34 q3b) (zpt (znl q0t q0z q0v q13 q0w q15 q32 q38 q35 q3a q34 q3b) rfl q0t q0z q0v q13 q0w q15 q32 q38 q35 q3a q34 q3b (fun c0_ => some c0_))) (fin_out (o := (znl q0t q0z q0v q13 q0w q15 q32 q38 q35 q3a q34 q3b)) (x := zdq q0t q0z q0v q13 q0w q15 q32 q38 q35 q3a q34 q3b) (d := default) (V := fun r => ((AV.v (TV.one (At.bool r))), [])) (fun r => rfl) hp)
  · cases hp)
noncomputable def z3n : List PT → Option (Bool × AV × List Blk)
  | [.agg [.row 1 q0j (.fl .f32 q0m), .row 1 q0k (.fl .f32 q0o), .row 1 q0l (.fl .f32 q0p), .row 3 q0q (.fl .f32 q0u), .s (.int .i64 q14), .s (.flt .f32 q23), .s (.flt .f32 q24)], .one (.s (.int .i64 k))] => some ((zl7 q0j q0m q0k q0o q0l q0p q0q q0u q14 q23 q24 k), ((AV.v (TV.one (At.int IntKind.i64 (zjk q0j q0m q0k q0o q0l q0p q0q q0u q14 q23 q24 k)))), []))
  | _ => none
def zo3 (q0j : Nat) (q0m : List Nat) (q0k : Nat) (q0o : List Nat) (q0l : Nat) (q0p : List Nat) (q0q : Nat) (q0u : List Nat) (q14 : Int) (q23 : Nat) (q24 : Nat) (k : Int) : Option (Int) → Option (AV × List Blk)
  | some r => some ((AV.v (TV.one (At.int IntKind.i64 r))), [])
  | none => none
theorem zsh (q0j : Nat) (q0m : List Nat) (q0k : Nat) (q0o : List Nat) (q0l : Nat) (q0p : List Nat) (q0q : Nat) (q0u : List Nat) (q14 : Int) (q23 : Nat) (q24 : Nat) (k : Int) : evFn Γ4 8 8 33 (impTs 0 [.agg [.row 1 q0j (.fl .f32 q0m), .row 1 q0k (.fl .f32 q0o), .row 1 q0l (.fl .f32 q0p), .row 3 q0q (.fl .f32 q0u), .s (.int .i64 q14), .s (.flt .f32 q23), .s (.flt .f32 q24)], .one (.s (.int .i64 k))]).1 (impTs 0 [.agg [.row 1 q0j (.fl .f32 q0m), .row 1 q0k (.fl .f32 q0o), .row 1 q0l (.fl .f32 q0p), .row 3 q0q (.fl .f32 q0u), .s (.int .i64 q14), .s (.flt .f32 q23), .s (.flt .f32 q24)], .one (.s (.int .i64 k))]).2 (expo (impTs 0 [.agg [.row 1 q0j (.fl .f32 q0m), .row 1 q0k (.fl .f32 q0o), .row 1 q0l (.fl .f32 q0p), .row 3 q0q (.fl .f32 q0u), .s (.int .i64 q14), .s (.flt .f32 q23), .s (.flt .f32 q24)], .one (.s (.int .i64 k))]).2.length) = ze0 q0j q0m q0k q0o q0l q0p q0q q0u q14 q23 q24 k (fun c0_ => some ((AV.v (TV.one (At.int IntKind.i64 c0_))), [])) := by kernel_rfl
theorem z2o : SumOne Try.prog 33 z3n := sum_of (Γ := Γ4) (fuel := 8) (d := 8) tyTab_ok (FnL.ok fnTab_ok _ _) (LpL.ok lt4_ok) (SumL.ok tb4_ok _) mixed (by
  intro pts v news hp hc
  clear hc
  unfold z3n at hp
  split at hp
  · rename_i q0j q0m q0k q0o q0l q0p q0q q0u q14 q23 q24 k
    exact Eq.trans (Eq.trans (zsh q0j q0m q0k q0o q0l q0p q0q q0u q14 q23 q24 k) (zpz (zo3 q0j q0m q0k q0o q0l q0p q0q q0u q14 q23 q24 k) rfl q0j q0m q0k q0o q0l q0p q0q q0u q14 q23 q24 k (fun c0_ => some c0_))) (fin_out (o := (zo3 q0j q0m q0k q0o q0l q0p q0q q0u q14 q23 q24 k)) (x := zdo q0j q0m q0k q0o q0l q0p q0q q0u q14 q23 q24 k) (d := default) (V := fun r => ((AV.v (TV.one (At.int IntKind.i64 r))), [])) (fun r => rfl) hp)
  · cases hp)
noncomputable def z48 : List PT → Option (Bool × AV × List Blk)
  | [.agg [.row 1 q0j (.fl .f32 q0m), .row 1 q0k (.fl .f32 q0o), .row 1 q0l (.fl .f32 q0p), .row 3 q0q (.fl .f32 q0u), .s (.int .i64 q14), .s (.flt .f32 q23), .s (.flt .f32 q24)]] => some ((zjz q0j q0m q0k q0o q0l q0p q0q q0u q14 q23 q24), ((AV.v (TV.agg [(At.sl 0 0 (zh3 q0j q0m q0k q0o q0l q0p q0q q0u q14 q23 q24) 1), (At.sl 1 0 (zh8 q0j q0m q0k q0o q0l q0p q0q q0u q14 q23 q24) 1), (At.sl 2 0 (zi5 q0j q0m q0k q0o q0l q0p q0q q0u q14 q23 q24) 1), (At.sl 3 0 (zho q0j q0m q0k q0o q0l q0p q0q q0u q14 q23 q24) 3), (At.int IntKind.i64 q14), (At.flt FloatKind.f32 q23), (At.flt FloatKind.f32 q24)])), [(Blk.mk Bool.true (Body.fl FloatKind.f32 (zhu q0j q0m q0k q0o q0l q0p q0q q0u q14 q23 q24))), (Blk.mk Bool.true (Body.fl FloatKind.f32 (zh6 q0j q0m q0k q0o q0l q0p q0q q0u q14 q23 q24))), (Blk.mk Bool.true (Body.fl FloatKind.f32 (zhm q0j q0m q0k q0o q0l q0p q0q q0u q14 q23 q24))), (Blk.mk Bool.true (Body.fl FloatKind.f32 (zh0 q0j q0m q0k q0o q0l q0p q0q q0u q14 q23 q24)))]))
  | _ => none
def zpa (q0j : Nat) (q0m : List Nat) (q0k : Nat) (q0o : List Nat) (q0l : Nat) (q0p : List Nat) (q0q : Nat) (q0u : List Nat) (q14 : Int) (q23 : Nat) (q24 : Nat) : Option (Nat × Nat × Nat × Nat × (List Nat) × (List Nat) × (List Nat) × (List Nat)) → Option (AV × List Blk)
  | some r => some ((AV.v (TV.agg [(At.sl 0 0 r.1 1), (At.sl 1 0 r.2.1 1), (At.sl 2 0 r.2.2.1 1), (At.sl 3 0 r.2.2.2.1 3), (At.int IntKind.i64 q14), (At.flt FloatKind.f32 q23), (At.flt FloatKind.f32 q24)])), [(Blk.mk Bool.true (Body.fl FloatKind.f32 r.2.2.2.2.1)), (Blk.mk Bool.true (Body.fl FloatKind.f32 r.2.2.2.2.2.1)), (Blk.mk Bool.true (Body.fl FloatKind.f32 r.2.2.2.2.2.2.1)), (Blk.mk Bool.true (Body.fl FloatKind.f32 r.2.2.2.2.2.2.2))])
  | none => none
theorem zt7 (q0j : Nat) (q0m : List Nat) (q0k : Nat) (q0o : List Nat) (q0l : Nat) (q0p : List Nat) (q0q : Nat) (q0u : List Nat) (q14 : Int) (q23 : Nat) (q24 : Nat) : evFn Γ4 8 8 39 (impTs 0 [.agg [.row 1 q0j (.fl .f32 q0m), .row 1 q0k (.fl .f32 q0o), .row 1 q0l (.fl .f32 q0p), .row 3 q0q (.fl .f32 q0u), .s (.int .i64 q14), .s (.flt .f32 q23), .s (.flt .f32 q24)]]).1 (impTs 0 [.agg [.row 1 q0j (.fl .f32 q0m), .row 1 q0k (.fl .f32 q0o), .row 1 q0l (.fl .f32 q0p), .row 3 q0q (.fl .f32 q0u), .s (.int .i64 q14), .s (.flt .f32 q23), .s (.flt .f32 q24)]]).2 (expo (impTs 0 [.agg [.row 1 q0j (.fl .f32 q0m), .row 1 q0k (.fl .f32 q0o), .row 1 q0l (.fl .f32 q0p), .row 3 q0q (.fl .f32 q0u), .s (.int .i64 q14), .s (.flt .f32 q23), .s (.flt .f32 q24)]]).2.length) = zf7 q0j q0m q0k q0o q0l q0p q0q q0u q14 q23 q24 (fun c0_ c1_ c2_ c3_ c4_ c5_ c6_ c7_ => some ((AV.v (TV.agg [(At.sl 0 0 c0_ 1), (At.sl 1 0 c1_ 1), (At.sl 2 0 c2_ 1), (At.sl 3 0 c3_ 3), (At.int IntKind.i64 q14), (At.flt FloatKind.f32 q23), (At.flt FloatKind.f32 q24)])), [(Blk.mk Bool.true (Body.fl FloatKind.f32 c4_)), (Blk.mk Bool.true (Body.fl FloatKind.f32 c5_)), (Blk.mk Bool.true (Body.fl FloatKind.f32 c6_)), (Blk.mk Bool.true (Body.fl FloatKind.f32 c7_))])) := by kernel_rfl
theorem z3o : SumOne Try.prog 39 z48 := sum_of (Γ := Γ4) (fuel := 8) (d := 8) tyTab_ok (FnL.ok fnTab_ok _ _) (LpL.ok lt4_ok) (SumL.ok tb4_ok _) mixed (by
  intro pts v news hp hc
  clear hc
  unfold z48 at hp
  split at hp
  · rename_i q0j q0m q0k q0o q0l q0p q0q q0u q14 q23 q24
    exact Eq.trans (Eq.trans (zt7 q0j q0m q0k q0o q0l q0p q0q q0u q14 q23 q24) (zrm (zpa q0j q0m q0k q0o q0l q0p q0q q0u q14 q23 q24) rfl q0j q0m q0k q0o q0l q0p q0q q0u q14 q23 q24 (fun c0_ c1_ c2_ c3_ c4_ c5_ c6_ c7_ => some (c0_, c1_, c2_, c3_, c4_, c5_, c6_, c7_)))) (fin_out (o := (zpa q0j q0m q0k q0o q0l q0p q0q q0u q14 q23 q24)) (x := z7y q0j q0m q0k q0o q0l q0p q0q q0u q14 q23 q24) (d := default) (V := fun r => ((AV.v (TV.agg [(At.sl 0 0 r.1 1), (At.sl 1 0 r.2.1 1), (At.sl 2 0 r.2.2.1 1), (At.sl 3 0 r.2.2.2.1 3), (At.int IntKind.i64 q14), (At.flt FloatKind.f32 q23), (At.flt FloatKind.f32 q24)])), [(Blk.mk Bool.true (Body.fl FloatKind.f32 r.2.2.2.2.1)), (Blk.mk Bool.true (Body.fl FloatKind.f32 r.2.2.2.2.2.1)), (Blk.mk Bool.true (Body.fl FloatKind.f32 r.2.2.2.2.2.2.1)), (Blk.mk Bool.true (Body.fl FloatKind.f32 r.2.2.2.2.2.2.2))])) (fun r => rfl) hp)
  · cases hp)
noncomputable def z4q : List PT → Option (Bool × AV × List Blk)
  | [.ptr [.row 1 q10 (.fl .f32 q1q), .row 1 q17 (.fl .f32 q1t), .row 1 q16 (.fl .f32 q1s)]] => some ((zmk q10 q1q q17 q1t q16 q1s), ((AV.v (TV.one (At.bool (zmd q10 q1q q17 q1t q16 q1s)))), []))
  | _ => none
def zrb (q10 : Nat) (q1q : List Nat) (q17 : Nat) (q1t : List Nat) (q16 : Nat) (q1s : List Nat) : Option (Bool) → Option (AV × List Blk)
  | some r => some ((AV.v (TV.one (At.bool r))), [])
  | none => none
theorem zti (q10 : Nat) (q1q : List Nat) (q17 : Nat) (q1t : List Nat) (q16 : Nat) (q1s : List Nat) : evFn Γ4 8 8 62 (impTs 0 [.ptr [.row 1 q10 (.fl .f32 q1q), .row 1 q17 (.fl .f32 q1t), .row 1 q16 (.fl .f32 q1s)]]).1 (impTs 0 [.ptr [.row 1 q10 (.fl .f32 q1q), .row 1 q17 (.fl .f32 q1t), .row 1 q16 (.fl .f32 q1s)]]).2 (expo (impTs 0 [.ptr [.row 1 q10 (.fl .f32 q1q), .row 1 q17 (.fl .f32 q1t), .row 1 q16 (.fl .f32 q1s)]]).2.length) = zjw q10 q1q q17 q1t q16 q1s (fun c0_ => some ((AV.v (TV.one (At.bool c0_))), [])) := by kernel_rfl
theorem z47 : SumOne Try.prog 62 z4q := sum_of (Γ := Γ4) (fuel := 8) (d := 8) tyTab_ok (FnL.ok fnTab_ok _ _) (LpL.ok lt4_ok) (SumL.ok tb4_ok _) mixed (by
  intro pts v news hp hc
  clear hc
  unfold z4q at hp
  split at hp
  · rename_i q10 q1q q17 q1t q16 q1s
    exact Eq.trans (Eq.trans (zti q10 q1q q17 q1t q16 q1s) (zsi (zrb q10 q1q q17 q1t q16 q1s) rfl q10 q1q q17 q1t q16 q1s (fun c0_ => some c0_))) (fin_out (o := (zrb q10 q1q q17 q1t q16 q1s)) (x := zk0 q10 q1q q17 q1t q16 q1s) (d := default) (V := fun r => ((AV.v (TV.one (At.bool r))), [])) (fun r => rfl) hp)
  · cases hp)
noncomputable def z37 : List PT → Option (Bool × AV × List Blk)
  | [.one (.row 3 a_n (.fl .f32 a)), .one (.row 3 b_n (.fl .f32 b))] => some ((zjh a_n a b_n b), ((AV.v (TV.one (At.bool (zhv a_n a b_n b)))), []))
  | _ => none
def zn9 (a_n : Nat) (a : List Nat) (b_n : Nat) (b : List Nat) : Option (Bool) → Option (AV × List Blk)
  | some r => some ((AV.v (TV.one (At.bool r))), [])
  | none => none
theorem zrq (a_n : Nat) (a : List Nat) (b_n : Nat) (b : List Nat) : evFn Γ4 8 8 69 (impTs 0 [.one (.row 3 a_n (.fl .f32 a)), .one (.row 3 b_n (.fl .f32 b))]).1 (impTs 0 [.one (.row 3 a_n (.fl .f32 a)), .one (.row 3 b_n (.fl .f32 b))]).2 (expo (impTs 0 [.one (.row 3 a_n (.fl .f32 a)), .one (.row 3 b_n (.fl .f32 b))]).2.length) = zd8 a_n a b_n b (fun c0_ => some ((AV.v (TV.one (At.bool c0_))), [])) := by kernel_rfl
theorem z29 : SumOne Try.prog 69 z37 := sum_of (Γ := Γ4) (fuel := 8) (d := 8) tyTab_ok (FnL.ok fnTab_ok _ _) (LpL.ok lt4_ok) (SumL.ok tb4_ok _) mixed (by
  intro pts v news hp hc
  clear hc
  unfold z37 at hp
  split at hp
  · rename_i a_n a b_n b
    exact Eq.trans (Eq.trans (zrq a_n a b_n b) (zp6 (zn9 a_n a b_n b) rfl a_n a b_n b (fun c0_ => some c0_))) (fin_out (o := (zn9 a_n a b_n b)) (x := zd4 a_n a b_n b) (d := default) (V := fun r => ((AV.v (TV.one (At.bool r))), [])) (fun r => rfl) hp)
  · cases hp)
noncomputable def z0f : List PT → Option (Bool × AV × List Blk)
  | [.one (.row 1 s_n (.fl .f32 s)), .fn 118 []] => some ((z80 s_n s), ((AV.v (TV.one (At.int IntKind.i64 (z7w s_n s)))), []))
  | _ => none
def zdj (s_n : Nat) (s : List Nat) : Option (Int) → Option (AV × List Blk)
  | some r => some ((AV.v (TV.one (At.int IntKind.i64 r))), [])
  | none => none
theorem zla (s_n : Nat) (s : List Nat) : evFn Γ4 8 8 99 (impTs 0 [.one (.row 1 s_n (.fl .f32 s)), .fn 118 []]).1 (impTs 0 [.one (.row 1 s_n (.fl .f32 s)), .fn 118 []]).2 (expo (impTs 0 [.one (.row 1 s_n (.fl .f32 s)), .fn 118 []]).2.length) = z5z s_n s (fun c0_ => some ((AV.v (TV.one (At.int IntKind.i64 c0_))), [])) := by kernel_rfl
theorem z0d : SumOne Try.prog 99 z0f := sum_of (Γ := Γ4) (fuel := 8) (d := 8) tyTab_ok (FnL.ok fnTab_ok _ _) (LpL.ok lt4_ok) (SumL.ok tb4_ok _) mixed (by
  intro pts v news hp hc
  clear hc
  unfold z0f at hp
  split at hp
  · rename_i s_n s
    exact Eq.trans (Eq.trans (zla s_n s) (zj0 (zdj s_n s) rfl s_n s (fun c0_ => some c0_))) (fin_out (o := (zdj s_n s)) (x := z5y s_n s) (d := default) (V := fun r => ((AV.v (TV.one (At.int IntKind.i64 r))), [])) (fun r => rfl) hp)
  · cases hp)
noncomputable def z0a : List PT → Option (Bool × AV × List Blk)
  | [.one (.row 1 s_n (.fl .f32 s)), .fn 122 []] => some ((z7n s_n s), ((AV.v (TV.one (At.int IntKind.i64 (z7d s_n s)))), []))
  | _ => none
def zcn (s_n : Nat) (s : List Nat) : Option (Int) → Option (AV × List Blk)
  | some r => some ((AV.v (TV.one (At.int IntKind.i64 r))), [])
  | none => none
theorem zko (s_n : Nat) (s : List Nat) : evFn Γ4 8 8 99 (impTs 0 [.one (.row 1 s_n (.fl .f32 s)), .fn 122 []]).1 (impTs 0 [.one (.row 1 s_n (.fl .f32 s)), .fn 122 []]).2 (expo (impTs 0 [.one (.row 1 s_n (.fl .f32 s)), .fn 122 []]).2.length) = z5s s_n s (fun c0_ => some ((AV.v (TV.one (At.int IntKind.i64 c0_))), [])) := by kernel_rfl
theorem z09 : SumOne Try.prog 99 z0a := sum_of (Γ := Γ4) (fuel := 8) (d := 8) tyTab_ok (FnL.ok fnTab_ok _ _) (LpL.ok lt4_ok) (SumL.ok tb4_ok _) mixed (by
  intro pts v news hp hc
  clear hc
  unfold z0a at hp
  split at hp
  · rename_i s_n s
    exact Eq.trans (Eq.trans (zko s_n s) (zhi (zcn s_n s) rfl s_n s (fun c0_ => some c0_))) (fin_out (o := (zcn s_n s)) (x := z5r s_n s) (d := default) (V := fun r => ((AV.v (TV.one (At.int IntKind.i64 r))), [])) (fun r => rfl) hp)
  · cases hp)
noncomputable def zc1 (sn : Nat) (t7 : Int) (t8 : Int) (b0 : List Nat) : Bool × LO := ((z5p sn t7 b0 t8), (LO.two (z5l sn t7 b0 t8) (LO.one Ex.ret (St.mk [(4, (AV.v (TV.one (At.int IntKind.i64 (z6t sn t7 b0 t8)))))] [(Blk.mk Bool.false (Body.fl FloatKind.f32 b0))])) (LO.one (Ex.exit 0) (St.mk [(0, (AV.v (TV.one (At.vw 0 0 sn 1)))), (1, (AV.v (TV.one (At.fn 119 [])))), (7, (AV.v (TV.one (At.int IntKind.i64 t7)))), (8, (AV.v (TV.one (At.int IntKind.i64 (z93 sn t7 b0 t8))))), (9, (AV.v (TV.one (At.bool (z8w sn t7 b0 t8)))))] [(Blk.mk Bool.false (Body.fl FloatKind.f32 b0))]))))
noncomputable def z0b : Nat → St → Option (Bool × LO) := lpT 1 (pSt [(pTm 0 (pV (pOne (pVw 0 (liN 0) 1)))), (pTm 1 (pV (pOne (pFn 119 [])))), (pTm 7 (pV (pOne (pInt IntKind.i64)))), (pTm 8 (pV (pOne (pInt IntKind.i64))))] [(pBlk Bool.false (pFl FloatKind.f32))]) (fun hs => zc1 (hvN (hGet hs 0)) (hvI (hGet hs 1)) (hvI (hGet hs 2)) (hvLn (hGet hs 3)))
def z69 (sn : Nat) (t7 : Int) (b0 : List Nat) : Option ((Int) ⊕ (Int × Bool)) → Option (Ex × St)
  | none => none
  | some (Sum.inl r) => some (Ex.ret, (St.mk [(4, (AV.v (TV.one (At.int IntKind.i64 r))))] [(Blk.mk Bool.false (Body.fl FloatKind.f32 b0))]))
  | some (Sum.inr r) => some ((Ex.exit 0), (St.mk [(0, (AV.v (TV.one (At.vw 0 0 sn 1)))), (1, (AV.v (TV.one (At.fn 119 [])))), (7, (AV.v (TV.one (At.int IntKind.i64 t7)))), (8, (AV.v (TV.one (At.int IntKind.i64 r.1)))), (9, (AV.v (TV.one (At.bool r.2))))] [(Blk.mk Bool.false (Body.fl FloatKind.f32 b0))]))
def zke (sn : Nat) (t7 : Int) (b0 : List Nat) (x : Option ((Int) ⊕ (Int × Bool))) : LO := (LO.two (oL x) (LO.one Ex.ret (St.mk [(4, (AV.v (TV.one (At.int IntKind.i64 ((tL x).getD default)))))] [(Blk.mk Bool.false (Body.fl FloatKind.f32 b0))])) (LO.one (Ex.exit 0) (St.mk [(0, (AV.v (TV.one (At.vw 0 0 sn 1)))), (1, (AV.v (TV.one (At.fn 119 [])))), (7, (AV.v (TV.one (At.int IntKind.i64 t7)))), (8, (AV.v (TV.one (At.int IntKind.i64 ((tR x).getD default).1)))), (9, (AV.v (TV.one (At.bool ((tR x).getD default).2))))] [(Blk.mk Bool.false (Body.fl FloatKind.f32 b0))])))
theorem zkg (sn : Nat) (t7 : Int) (b0 : List Nat) : ∀ x : Option ((Int) ⊕ (Int × Bool)), x.isSome = true → (z69 sn t7 b0) x = some (pick (zke sn t7 b0 x))
  | none, h => by cases h
  | some (Sum.inl r), _ => rfl
  | some (Sum.inr r), _ => rfl
theorem zkq (sn : Nat) (t7 : Int) (t8 : Int) (b0 : List Nat) (K : Ex → St → Option (Ex × St)) : evC (R := Ex × St) Γ4 (evFn Γ4 8 8) 99 1 fi99.nt fi99.live fi99.nl 8 (findL 2 (loopsIn fi99.code)) (St.mk [(0, (AV.v (TV.one (At.vw 0 0 sn 1)))), (1, (AV.v (TV.one (At.fn 119 [])))), (7, (AV.v (TV.one (At.int IntKind.i64 t7)))), (8, (AV.v (TV.one (At.int IntKind.i64 t8))))] [(Blk.mk Bool.false (Body.fl FloatKind.f32 b0))]) K = z4p sn t7 b0 t8 (fun t8' => K .normal (St.mk [(0, (AV.v (TV.one (At.vw 0 0 sn 1)))), (1, (AV.v (TV.one (At.fn 119 [])))), (7, (AV.v (TV.one (At.int IntKind.i64 t7)))), (8, (AV.v (TV.one (At.int IntKind.i64 t8'))))] [(Blk.mk Bool.false (Body.fl FloatKind.f32 b0))])) (fun c0_ => K Ex.ret (St.mk [(4, (AV.v (TV.one (At.int IntKind.i64 c0_))))] [(Blk.mk Bool.false (Body.fl FloatKind.f32 b0))])) (fun c0_ c1_ => K (Ex.exit 0) (St.mk [(0, (AV.v (TV.one (At.vw 0 0 sn 1)))), (1, (AV.v (TV.one (At.fn 119 [])))), (7, (AV.v (TV.one (At.int IntKind.i64 t7)))), (8, (AV.v (TV.one (At.int IntKind.i64 c0_)))), (9, (AV.v (TV.one (At.bool c1_))))] [(Blk.mk Bool.false (Body.fl FloatKind.f32 b0))])) := by kernel_rfl
theorem zkl (sn : Nat) (t7 : Int) (b0 : List Nat) : ∀ (n : Nat) (t8 : Int), iter 99 2 1 (evC (R := Ex × St) Γ4 (evFn Γ4 8 8) 99 1 fi99.nt fi99.live fi99.nl 8 (findL 2 (loopsIn fi99.code))) n (St.mk [(0, (AV.v (TV.one (At.vw 0 0 sn 1)))), (1, (AV.v (TV.one (At.fn 119 [])))), (7, (AV.v (TV.one (At.int IntKind.i64 t7)))), (8, (AV.v (TV.one (At.int IntKind.i64 t8))))] [(Blk.mk Bool.false (Body.fl FloatKind.f32 b0))]) (fun e st => some (e, st)) = (z69 sn t7 b0) (z2i sn t7 b0 n t8) := by
  intro n
  induction n with
  | zero => intros; rfl
  | succ n ih =>
    intro t8
    refine Eq.trans (iter_succ ..) (Eq.trans (zkq sn t7 t8 b0 (nextK 99 2 1 (evC (R := Ex × St) Γ4 (evFn Γ4 8 8) 99 1 fi99.nt fi99.live fi99.nl 8 (findL 2 (loopsIn fi99.code))) n (fun e st => some (e, st)))) (Eq.trans ?_ (zhc (z69 sn t7 b0) rfl sn t7 b0 t8 (fun t8' => z2i sn t7 b0 n t8') (fun c0_ => some (Sum.inl c0_)) (fun c0_ c1_ => some (Sum.inr (c0_, c1_))))))
    exact congrArg (fun kn_ => z4p sn t7 b0 t8 kn_ (fun c0_ => (z69 sn t7 b0) (some (Sum.inl c0_))) (fun c0_ c1_ => (z69 sn t7 b0) (some (Sum.inr (c0_, c1_))))) (funext fun t8' => ih t8')
theorem z07 : LoopOne Try.prog fnTab 99 2 z0b := lp_of (Γ := Γ4) tyTab_ok (FnL.ok fnTab_ok _ _) (LpL.ok lt4_ok) (SumL.ok tb4_ok _) mixed (fi := fi99) (by kernel_rfl) (by kernel_rfl) (by
  intro lo st out hp
  obtain ⟨hs, e1, e2, e3⟩ := lpT_inv hp
  clear hp
  obtain rfl : st = (St.mk [(0, (AV.v (TV.one (At.vw 0 0 (hvN (hGet hs 0)) 1)))), (1, (AV.v (TV.one (At.fn 119 [])))), (7, (AV.v (TV.one (At.int IntKind.i64 (hvI (hGet hs 1)))))), (8, (AV.v (TV.one (At.int IntKind.i64 (hvI (hGet hs 2))))))] [(Blk.mk Bool.false (Body.fl FloatKind.f32 (hvLn (hGet hs 3))))]) := e2.trans (by kernel_rfl)
  clear e2
  subst e1
  unfold zc1 at e3
  injection e3 with h1 h2
  subst h2
  exact ⟨8, 8, big, Eq.trans (zkl (hvN (hGet hs 0)) (hvI (hGet hs 1)) (hvLn (hGet hs 3)) big (hvI (hGet hs 2))) (zkg (hvN (hGet hs 0)) (hvI (hGet hs 1)) (hvLn (hGet hs 3)) (z2i (hvN (hGet hs 0)) (hvI (hGet hs 1)) (hvLn (hGet hs 3)) big (hvI (hGet hs 2))) h1)⟩)
noncomputable def tb5 : List (Nat × (List PT → Option (Bool × AV × List Blk))) := [(125, z2f), (128, z0v), (134, z1i), (137, z2g), (18, z2p), (44, z2n), (48, z27), (54, z3f), (61, z2m), (63, z4f), (64, z42), (66, z43), (80, z28), (97, z3e), (104, z0s), (115, z01), (14, z34), (67, z1x), (92, z46), (103, z3j), (105, z35), (111, z3w), (114, z3k), (118, z1y), (122, z19), (37, z3y), (52, z2j), (72, z1o), (79, z1r), (93, z3a), (119, z2k), (16, z3g), (36, z2d), (57, z32), (86, z31), (19, z3p), (33, z3n), (39, z48), (62, z4q), (69, z37), (99, z0f), (99, z0a)]
noncomputable def lt5 : List ((Nat × Nat) × (Nat → St → Option (Bool × LO))) := [((52, 3), z1e), ((72, 2), z10), ((79, 2), z11), ((57, 4), z1j), ((86, 3), z1k), ((62, 5), z3x), ((69, 4), z1u), ((99, 2), z05), ((99, 2), z03), ((99, 2), z0b)]
noncomputable def Γ5 : Ctx := ⟨tyTab, fnTab, tblSum tb5, tblLp lt5⟩
theorem tb5_ok : SumL Try.prog tb5 := SumL.cons z1g (SumL.cons z0l (SumL.cons z14 (SumL.cons z1h (SumL.cons z1s (SumL.cons z1p (SumL.cons z1f (SumL.cons z24 (SumL.cons z1q (SumL.cons z3s (SumL.cons z39 (SumL.cons z38 (SumL.cons z1d (SumL.cons z25 (SumL.cons z0k (SumL.cons z00 (SumL.cons z20 (SumL.cons z1b (SumL.cons z3h (SumL.cons z2c (SumL.cons z1z (SumL.cons z30 (SumL.cons z2b (SumL.cons z1c (SumL.cons z0y (SumL.cons z36 (SumL.cons z1v (SumL.cons z17 (SumL.cons z18 (SumL.cons z26 (SumL.cons z1t (SumL.cons z2e (SumL.cons z1l (SumL.cons z22 (SumL.cons z21 (SumL.cons z2q (SumL.cons z2o (SumL.cons z3o (SumL.cons z47 (SumL.cons z29 (SumL.cons z0d (SumL.cons z09 (SumL.nil))))))))))))))))))))))))))))))))))))))))))
theorem lt5_ok : LpL Try.prog fnTab lt5 := LpL.cons z0z (LpL.cons z0r (LpL.cons z0q (LpL.cons z12 (LpL.cons z13 (LpL.cons z33 (LpL.cons z15 (LpL.cons z04 (LpL.cons z02 (LpL.cons z07 (LpL.nil))))))))))
noncomputable def z4b : List PT → Option (Bool × AV × List Blk)
  | [.agg [.row 1 q0j (.fl .f32 q0m), .row 1 q0k (.fl .f32 q0o), .row 1 q0l (.fl .f32 q0p), .row 3 q0q (.fl .f32 q0u), .s (.int .i64 q14), .s (.flt .f32 q23), .s (.flt .f32 q24)], .agg [.row 1 q29 (.fl .f32 q2d), .row 1 q2b (.fl .f32 q2f), .row 1 q2a (.fl .f32 q2e), .row 3 q2q (.fl .f32 q33), .s (.int .i64 q3e), .s (.flt .f32 q3g), .s (.flt .f32 q3f)]] => some ((zf5 q0j q0m q0k q0o q0l q0p q0q q0u q14 q23 q24 q29 q2d q2b q2f q2a q2e q2q q33 q3e q3g q3f), ((AV.v (TV.one (At.bool (zed q0j q0m q0k q0o q0l q0p q0q q0u q14 q23 q24 q29 q2d q2b q2f q2a q2e q2q q33 q3e q3g q3f)))), []))
  | _ => none
def zpe (q0j : Nat) (q0m : List Nat) (q0k : Nat) (q0o : List Nat) (q0l : Nat) (q0p : List Nat) (q0q : Nat) (q0u : List Nat) (q14 : Int) (q23 : Nat) (q24 : Nat) (q29 : Nat) (q2d : List Nat) (q2b : Nat) (q2f : List Nat) (q2a : Nat) (q2e : List Nat) (q2q : Nat) (q33 : List Nat) (q3e : Int) (q3g : Nat) (q3f : Nat) : Option (Bool) → Option (AV × List Blk)
  | some r => some ((AV.v (TV.one (At.bool r))), [])
  | none => none
theorem zt5 (q0j : Nat) (q0m : List Nat) (q0k : Nat) (q0o : List Nat) (q0l : Nat) (q0p : List Nat) (q0q : Nat) (q0u : List Nat) (q14 : Int) (q23 : Nat) (q24 : Nat) (q29 : Nat) (q2d : List Nat) (q2b : Nat) (q2f : List Nat) (q2a : Nat) (q2e : List Nat) (q2q : Nat) (q33 : List Nat) (q3e : Int) (q3g : Nat) (q3f : Nat) : evFn Γ5 8 8 30 (impTs 0 [.agg [.row 1 q0j (.fl .f32 q0m), .row 1 q0k (.fl .f32 q0o), .row 1 q0l (.fl .f32 q0p), .row 3 q0q (.fl .f32 q0u), .s (.int .i64 q14), .s (.flt .f32 q23), .s (.flt .f32 q24)], .agg [.row 1 q29 (.fl .f32 q2d), .row 1 q2b (.fl .f32 q2f), .row 1 q2a (.fl .f32 q2e), .row 3 q2q (.fl .f32 q33), .s (.int .i64 q3e), .s (.flt .f32 q3g), .s (.flt .f32 q3f)]]).1 (impTs 0 [.agg [.row 1 q0j (.fl .f32 q0m), .row 1 q0k (.fl .f32 q0o), .row 1 q0l (.fl .f32 q0p), .row 3 q0q (.fl .f32 q0u), .s (.int .i64 q14), .s (.flt .f32 q23), .s (.flt .f32 q24)], .agg [.row 1 q29 (.fl .f32 q2d), .row 1 q2b (.fl .f32 q2f), .row 1 q2a (.fl .f32 q2e), .row 3 q2q (.fl .f32 q33), .s (.int .i64 q3e), .s (.flt .f32 q3g), .s (.flt .f32 q3f)]]).2 (expo (impTs 0 [.agg [.row 1 q0j (.fl .f32 q0m), .row 1 q0k (.fl .f32 q0o), .row 1 q0l (.fl .f32 q0p), .row 3 q0q (.fl .f32 q0u), .s (.int .i64 q14), .s (.flt .f32 q23), .s (.flt .f32 q24)], .agg [.row 1 q29 (.fl .f32 q2d), .row 1 q2b (.fl .f32 q2f), .row 1 q2a (.fl .f32 q2e), .row 3 q2q (.fl .f32 q33), .s (.int .i64 q3e), .s (.flt .f32 q3g), .s (.flt .f32 q3f)]]).2.length) = zds q0j q0m q0k q0o q0l q0p q0q q0u q14 q23 q24 q29 q2d q2b q2f q2a q2e q2q q33 q3e q3g q3f (fun c0_ => some ((AV.v (TV.one (At.bool c0_))), [])) := by kernel_rfl
theorem z3u : SumOne Try.prog 30 z4b := sum_of (Γ := Γ5) (fuel := 8) (d := 8) tyTab_ok (FnL.ok fnTab_ok _ _) (LpL.ok lt5_ok) (SumL.ok tb5_ok _) mixed (by
  intro pts v news hp hc
  clear hc
  unfold z4b at hp
  split at hp
  · rename_i q0j q0m q0k q0o q0l q0p q0q q0u q14 q23 q24 q29 q2d q2b q2f q2a q2e q2q q33 q3e q3g q3f
    exact Eq.trans (Eq.trans (zt5 q0j q0m q0k q0o q0l q0p q0q q0u q14 q23 q24 q29 q2d q2b q2f q2a q2e q2q q33 q3e q3g q3f) (zrf (zpe q0j q0m q0k q0o q0l q0p q0q q0u q14 q23 q24 q29 q2d q2b q2f q2a q2e q2q q33 q3e q3g q3f) rfl q0j q0m q0k q0o q0l q0p q0q q0u q14 q23 q24 q29 q2d q2b q2f q2a q2e q2q q33 q3e q3g q3f (fun c0_ => some c0_))) (fin_out (o := (zpe q0j q0m q0k q0o q0l q0p q0q q0u q14 q23 q24 q29 q2d q2b q2f q2a q2e q2q q33 q3e q3g q3f)) (x := zci q0j q0m q0k q0o q0l q0p q0q q0u q14 q23 q24 q29 q2d q2b q2f q2a q2e q2q q33 q3e q3g q3f) (d := default) (V := fun r => ((AV.v (TV.one (At.bool r))), [])) (fun r => rfl) hp)
  · cases hp)
noncomputable def z0j : List PT → Option (Bool × AV × List Blk)
  | [.one (.row 1 s_n (.fl .f32 s)), .fn 119 []] => some ((z83 s_n s), ((AV.v (TV.one (At.int IntKind.i64 (z7z s_n s)))), []))
  | _ => none
def zdn (s_n : Nat) (s : List Nat) : Option (Int) → Option (AV × List Blk)
  | some r => some ((AV.v (TV.one (At.int IntKind.i64 r))), [])
  | none => none
theorem zlb (s_n : Nat) (s : List Nat) : evFn Γ5 8 8 99 (impTs 0 [.one (.row 1 s_n (.fl .f32 s)), .fn 119 []]).1 (impTs 0 [.one (.row 1 s_n (.fl .f32 s)), .fn 119 []]).2 (expo (impTs 0 [.one (.row 1 s_n (.fl .f32 s)), .fn 119 []]).2.length) = z61 s_n s (fun c0_ => some ((AV.v (TV.one (At.int IntKind.i64 c0_))), [])) := by kernel_rfl
theorem z0i : SumOne Try.prog 99 z0j := sum_of (Γ := Γ5) (fuel := 8) (d := 8) tyTab_ok (FnL.ok fnTab_ok _ _) (LpL.ok lt5_ok) (SumL.ok tb5_ok _) mixed (by
  intro pts v news hp hc
  clear hc
  unfold z0j at hp
  split at hp
  · rename_i s_n s
    exact Eq.trans (Eq.trans (zlb s_n s) (zkd (zdn s_n s) rfl s_n s (fun c0_ => some c0_))) (fin_out (o := (zdn s_n s)) (x := z62 s_n s) (d := default) (V := fun r => ((AV.v (TV.one (At.int IntKind.i64 r))), [])) (fun r => rfl) hp)
  · cases hp)
noncomputable def tb6 : List (Nat × (List PT → Option (Bool × AV × List Blk))) := [(125, z2f), (128, z0v), (134, z1i), (137, z2g), (18, z2p), (44, z2n), (48, z27), (54, z3f), (61, z2m), (63, z4f), (64, z42), (66, z43), (80, z28), (97, z3e), (104, z0s), (115, z01), (14, z34), (67, z1x), (92, z46), (103, z3j), (105, z35), (111, z3w), (114, z3k), (118, z1y), (122, z19), (37, z3y), (52, z2j), (72, z1o), (79, z1r), (93, z3a), (119, z2k), (16, z3g), (36, z2d), (57, z32), (86, z31), (19, z3p), (33, z3n), (39, z48), (62, z4q), (69, z37), (99, z0f), (99, z0a), (30, z4b), (99, z0j)]
noncomputable def lt6 : List ((Nat × Nat) × (Nat → St → Option (Bool × LO))) := [((52, 3), z1e), ((72, 2), z10), ((79, 2), z11), ((57, 4), z1j), ((86, 3), z1k), ((62, 5), z3x), ((69, 4), z1u), ((99, 2), z05), ((99, 2), z03), ((99, 2), z0b)]
noncomputable def Γ6 : Ctx := ⟨tyTab, fnTab, tblSum tb6, tblLp lt6⟩
theorem tb6_ok : SumL Try.prog tb6 := SumL.cons z1g (SumL.cons z0l (SumL.cons z14 (SumL.cons z1h (SumL.cons z1s (SumL.cons z1p (SumL.cons z1f (SumL.cons z24 (SumL.cons z1q (SumL.cons z3s (SumL.cons z39 (SumL.cons z38 (SumL.cons z1d (SumL.cons z25 (SumL.cons z0k (SumL.cons z00 (SumL.cons z20 (SumL.cons z1b (SumL.cons z3h (SumL.cons z2c (SumL.cons z1z (SumL.cons z30 (SumL.cons z2b (SumL.cons z1c (SumL.cons z0y (SumL.cons z36 (SumL.cons z1v (SumL.cons z17 (SumL.cons z18 (SumL.cons z26 (SumL.cons z1t (SumL.cons z2e (SumL.cons z1l (SumL.cons z22 (SumL.cons z21 (SumL.cons z2q (SumL.cons z2o (SumL.cons z3o (SumL.cons z47 (SumL.cons z29 (SumL.cons z0d (SumL.cons z09 (SumL.cons z3u (SumL.cons z0i (SumL.nil))))))))))))))))))))))))))))))))))))))))))))
theorem lt6_ok : LpL Try.prog fnTab lt6 := LpL.cons z0z (LpL.cons z0r (LpL.cons z0q (LpL.cons z12 (LpL.cons z13 (LpL.cons z33 (LpL.cons z15 (LpL.cons z04 (LpL.cons z02 (LpL.cons z07 (LpL.nil))))))))))
noncomputable def z0e : List PT → Option (Bool × AV × List Blk)
  | [.one (.row 1 s_n (.fl .f32 s)), .fn 118 []] => some ((z7h s_n s), ((AV.v (TV.one (At.bool (z6z s_n s)))), []))
  | _ => none
def zc5 (s_n : Nat) (s : List Nat) : Option (Bool) → Option (AV × List Blk)
  | some r => some ((AV.v (TV.one (At.bool r))), [])
  | none => none
theorem zkc (s_n : Nat) (s : List Nat) : evFn Γ6 8 8 117 (impTs 0 [.one (.row 1 s_n (.fl .f32 s)), .fn 118 []]).1 (impTs 0 [.one (.row 1 s_n (.fl .f32 s)), .fn 118 []]).2 (expo (impTs 0 [.one (.row 1 s_n (.fl .f32 s)), .fn 118 []]).2.length) = z5i s_n s (fun c0_ => some ((AV.v (TV.one (At.bool c0_))), [])) := by kernel_rfl
theorem z0c : SumOne Try.prog 117 z0e := sum_of (Γ := Γ6) (fuel := 8) (d := 8) tyTab_ok (FnL.ok fnTab_ok _ _) (LpL.ok lt6_ok) (SumL.ok tb6_ok _) mixed (by
  intro pts v news hp hc
  clear hc
  unfold z0e at hp
  split at hp
  · rename_i s_n s
    exact Eq.trans (Eq.trans (zkc s_n s) (zg7 (zc5 s_n s) rfl s_n s (fun c0_ => some c0_))) (fin_out (o := (zc5 s_n s)) (x := z5j s_n s) (d := default) (V := fun r => ((AV.v (TV.one (At.bool r))), [])) (fun r => rfl) hp)
  · cases hp)
noncomputable def z0h : List PT → Option (Bool × AV × List Blk)
  | [.one (.row 1 s_n (.fl .f32 s)), .fn 119 []] => some ((z7k s_n s), ((AV.v (TV.one (At.bool (z7e s_n s)))), []))
  | _ => none
def zcm (s_n : Nat) (s : List Nat) : Option (Bool) → Option (AV × List Blk)
  | some r => some ((AV.v (TV.one (At.bool r))), [])
  | none => none
theorem zkp (s_n : Nat) (s : List Nat) : evFn Γ6 8 8 117 (impTs 0 [.one (.row 1 s_n (.fl .f32 s)), .fn 119 []]).1 (impTs 0 [.one (.row 1 s_n (.fl .f32 s)), .fn 119 []]).2 (expo (impTs 0 [.one (.row 1 s_n (.fl .f32 s)), .fn 119 []]).2.length) = z5o s_n s (fun c0_ => some ((AV.v (TV.one (At.bool c0_))), [])) := by kernel_rfl
theorem z0g : SumOne Try.prog 117 z0h := sum_of (Γ := Γ6) (fuel := 8) (d := 8) tyTab_ok (FnL.ok fnTab_ok _ _) (LpL.ok lt6_ok) (SumL.ok tb6_ok _) mixed (by
  intro pts v news hp hc
  clear hc
  unfold z0h at hp
  split at hp
  · rename_i s_n s
    exact Eq.trans (Eq.trans (zkp s_n s) (zhk (zcm s_n s) rfl s_n s (fun c0_ => some c0_))) (fin_out (o := (zcm s_n s)) (x := z5q s_n s) (d := default) (V := fun r => ((AV.v (TV.one (At.bool r))), [])) (fun r => rfl) hp)
  · cases hp)
noncomputable def z08 : List PT → Option (Bool × AV × List Blk)
  | [.one (.row 1 s_n (.fl .f32 s)), .fn 122 []] => some ((z6v s_n s), ((AV.v (TV.one (At.bool (z6o s_n s)))), []))
  | _ => none
def zb9 (s_n : Nat) (s : List Nat) : Option (Bool) → Option (AV × List Blk)
  | some r => some ((AV.v (TV.one (At.bool r))), [])
  | none => none
theorem zie (s_n : Nat) (s : List Nat) : evFn Γ6 8 8 117 (impTs 0 [.one (.row 1 s_n (.fl .f32 s)), .fn 122 []]).1 (impTs 0 [.one (.row 1 s_n (.fl .f32 s)), .fn 122 []]).2 (expo (impTs 0 [.one (.row 1 s_n (.fl .f32 s)), .fn 122 []]).2.length) = z5d s_n s (fun c0_ => some ((AV.v (TV.one (At.bool c0_))), [])) := by kernel_rfl
theorem z06 : SumOne Try.prog 117 z08 := sum_of (Γ := Γ6) (fuel := 8) (d := 8) tyTab_ok (FnL.ok fnTab_ok _ _) (LpL.ok lt6_ok) (SumL.ok tb6_ok _) mixed (by
  intro pts v news hp hc
  clear hc
  unfold z08 at hp
  split at hp
  · rename_i s_n s
    exact Eq.trans (Eq.trans (zie s_n s) (zff (zb9 s_n s) rfl s_n s (fun c0_ => some c0_))) (fin_out (o := (zb9 s_n s)) (x := z5e s_n s) (d := default) (V := fun r => ((AV.v (TV.one (At.bool r))), [])) (fun r => rfl) hp)
  · cases hp)
noncomputable def zne (t4 : Nat) (t57 : Int) (t58 : Int) (b0 : List Nat) (b1 : List Nat) (b2 : List Nat) (b3 : List Nat) (q1a : Nat) (q19 : Nat) (q18 : Nat) (q11 : Nat) (q1g : Int) (q1h : Nat) (q0y : Nat) : Bool × LO := ((zct t57 b3 q11 q0y t4 t58), (LO.two (zc3 t57 b3 q11 q0y t4 t58) (LO.one Ex.ret (St.mk [(2, (AV.v (TV.one (At.bool Bool.false))))] [(Blk.mk Bool.false (Body.fl FloatKind.f32 b0)), (Blk.mk Bool.false (Body.fl FloatKind.f32 b1)), (Blk.mk Bool.false (Body.fl FloatKind.f32 b2)), (Blk.mk Bool.false (Body.fl FloatKind.f32 b3)), (Blk.mk Bool.false (Body.cells [(At.vw 0 0 q1a 1), (At.vw 1 0 q19 1), (At.vw 2 0 q18 1), (At.vw 3 0 q11 3), (At.int IntKind.i64 q1g), (At.flt FloatKind.f32 q1h), (At.flt FloatKind.f32 q0y)]))])) (LO.one (Ex.exit 0) (St.mk [(0, (AV.v (TV.one (At.ptr 4 0 7)))), (4, (AV.v (TV.one (At.flt FloatKind.f32 (zlv t57 b3 q11 q0y t4 t58))))), (57, (AV.v (TV.one (At.int IntKind.i64 t57)))), (58, (AV.v (TV.one (At.int IntKind.i64 (zly t57 b3 q11 q0y t4 t58))))), (59, (AV.v (TV.one (At.bool (zlq t57 b3 q11 q0y t4 t58)))))] [(Blk.mk Bool.false (Body.fl FloatKind.f32 b0)), (Blk.mk Bool.false (Body.fl FloatKind.f32 b1)), (Blk.mk Bool.false (Body.fl FloatKind.f32 b2)), (Blk.mk Bool.false (Body.fl FloatKind.f32 b3)), (Blk.mk Bool.false (Body.cells [(At.vw 0 0 q1a 1), (At.vw 1 0 q19 1), (At.vw 2 0 q18 1), (At.vw 3 0 q11 3), (At.int IntKind.i64 q1g), (At.flt FloatKind.f32 q1h), (At.flt FloatKind.f32 q0y)]))]))))
noncomputable def z4a : Nat → St → Option (Bool × LO) := lpT 5 (pSt [(pTm 0 (pV (pOne (pPtr 4 (liN 0) 7)))), (pTm 4 (pV (pOne (pFlt FloatKind.f32)))), (pTm 57 (pV (pOne (pInt IntKind.i64)))), (pTm 58 (pV (pOne (pInt IntKind.i64))))] [(pBlk Bool.false (pFl FloatKind.f32)), (pBlk Bool.false (pFl FloatKind.f32)), (pBlk Bool.false (pFl FloatKind.f32)), (pBlk Bool.false (pFl FloatKind.f32)), (pBlk Bool.false (pCells [(pVw 0 (liN 0) 1), (pVw 1 (liN 0) 1), (pVw 2 (liN 0) 1), (pVw 3 (liN 0) 3), (pInt IntKind.i64), (pFlt FloatKind.f32), (pFlt FloatKind.f32)]))]) (fun hs => zne (hvN (hGet hs 0)) (hvI (hGet hs 1)) (hvI (hGet hs 2)) (hvLn (hGet hs 3)) (hvLn (hGet hs 4)) (hvLn (hGet hs 5)) (hvLn (hGet hs 6)) (hvN (hGet hs 7)) (hvN (hGet hs 8)) (hvN (hGet hs 9)) (hvN (hGet hs 10)) (hvI (hGet hs 11)) (hvN (hGet hs 12)) (hvN (hGet hs 13)))
def zhf (t57 : Int) (b0 : List Nat) (b1 : List Nat) (b2 : List Nat) (b3 : List Nat) (q1a : Nat) (q19 : Nat) (q18 : Nat) (q11 : Nat) (q1g : Int) (q1h : Nat) (q0y : Nat) : Option ((Unit) ⊕ (Nat × Int × Bool)) → Option (Ex × St)
  | none => none
  | some (Sum.inl r) => some (Ex.ret, (St.mk [(2, (AV.v (TV.one (At.bool Bool.false))))] [(Blk.mk Bool.false (Body.fl FloatKind.f32 b0)), (Blk.mk Bool.false (Body.fl FloatKind.f32 b1)), (Blk.mk Bool.false (Body.fl FloatKind.f32 b2)), (Blk.mk Bool.false (Body.fl FloatKind.f32 b3)), (Blk.mk Bool.false (Body.cells [(At.vw 0 0 q1a 1), (At.vw 1 0 q19 1), (At.vw 2 0 q18 1), (At.vw 3 0 q11 3), (At.int IntKind.i64 q1g), (At.flt FloatKind.f32 q1h), (At.flt FloatKind.f32 q0y)]))]))
  | some (Sum.inr r) => some ((Ex.exit 0), (St.mk [(0, (AV.v (TV.one (At.ptr 4 0 7)))), (4, (AV.v (TV.one (At.flt FloatKind.f32 r.1)))), (57, (AV.v (TV.one (At.int IntKind.i64 t57)))), (58, (AV.v (TV.one (At.int IntKind.i64 r.2.1)))), (59, (AV.v (TV.one (At.bool r.2.2))))] [(Blk.mk Bool.false (Body.fl FloatKind.f32 b0)), (Blk.mk Bool.false (Body.fl FloatKind.f32 b1)), (Blk.mk Bool.false (Body.fl FloatKind.f32 b2)), (Blk.mk Bool.false (Body.fl FloatKind.f32 b3)), (Blk.mk Bool.false (Body.cells [(At.vw 0 0 q1a 1), (At.vw 1 0 q19 1), (At.vw 2 0 q18 1), (At.vw 3 0 q11 3), (At.int IntKind.i64 q1g), (At.flt FloatKind.f32 q1h), (At.flt FloatKind.f32 q0y)]))]))
def zsb (t57 : Int) (b0 : List Nat) (b1 : List Nat) (b2 : List Nat) (b3 : List Nat) (q1a : Nat) (q19 : Nat) (q18 : Nat) (q11 : Nat) (q1g : Int) (q1h : Nat) (q0y : Nat) (x : Option ((Unit) ⊕ (Nat × Int × Bool))) : LO := (LO.two (oL x) (LO.one Ex.ret (St.mk [(2, (AV.v (TV.one (At.bool Bool.false))))] [(Blk.mk Bool.false (Body.fl FloatKind.f32 b0)), (Blk.mk Bool.false (Body.fl FloatKind.f32 b1)), (Blk.mk Bool.false (Body.fl FloatKind.f32 b2)), (Blk.mk Bool.false (Body.fl FloatKind.f32 b3)), (Blk.mk Bool.false (Body.cells [(At.vw 0 0 q1a 1), (At.vw 1 0 q19 1), (At.vw 2 0 q18 1), (At.vw 3 0 q11 3), (At.int IntKind.i64 q1g), (At.flt FloatKind.f32 q1h), (At.flt FloatKind.f32 q0y)]))])) (LO.one (Ex.exit 0) (St.mk [(0, (AV.v (TV.one (At.ptr 4 0 7)))), (4, (AV.v (TV.one (At.flt FloatKind.f32 ((tR x).getD default).1)))), (57, (AV.v (TV.one (At.int IntKind.i64 t57)))), (58, (AV.v (TV.one (At.int IntKind.i64 ((tR x).getD default).2.1)))), (59, (AV.v (TV.one (At.bool ((tR x).getD default).2.2))))] [(Blk.mk Bool.false (Body.fl FloatKind.f32 b0)), (Blk.mk Bool.false (Body.fl FloatKind.f32 b1)), (Blk.mk Bool.false (Body.fl FloatKind.f32 b2)), (Blk.mk Bool.false (Body.fl FloatKind.f32 b3)), (Blk.mk Bool.false (Body.cells [(At.vw 0 0 q1a 1), (At.vw 1 0 q19 1), (At.vw 2 0 q18 1), (At.vw 3 0 q11 3), (At.int IntKind.i64 q1g), (At.flt FloatKind.f32 q1h), (At.flt FloatKind.f32 q0y)]))])))
theorem zsz (t57 : Int) (b0 : List Nat) (b1 : List Nat) (b2 : List Nat) (b3 : List Nat) (q1a : Nat) (q19 : Nat) (q18 : Nat) (q11 : Nat) (q1g : Int) (q1h : Nat) (q0y : Nat) : ∀ x : Option ((Unit) ⊕ (Nat × Int × Bool)), x.isSome = true → (zhf t57 b0 b1 b2 b3 q1a q19 q18 q11 q1g q1h q0y) x = some (pick (zsb t57 b0 b1 b2 b3 q1a q19 q18 q11 q1g q1h q0y x))
  | none, h => by cases h
  | some (Sum.inl r), _ => rfl
  | some (Sum.inr r), _ => rfl
theorem zsx (t4 : Nat) (t57 : Int) (t58 : Int) (b0 : List Nat) (b1 : List Nat) (b2 : List Nat) (b3 : List Nat) (q1a : Nat) (q19 : Nat) (q18 : Nat) (q11 : Nat) (q1g : Int) (q1h : Nat) (q0y : Nat) (K : Ex → St → Option (Ex × St)) : evC (R := Ex × St) Γ6 (evFn Γ6 8 8) 91 5 fi91.nt fi91.live fi91.nl 8 (findL 6 (loopsIn fi91.code)) (St.mk [(0, (AV.v (TV.one (At.ptr 4 0 7)))), (4, (AV.v (TV.one (At.flt FloatKind.f32 t4)))), (57, (AV.v (TV.one (At.int IntKind.i64 t57)))), (58, (AV.v (TV.one (At.int IntKind.i64 t58))))] [(Blk.mk Bool.false (Body.fl FloatKind.f32 b0)), (Blk.mk Bool.false (Body.fl FloatKind.f32 b1)), (Blk.mk Bool.false (Body.fl FloatKind.f32 b2)), (Blk.mk Bool.false (Body.fl FloatKind.f32 b3)), (Blk.mk Bool.false (Body.cells [(At.vw 0 0 q1a 1), (At.vw 1 0 q19 1), (At.vw 2 0 q18 1), (At.vw 3 0 q11 3), (At.int IntKind.i64 q1g), (At.flt FloatKind.f32 q1h), (At.flt FloatKind.f32 q0y)]))]) K = za3 t57 b3 q11 q0y t4 t58 (fun t4' t58' => K .normal (St.mk [(0, (AV.v (TV.one (At.ptr 4 0 7)))), (4, (AV.v (TV.one (At.flt FloatKind.f32 t4')))), (57, (AV.v (TV.one (At.int IntKind.i64 t57)))), (58, (AV.v (TV.one (At.int IntKind.i64 t58'))))] [(Blk.mk Bool.false (Body.fl FloatKind.f32 b0)), (Blk.mk Bool.false (Body.fl FloatKind.f32 b1)), (Blk.mk Bool.false (Body.fl FloatKind.f32 b2)), (Blk.mk Bool.false (Body.fl FloatKind.f32 b3)), (Blk.mk Bool.false (Body.cells [(At.vw 0 0 q1a 1), (At.vw 1 0 q19 1), (At.vw 2 0 q18 1), (At.vw 3 0 q11 3), (At.int IntKind.i64 q1g), (At.flt FloatKind.f32 q1h), (At.flt FloatKind.f32 q0y)]))])) (fun _ => K Ex.ret (St.mk [(2, (AV.v (TV.one (At.bool Bool.false))))] [(Blk.mk Bool.false (Body.fl FloatKind.f32 b0)), (Blk.mk Bool.false (Body.fl FloatKind.f32 b1)), (Blk.mk Bool.false (Body.fl FloatKind.f32 b2)), (Blk.mk Bool.false (Body.fl FloatKind.f32 b3)), (Blk.mk Bool.false (Body.cells [(At.vw 0 0 q1a 1), (At.vw 1 0 q19 1), (At.vw 2 0 q18 1), (At.vw 3 0 q11 3), (At.int IntKind.i64 q1g), (At.flt FloatKind.f32 q1h), (At.flt FloatKind.f32 q0y)]))])) (fun c0_ c1_ c2_ => K (Ex.exit 0) (St.mk [(0, (AV.v (TV.one (At.ptr 4 0 7)))), (4, (AV.v (TV.one (At.flt FloatKind.f32 c0_)))), (57, (AV.v (TV.one (At.int IntKind.i64 t57)))), (58, (AV.v (TV.one (At.int IntKind.i64 c1_)))), (59, (AV.v (TV.one (At.bool c2_))))] [(Blk.mk Bool.false (Body.fl FloatKind.f32 b0)), (Blk.mk Bool.false (Body.fl FloatKind.f32 b1)), (Blk.mk Bool.false (Body.fl FloatKind.f32 b2)), (Blk.mk Bool.false (Body.fl FloatKind.f32 b3)), (Blk.mk Bool.false (Body.cells [(At.vw 0 0 q1a 1), (At.vw 1 0 q19 1), (At.vw 2 0 q18 1), (At.vw 3 0 q11 3), (At.int IntKind.i64 q1g), (At.flt FloatKind.f32 q1h), (At.flt FloatKind.f32 q0y)]))])) := by kernel_rfl
theorem zsu (t57 : Int) (b0 : List Nat) (b1 : List Nat) (b2 : List Nat) (b3 : List Nat) (q1a : Nat) (q19 : Nat) (q18 : Nat) (q11 : Nat) (q1g : Int) (q1h : Nat) (q0y : Nat) : ∀ (n : Nat) (t4 : Nat) (t58 : Int), iter 91 6 5 (evC (R := Ex × St) Γ6 (evFn Γ6 8 8) 91 5 fi91.nt fi91.live fi91.nl 8 (findL 6 (loopsIn fi91.code))) n (St.mk [(0, (AV.v (TV.one (At.ptr 4 0 7)))), (4, (AV.v (TV.one (At.flt FloatKind.f32 t4)))), (57, (AV.v (TV.one (At.int IntKind.i64 t57)))), (58, (AV.v (TV.one (At.int IntKind.i64 t58))))] [(Blk.mk Bool.false (Body.fl FloatKind.f32 b0)), (Blk.mk Bool.false (Body.fl FloatKind.f32 b1)), (Blk.mk Bool.false (Body.fl FloatKind.f32 b2)), (Blk.mk Bool.false (Body.fl FloatKind.f32 b3)), (Blk.mk Bool.false (Body.cells [(At.vw 0 0 q1a 1), (At.vw 1 0 q19 1), (At.vw 2 0 q18 1), (At.vw 3 0 q11 3), (At.int IntKind.i64 q1g), (At.flt FloatKind.f32 q1h), (At.flt FloatKind.f32 q0y)]))]) (fun e st => some (e, st)) = (zhf t57 b0 b1 b2 b3 q1a q19 q18 q11 q1g q1h q0y) (z60 t57 b3 q11 q0y n t4 t58) := by
  intro n
  induction n with
  | zero => intros; rfl
  | succ n ih =>
    intro t4 t58
    refine Eq.trans (iter_succ ..) (Eq.trans (zsx t4 t57 t58 b0 b1 b2 b3 q1a q19 q18 q11 q1g q1h q0y (nextK 91 6 5 (evC (R := Ex × St) Γ6 (evFn Γ6 8 8) 91 5 fi91.nt fi91.live fi91.nl 8 (findL 6 (loopsIn fi91.code))) n (fun e st => some (e, st)))) (Eq.trans ?_ (zr6 (zhf t57 b0 b1 b2 b3 q1a q19 q18 q11 q1g q1h q0y) rfl t57 b3 q11 q0y t4 t58 (fun t4' t58' => z60 t57 b3 q11 q0y n t4' t58') (fun _ => some (Sum.inl ())) (fun c0_ c1_ c2_ => some (Sum.inr (c0_, c1_, c2_))))))
    exact congrArg (fun kn_ => za3 t57 b3 q11 q0y t4 t58 kn_ (fun _ => (zhf t57 b0 b1 b2 b3 q1a q19 q18 q11 q1g q1h q0y) (some (Sum.inl ()))) (fun c0_ c1_ c2_ => (zhf t57 b0 b1 b2 b3 q1a q19 q18 q11 q1g q1h q0y) (some (Sum.inr (c0_, c1_, c2_))))) (funext fun t4' => funext fun t58' => ih t4' t58')
theorem z3q : LoopOne Try.prog fnTab 91 6 z4a := lp_of (Γ := Γ6) tyTab_ok (FnL.ok fnTab_ok _ _) (LpL.ok lt6_ok) (SumL.ok tb6_ok _) mixed (fi := fi91) (by kernel_rfl) (by kernel_rfl) (by
  intro lo st out hp
  obtain ⟨hs, e1, e2, e3⟩ := lpT_inv hp
  clear hp
  obtain rfl : st = (St.mk [(0, (AV.v (TV.one (At.ptr 4 0 7)))), (4, (AV.v (TV.one (At.flt FloatKind.f32 (hvN (hGet hs 0)))))), (57, (AV.v (TV.one (At.int IntKind.i64 (hvI (hGet hs 1)))))), (58, (AV.v (TV.one (At.int IntKind.i64 (hvI (hGet hs 2))))))] [(Blk.mk Bool.false (Body.fl FloatKind.f32 (hvLn (hGet hs 3)))), (Blk.mk Bool.false (Body.fl FloatKind.f32 (hvLn (hGet hs 4)))), (Blk.mk Bool.false (Body.fl FloatKind.f32 (hvLn (hGet hs 5)))), (Blk.mk Bool.false (Body.fl FloatKind.f32 (hvLn (hGet hs 6)))), (Blk.mk Bool.false (Body.cells [(At.vw 0 0 (hvN (hGet hs 7)) 1), (At.vw 1 0 (hvN (hGet hs 8)) 1), (At.vw 2 0 (hvN (hGet hs 9)) 1), (At.vw 3 0 (hvN (hGet hs 10)) 3), (At.int IntKind.i64 (hvI (hGet hs 11))), (At.flt FloatKind.f32 (hvN (hGet hs 12))), (At.flt FloatKind.f32 (hvN (hGet hs 13)))]))]) := e2.trans (by kernel_rfl)
  clear e2
  subst e1
  unfold zne at e3
  injection e3 with h1 h2
  subst h2
  exact ⟨8, 8, big, Eq.trans (zsu (hvI (hGet hs 1)) (hvLn (hGet hs 3)) (hvLn (hGet hs 4)) (hvLn (hGet hs 5)) (hvLn (hGet hs 6)) (hvN (hGet hs 7)) (hvN (hGet hs 8)) (hvN (hGet hs 9)) (hvN (hGet hs 10)) (hvI (hGet hs 11)) (hvN (hGet hs 12)) (hvN (hGet hs 13)) big (hvN (hGet hs 0)) (hvI (hGet hs 2))) (zsz (hvI (hGet hs 1)) (hvLn (hGet hs 3)) (hvLn (hGet hs 4)) (hvLn (hGet hs 5)) (hvLn (hGet hs 6)) (hvN (hGet hs 7)) (hvN (hGet hs 8)) (hvN (hGet hs 9)) (hvN (hGet hs 10)) (hvI (hGet hs 11)) (hvN (hGet hs 12)) (hvN (hGet hs 13)) (z60 (hvI (hGet hs 1)) (hvLn (hGet hs 6)) (hvN (hGet hs 10)) (hvN (hGet hs 13)) big (hvN (hGet hs 0)) (hvI (hGet hs 2))) h1)⟩)
noncomputable def tb7 : List (Nat × (List PT → Option (Bool × AV × List Blk))) := [(125, z2f), (128, z0v), (134, z1i), (137, z2g), (18, z2p), (44, z2n), (48, z27), (54, z3f), (61, z2m), (63, z4f), (64, z42), (66, z43), (80, z28), (97, z3e), (104, z0s), (115, z01), (14, z34), (67, z1x), (92, z46), (103, z3j), (105, z35), (111, z3w), (114, z3k), (118, z1y), (122, z19), (37, z3y), (52, z2j), (72, z1o), (79, z1r), (93, z3a), (119, z2k), (16, z3g), (36, z2d), (57, z32), (86, z31), (19, z3p), (33, z3n), (39, z48), (62, z4q), (69, z37), (99, z0f), (99, z0a), (30, z4b), (99, z0j), (117, z0e), (117, z0h), (117, z08)]
noncomputable def lt7 : List ((Nat × Nat) × (Nat → St → Option (Bool × LO))) := [((52, 3), z1e), ((72, 2), z10), ((79, 2), z11), ((57, 4), z1j), ((86, 3), z1k), ((62, 5), z3x), ((69, 4), z1u), ((99, 2), z05), ((99, 2), z03), ((99, 2), z0b), ((91, 6), z4a)]
noncomputable def Γ7 : Ctx := ⟨tyTab, fnTab, tblSum tb7, tblLp lt7⟩
theorem tb7_ok : SumL Try.prog tb7 := SumL.cons z1g (SumL.cons z0l (SumL.cons z14 (SumL.cons z1h (SumL.cons z1s (SumL.cons z1p (SumL.cons z1f (SumL.cons z24 (SumL.cons z1q (SumL.cons z3s (SumL.cons z39 (SumL.cons z38 (SumL.cons z1d (SumL.cons z25 (SumL.cons z0k (SumL.cons z00 (SumL.cons z20 (SumL.cons z1b (SumL.cons z3h (SumL.cons z2c (SumL.cons z1z (SumL.cons z30 (SumL.cons z2b (SumL.cons z1c (SumL.cons z0y (SumL.cons z36 (SumL.cons z1v (SumL.cons z17 (SumL.cons z18 (SumL.cons z26 (SumL.cons z1t (SumL.cons z2e (SumL.cons z1l (SumL.cons z22 (SumL.cons z21 (SumL.cons z2q (SumL.cons z2o (SumL.cons z3o (SumL.cons z47 (SumL.cons z29 (SumL.cons z0d (SumL.cons z09 (SumL.cons z3u (SumL.cons z0i (SumL.cons z0c (SumL.cons z0g (SumL.cons z06 (SumL.nil)))))))))))))))))))))))))))))))))))))))))))))))
theorem lt7_ok : LpL Try.prog fnTab lt7 := LpL.cons z0z (LpL.cons z0r (LpL.cons z0q (LpL.cons z12 (LpL.cons z13 (LpL.cons z33 (LpL.cons z15 (LpL.cons z04 (LpL.cons z02 (LpL.cons z07 (LpL.cons z3q (LpL.nil)))))))))))
noncomputable def z4u : List PT → Option (Bool × AV × List Blk)
  | [.ptr [.row 1 q00 (.fl .f32 q03), .row 1 q01 (.fl .f32 q04), .row 1 q02 (.fl .f32 q05), .row 3 q06 (.fl .f32 q07), .s (.int .i64 q0b), .s (.flt .f32 q0c), .s (.flt .f32 q0d)]] => some ((zln q00 q03 q01 q04 q02 q05 q06 q07 q0b q0c q0d), ((AV.v (TV.one (At.bool (zl9 q00 q03 q01 q04 q02 q05 q06 q07 q0b q0c q0d)))), []))
  | _ => none
def zrc (q00 : Nat) (q03 : List Nat) (q01 : Nat) (q04 : List Nat) (q02 : Nat) (q05 : List Nat) (q06 : Nat) (q07 : List Nat) (q0b : Int) (q0c : Nat) (q0d : Nat) : Option (Bool) → Option (AV × List Blk)
  | some r => some ((AV.v (TV.one (At.bool r))), [])
  | none => none
theorem zth (q00 : Nat) (q03 : List Nat) (q01 : Nat) (q04 : List Nat) (q02 : Nat) (q05 : List Nat) (q06 : Nat) (q07 : List Nat) (q0b : Int) (q0c : Nat) (q0d : Nat) : evFn Γ7 8 8 91 (impTs 0 [.ptr [.row 1 q00 (.fl .f32 q03), .row 1 q01 (.fl .f32 q04), .row 1 q02 (.fl .f32 q05), .row 3 q06 (.fl .f32 q07), .s (.int .i64 q0b), .s (.flt .f32 q0c), .s (.flt .f32 q0d)]]).1 (impTs 0 [.ptr [.row 1 q00 (.fl .f32 q03), .row 1 q01 (.fl .f32 q04), .row 1 q02 (.fl .f32 q05), .row 3 q06 (.fl .f32 q07), .s (.int .i64 q0b), .s (.flt .f32 q0c), .s (.flt .f32 q0d)]]).2 (expo (impTs 0 [.ptr [.row 1 q00 (.fl .f32 q03), .row 1 q01 (.fl .f32 q04), .row 1 q02 (.fl .f32 q05), .row 3 q06 (.fl .f32 q07), .s (.int .i64 q0b), .s (.flt .f32 q0c), .s (.flt .f32 q0d)]]).2.length) = zjy q00 q03 q01 q04 q02 q05 q06 q07 q0b q0c q0d (fun c0_ => some ((AV.v (TV.one (At.bool c0_))), [])) := by kernel_rfl
theorem z4h : SumOne Try.prog 91 z4u := sum_of (Γ := Γ7) (fuel := 8) (d := 8) tyTab_ok (FnL.ok fnTab_ok _ _) (LpL.ok lt7_ok) (SumL.ok tb7_ok _) mixed (by
  intro pts v news hp hc
  clear hc
  unfold z4u at hp
  split at hp
  · rename_i q00 q03 q01 q04 q02 q05 q06 q07 q0b q0c q0d
    exact Eq.trans (Eq.trans (zth q00 q03 q01 q04 q02 q05 q06 q07 q0b q0c q0d) (zsj (zrc q00 q03 q01 q04 q02 q05 q06 q07 q0b q0c q0d) rfl q00 q03 q01 q04 q02 q05 q06 q07 q0b q0c q0d (fun c0_ => some c0_))) (fin_out (o := (zrc q00 q03 q01 q04 q02 q05 q06 q07 q0b q0c q0d)) (x := zk2 q00 q03 q01 q04 q02 q05 q06 q07 q0b q0c q0d) (d := default) (V := fun r => ((AV.v (TV.one (At.bool r))), [])) (fun r => rfl) hp)
  · cases hp)
noncomputable def z41 : List PT → Option (Bool × AV × List Blk)
  | [.one (.row 1 q28 (.fl .f32 q2u))] => some ((zl3 q28 q2u), ((AV.v (TV.one (At.bool (zjv q28 q2u)))), []))
  | _ => none
def znu (q28 : Nat) (q2u : List Nat) : Option (Bool) → Option (AV × List Blk)
  | some r => some ((AV.v (TV.one (At.bool r))), [])
  | none => none
theorem zso (q28 : Nat) (q2u : List Nat) : evFn Γ7 8 8 95 (impTs 0 [.one (.row 1 q28 (.fl .f32 q2u))]).1 (impTs 0 [.one (.row 1 q28 (.fl .f32 q2u))]).2 (expo (impTs 0 [.one (.row 1 q28 (.fl .f32 q2u))]).2.length) = zdu q28 q2u (fun c0_ => some ((AV.v (TV.one (At.bool c0_))), [])) := by kernel_rfl
theorem z3m : SumOne Try.prog 95 z41 := sum_of (Γ := Γ7) (fuel := 8) (d := 8) tyTab_ok (FnL.ok fnTab_ok _ _) (LpL.ok lt7_ok) (SumL.ok tb7_ok _) mixed (by
  intro pts v news hp hc
  clear hc
  unfold z41 at hp
  split at hp
  · rename_i q28 q2u
    exact Eq.trans (Eq.trans (zso q28 q2u) (zpw (znu q28 q2u) rfl q28 q2u (fun c0_ => some c0_))) (fin_out (o := (znu q28 q2u)) (x := zdx q28 q2u) (d := default) (V := fun r => ((AV.v (TV.one (At.bool r))), [])) (fun r => rfl) hp)
  · cases hp)
noncomputable def z49 : List PT → Option (Bool × AV × List Blk)
  | [.one (.row 1 q28 (.fl .f32 q2u))] => some ((zle q28 q2u), ((AV.v (TV.one (At.bool (zkx q28 q2u)))), []))
  | _ => none
def zoh (q28 : Nat) (q2u : List Nat) : Option (Bool) → Option (AV × List Blk)
  | some r => some ((AV.v (TV.one (At.bool r))), [])
  | none => none
theorem zsw (q28 : Nat) (q2u : List Nat) : evFn Γ7 8 8 96 (impTs 0 [.one (.row 1 q28 (.fl .f32 q2u))]).1 (impTs 0 [.one (.row 1 q28 (.fl .f32 q2u))]).2 (expo (impTs 0 [.one (.row 1 q28 (.fl .f32 q2u))]).2.length) = zec q28 q2u (fun c0_ => some ((AV.v (TV.one (At.bool c0_))), [])) := by kernel_rfl
theorem z3v : SumOne Try.prog 96 z49 := sum_of (Γ := Γ7) (fuel := 8) (d := 8) tyTab_ok (FnL.ok fnTab_ok _ _) (LpL.ok lt7_ok) (SumL.ok tb7_ok _) mixed (by
  intro pts v news hp hc
  clear hc
  unfold z49 at hp
  split at hp
  · rename_i q28 q2u
    exact Eq.trans (Eq.trans (zsw q28 q2u) (zr0 (zoh q28 q2u) rfl q28 q2u (fun c0_ => some c0_))) (fin_out (o := (zoh q28 q2u)) (x := zeb q28 q2u) (d := default) (V := fun r => ((AV.v (TV.one (At.bool r))), [])) (fun r => rfl) hp)
  · cases hp)
noncomputable def z3i : List PT → Option (Bool × AV × List Blk)
  | [.one (.row 1 q28 (.fl .f32 q2u))] => some ((ze7 q28 q2u), ((AV.v (TV.one (At.bool (zdm q28 q2u)))), []))
  | _ => none
def zmx (q28 : Nat) (q2u : List Nat) : Option (Bool) → Option (AV × List Blk)
  | some r => some ((AV.v (TV.one (At.bool r))), [])
  | none => none
theorem zr7 (q28 : Nat) (q2u : List Nat) : evFn Γ7 8 8 112 (impTs 0 [.one (.row 1 q28 (.fl .f32 q2u))]).1 (impTs 0 [.one (.row 1 q28 (.fl .f32 q2u))]).2 (expo (impTs 0 [.one (.row 1 q28 (.fl .f32 q2u))]).2.length) = zcb q28 q2u (fun c0_ => some ((AV.v (TV.one (At.bool c0_))), [])) := by kernel_rfl
theorem z2l : SumOne Try.prog 112 z3i := sum_of (Γ := Γ7) (fuel := 8) (d := 8) tyTab_ok (FnL.ok fnTab_ok _ _) (LpL.ok lt7_ok) (SumL.ok tb7_ok _) mixed (by
  intro pts v news hp hc
  clear hc
  unfold z3i at hp
  split at hp
  · rename_i q28 q2u
    exact Eq.trans (Eq.trans (zr7 q28 q2u) (zon (zmx q28 q2u) rfl q28 q2u (fun c0_ => some c0_))) (fin_out (o := (zmx q28 q2u)) (x := zaa q28 q2u) (d := default) (V := fun r => ((AV.v (TV.one (At.bool r))), [])) (fun r => rfl) hp)
  · cases hp)
noncomputable def tb8 : List (Nat × (List PT → Option (Bool × AV × List Blk))) := [(125, z2f), (128, z0v), (134, z1i), (137, z2g), (18, z2p), (44, z2n), (48, z27), (54, z3f), (61, z2m), (63, z4f), (64, z42), (66, z43), (80, z28), (97, z3e), (104, z0s), (115, z01), (14, z34), (67, z1x), (92, z46), (103, z3j), (105, z35), (111, z3w), (114, z3k), (118, z1y), (122, z19), (37, z3y), (52, z2j), (72, z1o), (79, z1r), (93, z3a), (119, z2k), (16, z3g), (36, z2d), (57, z32), (86, z31), (19, z3p), (33, z3n), (39, z48), (62, z4q), (69, z37), (99, z0f), (99, z0a), (30, z4b), (99, z0j), (117, z0e), (117, z0h), (117, z08), (91, z4u), (95, z41), (96, z49), (112, z3i)]
noncomputable def lt8 : List ((Nat × Nat) × (Nat → St → Option (Bool × LO))) := [((52, 3), z1e), ((72, 2), z10), ((79, 2), z11), ((57, 4), z1j), ((86, 3), z1k), ((62, 5), z3x), ((69, 4), z1u), ((99, 2), z05), ((99, 2), z03), ((99, 2), z0b), ((91, 6), z4a)]
noncomputable def Γ8 : Ctx := ⟨tyTab, fnTab, tblSum tb8, tblLp lt8⟩
theorem tb8_ok : SumL Try.prog tb8 := SumL.cons z1g (SumL.cons z0l (SumL.cons z14 (SumL.cons z1h (SumL.cons z1s (SumL.cons z1p (SumL.cons z1f (SumL.cons z24 (SumL.cons z1q (SumL.cons z3s (SumL.cons z39 (SumL.cons z38 (SumL.cons z1d (SumL.cons z25 (SumL.cons z0k (SumL.cons z00 (SumL.cons z20 (SumL.cons z1b (SumL.cons z3h (SumL.cons z2c (SumL.cons z1z (SumL.cons z30 (SumL.cons z2b (SumL.cons z1c (SumL.cons z0y (SumL.cons z36 (SumL.cons z1v (SumL.cons z17 (SumL.cons z18 (SumL.cons z26 (SumL.cons z1t (SumL.cons z2e (SumL.cons z1l (SumL.cons z22 (SumL.cons z21 (SumL.cons z2q (SumL.cons z2o (SumL.cons z3o (SumL.cons z47 (SumL.cons z29 (SumL.cons z0d (SumL.cons z09 (SumL.cons z3u (SumL.cons z0i (SumL.cons z0c (SumL.cons z0g (SumL.cons z06 (SumL.cons z4h (SumL.cons z3m (SumL.cons z3v (SumL.cons z2l (SumL.nil)))))))))))))))))))))))))))))))))))))))))))))))))))
theorem lt8_ok : LpL Try.prog fnTab lt8 := LpL.cons z0z (LpL.cons z0r (LpL.cons z0q (LpL.cons z12 (LpL.cons z13 (LpL.cons z33 (LpL.cons z15 (LpL.cons z04 (LpL.cons z02 (LpL.cons z07 (LpL.cons z3q (LpL.nil)))))))))))
noncomputable def tb9 : List (Nat × (List PT → Option (Bool × AV × List Blk))) := [(125, z2f), (128, z0v), (134, z1i), (137, z2g), (18, z2p), (44, z2n), (48, z27), (54, z3f), (61, z2m), (63, z4f), (64, z42), (66, z43), (80, z28), (97, z3e), (104, z0s), (115, z01), (14, z34), (67, z1x), (92, z46), (103, z3j), (105, z35), (111, z3w), (114, z3k), (118, z1y), (122, z19), (37, z3y), (52, z2j), (72, z1o), (79, z1r), (93, z3a), (119, z2k), (16, z3g), (36, z2d), (57, z32), (86, z31), (19, z3p), (33, z3n), (39, z48), (62, z4q), (69, z37), (99, z0f), (99, z0a), (30, z4b), (99, z0j), (117, z0e), (117, z0h), (117, z08), (91, z4u), (95, z41), (96, z49), (112, z3i)]
noncomputable def lt9 : List ((Nat × Nat) × (Nat → St → Option (Bool × LO))) := [((52, 3), z1e), ((72, 2), z10), ((79, 2), z11), ((57, 4), z1j), ((86, 3), z1k), ((62, 5), z3x), ((69, 4), z1u), ((99, 2), z05), ((99, 2), z03), ((99, 2), z0b), ((91, 6), z4a)]
noncomputable def Γ9 : Ctx := ⟨tyTab, fnTab, tblSum tb9, tblLp lt9⟩
theorem tb9_ok : SumL Try.prog tb9 := SumL.cons z1g (SumL.cons z0l (SumL.cons z14 (SumL.cons z1h (SumL.cons z1s (SumL.cons z1p (SumL.cons z1f (SumL.cons z24 (SumL.cons z1q (SumL.cons z3s (SumL.cons z39 (SumL.cons z38 (SumL.cons z1d (SumL.cons z25 (SumL.cons z0k (SumL.cons z00 (SumL.cons z20 (SumL.cons z1b (SumL.cons z3h (SumL.cons z2c (SumL.cons z1z (SumL.cons z30 (SumL.cons z2b (SumL.cons z1c (SumL.cons z0y (SumL.cons z36 (SumL.cons z1v (SumL.cons z17 (SumL.cons z18 (SumL.cons z26 (SumL.cons z1t (SumL.cons z2e (SumL.cons z1l (SumL.cons z22 (SumL.cons z21 (SumL.cons z2q (SumL.cons z2o (SumL.cons z3o (SumL.cons z47 (SumL.cons z29 (SumL.cons z0d (SumL.cons z09 (SumL.cons z3u (SumL.cons z0i (SumL.cons z0c (SumL.cons z0g (SumL.cons z06 (SumL.cons z4h (SumL.cons z3m (SumL.cons z3v (SumL.cons z2l (SumL.nil)))))))))))))))))))))))))))))))))))))))))))))))))))
theorem lt9_ok : LpL Try.prog fnTab lt9 := LpL.cons z0z (LpL.cons z0r (LpL.cons z0q (LpL.cons z12 (LpL.cons z13 (LpL.cons z33 (LpL.cons z15 (LpL.cons z04 (LpL.cons z02 (LpL.cons z07 (LpL.cons z3q (LpL.nil)))))))))))
noncomputable def zlt (q39 : Nat) (t43 : Int) (t44 : Int) (b0 : List Nat) (b1 : List Nat) (b2 : List Nat) (q27 : Nat) (q2n : Nat) (q2m : Nat) : Bool × LO := ((z8y q39 t43 b0 q27 t44), (LO.two (z89 q39 t43 b0 q27 t44) (LO.one Ex.ret (St.mk [(2, (AV.v (TV.one (At.bool Bool.false))))] [(Blk.mk Bool.false (Body.fl FloatKind.f32 b0)), (Blk.mk Bool.false (Body.fl FloatKind.f32 b1)), (Blk.mk Bool.false (Body.fl FloatKind.f32 b2))])) (LO.one (Ex.exit 0) (St.mk [(1, (AV.v (TV.one (At.ptr 3 0 3)))), (42, (AV.v (TV.one (At.vw 0 0 q39 1)))), (43, (AV.v (TV.one (At.int IntKind.i64 t43)))), (44, (AV.v (TV.one (At.int IntKind.i64 (zex q39 t43 b0 q27 t44))))), (45, (AV.v (TV.one (At.bool (zes q39 t43 b0 q27 t44)))))] [(Blk.mk Bool.false (Body.fl FloatKind.f32 b0)), (Blk.mk Bool.false (Body.fl FloatKind.f32 b1)), (Blk.mk Bool.false (Body.fl FloatKind.f32 b2)), (Blk.mk Bool.true (Body.cells [(At.vw 0 0 q27 1), (At.vw 1 0 q2n 1), (At.vw 2 0 q2m 1)]))]))))
noncomputable def z2h : Nat → St → Option (Bool × LO) := lpT 3 (pSt [(pTm 1 (pV (pOne (pPtr 3 (liN 0) 3)))), (pTm 42 (pV (pOne (pVw 0 (liN 0) 1)))), (pTm 43 (pV (pOne (pInt IntKind.i64)))), (pTm 44 (pV (pOne (pInt IntKind.i64))))] [(pBlk Bool.false (pFl FloatKind.f32)), (pBlk Bool.false (pFl FloatKind.f32)), (pBlk Bool.false (pFl FloatKind.f32)), (pBlk Bool.true (pCells [(pVw 0 (liN 0) 1), (pVw 1 (liN 0) 1), (pVw 2 (liN 0) 1)]))]) (fun hs => zlt (hvN (hGet hs 0)) (hvI (hGet hs 1)) (hvI (hGet hs 2)) (hvLn (hGet hs 3)) (hvLn (hGet hs 4)) (hvLn (hGet hs 5)) (hvN (hGet hs 6)) (hvN (hGet hs 7)) (hvN (hGet hs 8)))
def zb7 (q39 : Nat) (t43 : Int) (b0 : List Nat) (b1 : List Nat) (b2 : List Nat) (q27 : Nat) (q2n : Nat) (q2m : Nat) : Option ((Unit) ⊕ (Int × Bool)) → Option (Ex × St)
  | none => none
  | some (Sum.inl r) => some (Ex.ret, (St.mk [(2, (AV.v (TV.one (At.bool Bool.false))))] [(Blk.mk Bool.false (Body.fl FloatKind.f32 b0)), (Blk.mk Bool.false (Body.fl FloatKind.f32 b1)), (Blk.mk Bool.false (Body.fl FloatKind.f32 b2))]))
  | some (Sum.inr r) => some ((Ex.exit 0), (St.mk [(1, (AV.v (TV.one (At.ptr 3 0 3)))), (42, (AV.v (TV.one (At.vw 0 0 q39 1)))), (43, (AV.v (TV.one (At.int IntKind.i64 t43)))), (44, (AV.v (TV.one (At.int IntKind.i64 r.1)))), (45, (AV.v (TV.one (At.bool r.2))))] [(Blk.mk Bool.false (Body.fl FloatKind.f32 b0)), (Blk.mk Bool.false (Body.fl FloatKind.f32 b1)), (Blk.mk Bool.false (Body.fl FloatKind.f32 b2)), (Blk.mk Bool.true (Body.cells [(At.vw 0 0 q27 1), (At.vw 1 0 q2n 1), (At.vw 2 0 q2m 1)]))]))
def zoa (q39 : Nat) (t43 : Int) (b0 : List Nat) (b1 : List Nat) (b2 : List Nat) (q27 : Nat) (q2n : Nat) (q2m : Nat) (x : Option ((Unit) ⊕ (Int × Bool))) : LO := (LO.two (oL x) (LO.one Ex.ret (St.mk [(2, (AV.v (TV.one (At.bool Bool.false))))] [(Blk.mk Bool.false (Body.fl FloatKind.f32 b0)), (Blk.mk Bool.false (Body.fl FloatKind.f32 b1)), (Blk.mk Bool.false (Body.fl FloatKind.f32 b2))])) (LO.one (Ex.exit 0) (St.mk [(1, (AV.v (TV.one (At.ptr 3 0 3)))), (42, (AV.v (TV.one (At.vw 0 0 q39 1)))), (43, (AV.v (TV.one (At.int IntKind.i64 t43)))), (44, (AV.v (TV.one (At.int IntKind.i64 ((tR x).getD default).1)))), (45, (AV.v (TV.one (At.bool ((tR x).getD default).2))))] [(Blk.mk Bool.false (Body.fl FloatKind.f32 b0)), (Blk.mk Bool.false (Body.fl FloatKind.f32 b1)), (Blk.mk Bool.false (Body.fl FloatKind.f32 b2)), (Blk.mk Bool.true (Body.cells [(At.vw 0 0 q27 1), (At.vw 1 0 q2n 1), (At.vw 2 0 q2m 1)]))])))
theorem zoy (q39 : Nat) (t43 : Int) (b0 : List Nat) (b1 : List Nat) (b2 : List Nat) (q27 : Nat) (q2n : Nat) (q2m : Nat) : ∀ x : Option ((Unit) ⊕ (Int × Bool)), x.isSome = true → (zb7 q39 t43 b0 b1 b2 q27 q2n q2m) x = some (pick (zoa q39 t43 b0 b1 b2 q27 q2n q2m x))
  | none, h => by cases h
  | some (Sum.inl r), _ => rfl
  | some (Sum.inr r), _ => rfl
theorem zok (q39 : Nat) (t43 : Int) (t44 : Int) (b0 : List Nat) (b1 : List Nat) (b2 : List Nat) (q27 : Nat) (q2n : Nat) (q2m : Nat) (K : Ex → St → Option (Ex × St)) : evC (R := Ex × St) Γ9 (evFn Γ9 8 8) 53 3 fi53.nt fi53.live fi53.nl 8 (findL 5 (loopsIn fi53.code)) (St.mk [(1, (AV.v (TV.one (At.ptr 3 0 3)))), (42, (AV.v (TV.one (At.vw 0 0 q39 1)))), (43, (AV.v (TV.one (At.int IntKind.i64 t43)))), (44, (AV.v (TV.one (At.int IntKind.i64 t44))))] [(Blk.mk Bool.false (Body.fl FloatKind.f32 b0)), (Blk.mk Bool.false (Body.fl FloatKind.f32 b1)), (Blk.mk Bool.false (Body.fl FloatKind.f32 b2)), (Blk.mk Bool.true (Body.cells [(At.vw 0 0 q27 1), (At.vw 1 0 q2n 1), (At.vw 2 0 q2m 1)]))]) K = z6x q39 t43 b0 q27 t44 (fun t44' => K .normal (St.mk [(1, (AV.v (TV.one (At.ptr 3 0 3)))), (42, (AV.v (TV.one (At.vw 0 0 q39 1)))), (43, (AV.v (TV.one (At.int IntKind.i64 t43)))), (44, (AV.v (TV.one (At.int IntKind.i64 t44'))))] [(Blk.mk Bool.false (Body.fl FloatKind.f32 b0)), (Blk.mk Bool.false (Body.fl FloatKind.f32 b1)), (Blk.mk Bool.false (Body.fl FloatKind.f32 b2)), (Blk.mk Bool.true (Body.cells [(At.vw 0 0 q27 1), (At.vw 1 0 q2n 1), (At.vw 2 0 q2m 1)]))])) (fun _ => K Ex.ret (St.mk [(2, (AV.v (TV.one (At.bool Bool.false))))] [(Blk.mk Bool.false (Body.fl FloatKind.f32 b0)), (Blk.mk Bool.false (Body.fl FloatKind.f32 b1)), (Blk.mk Bool.false (Body.fl FloatKind.f32 b2))])) (fun c0_ c1_ => K (Ex.exit 0) (St.mk [(1, (AV.v (TV.one (At.ptr 3 0 3)))), (42, (AV.v (TV.one (At.vw 0 0 q39 1)))), (43, (AV.v (TV.one (At.int IntKind.i64 t43)))), (44, (AV.v (TV.one (At.int IntKind.i64 c0_)))), (45, (AV.v (TV.one (At.bool c1_))))] [(Blk.mk Bool.false (Body.fl FloatKind.f32 b0)), (Blk.mk Bool.false (Body.fl FloatKind.f32 b1)), (Blk.mk Bool.false (Body.fl FloatKind.f32 b2)), (Blk.mk Bool.true (Body.cells [(At.vw 0 0 q27 1), (At.vw 1 0 q2n 1), (At.vw 2 0 q2m 1)]))])) := by kernel_rfl
theorem zom (q39 : Nat) (t43 : Int) (b0 : List Nat) (b1 : List Nat) (b2 : List Nat) (q27 : Nat) (q2n : Nat) (q2m : Nat) : ∀ (n : Nat) (t44 : Int), iter 53 5 3 (evC (R := Ex × St) Γ9 (evFn Γ9 8 8) 53 3 fi53.nt fi53.live fi53.nl 8 (findL 5 (loopsIn fi53.code))) n (St.mk [(1, (AV.v (TV.one (At.ptr 3 0 3)))), (42, (AV.v (TV.one (At.vw 0 0 q39 1)))), (43, (AV.v (TV.one (At.int IntKind.i64 t43)))), (44, (AV.v (TV.one (At.int IntKind.i64 t44))))] [(Blk.mk Bool.false (Body.fl FloatKind.f32 b0)), (Blk.mk Bool.false (Body.fl FloatKind.f32 b1)), (Blk.mk Bool.false (Body.fl FloatKind.f32 b2)), (Blk.mk Bool.true (Body.cells [(At.vw 0 0 q27 1), (At.vw 1 0 q2n 1), (At.vw 2 0 q2m 1)]))]) (fun e st => some (e, st)) = (zb7 q39 t43 b0 b1 b2 q27 q2n q2m) (z5b q39 t43 b0 q27 n t44) := by
  intro n
  induction n with
  | zero => intros; rfl
  | succ n ih =>
    intro t44
    refine Eq.trans (iter_succ ..) (Eq.trans (zok q39 t43 t44 b0 b1 b2 q27 q2n q2m (nextK 53 5 3 (evC (R := Ex × St) Γ9 (evFn Γ9 8 8) 53 3 fi53.nt fi53.live fi53.nl 8 (findL 5 (loopsIn fi53.code))) n (fun e st => some (e, st)))) (Eq.trans ?_ (zmz (zb7 q39 t43 b0 b1 b2 q27 q2n q2m) rfl q39 t43 b0 q27 t44 (fun t44' => z5b q39 t43 b0 q27 n t44') (fun _ => some (Sum.inl ())) (fun c0_ c1_ => some (Sum.inr (c0_, c1_))))))
    exact congrArg (fun kn_ => z6x q39 t43 b0 q27 t44 kn_ (fun _ => (zb7 q39 t43 b0 b1 b2 q27 q2n q2m) (some (Sum.inl ()))) (fun c0_ c1_ => (zb7 q39 t43 b0 b1 b2 q27 q2n q2m) (some (Sum.inr (c0_, c1_))))) (funext fun t44' => ih t44')
theorem z1w : LoopOne Try.prog fnTab 53 5 z2h := lp_of (Γ := Γ9) tyTab_ok (FnL.ok fnTab_ok _ _) (LpL.ok lt9_ok) (SumL.ok tb9_ok _) mixed (fi := fi53) (by kernel_rfl) (by kernel_rfl) (by
  intro lo st out hp
  obtain ⟨hs, e1, e2, e3⟩ := lpT_inv hp
  clear hp
  obtain rfl : st = (St.mk [(1, (AV.v (TV.one (At.ptr 3 0 3)))), (42, (AV.v (TV.one (At.vw 0 0 (hvN (hGet hs 0)) 1)))), (43, (AV.v (TV.one (At.int IntKind.i64 (hvI (hGet hs 1)))))), (44, (AV.v (TV.one (At.int IntKind.i64 (hvI (hGet hs 2))))))] [(Blk.mk Bool.false (Body.fl FloatKind.f32 (hvLn (hGet hs 3)))), (Blk.mk Bool.false (Body.fl FloatKind.f32 (hvLn (hGet hs 4)))), (Blk.mk Bool.false (Body.fl FloatKind.f32 (hvLn (hGet hs 5)))), (Blk.mk Bool.true (Body.cells [(At.vw 0 0 (hvN (hGet hs 6)) 1), (At.vw 1 0 (hvN (hGet hs 7)) 1), (At.vw 2 0 (hvN (hGet hs 8)) 1)]))]) := e2.trans (by kernel_rfl)
  clear e2
  subst e1
  unfold zlt at e3
  injection e3 with h1 h2
  subst h2
  exact ⟨8, 8, big, Eq.trans (zom (hvN (hGet hs 0)) (hvI (hGet hs 1)) (hvLn (hGet hs 3)) (hvLn (hGet hs 4)) (hvLn (hGet hs 5)) (hvN (hGet hs 6)) (hvN (hGet hs 7)) (hvN (hGet hs 8)) big (hvI (hGet hs 2))) (zoy (hvN (hGet hs 0)) (hvI (hGet hs 1)) (hvLn (hGet hs 3)) (hvLn (hGet hs 4)) (hvLn (hGet hs 5)) (hvN (hGet hs 6)) (hvN (hGet hs 7)) (hvN (hGet hs 8)) (z5b (hvN (hGet hs 0)) (hvI (hGet hs 1)) (hvLn (hGet hs 3)) (hvN (hGet hs 6)) big (hvI (hGet hs 2))) h1)⟩)
noncomputable def tb10 : List (Nat × (List PT → Option (Bool × AV × List Blk))) := [(125, z2f), (128, z0v), (134, z1i), (137, z2g), (18, z2p), (44, z2n), (48, z27), (54, z3f), (61, z2m), (63, z4f), (64, z42), (66, z43), (80, z28), (97, z3e), (104, z0s), (115, z01), (14, z34), (67, z1x), (92, z46), (103, z3j), (105, z35), (111, z3w), (114, z3k), (118, z1y), (122, z19), (37, z3y), (52, z2j), (72, z1o), (79, z1r), (93, z3a), (119, z2k), (16, z3g), (36, z2d), (57, z32), (86, z31), (19, z3p), (33, z3n), (39, z48), (62, z4q), (69, z37), (99, z0f), (99, z0a), (30, z4b), (99, z0j), (117, z0e), (117, z0h), (117, z08), (91, z4u), (95, z41), (96, z49), (112, z3i)]
noncomputable def lt10 : List ((Nat × Nat) × (Nat → St → Option (Bool × LO))) := [((52, 3), z1e), ((72, 2), z10), ((79, 2), z11), ((57, 4), z1j), ((86, 3), z1k), ((62, 5), z3x), ((69, 4), z1u), ((99, 2), z05), ((99, 2), z03), ((99, 2), z0b), ((91, 6), z4a), ((53, 5), z2h)]
noncomputable def Γ10 : Ctx := ⟨tyTab, fnTab, tblSum tb10, tblLp lt10⟩
theorem tb10_ok : SumL Try.prog tb10 := SumL.cons z1g (SumL.cons z0l (SumL.cons z14 (SumL.cons z1h (SumL.cons z1s (SumL.cons z1p (SumL.cons z1f (SumL.cons z24 (SumL.cons z1q (SumL.cons z3s (SumL.cons z39 (SumL.cons z38 (SumL.cons z1d (SumL.cons z25 (SumL.cons z0k (SumL.cons z00 (SumL.cons z20 (SumL.cons z1b (SumL.cons z3h (SumL.cons z2c (SumL.cons z1z (SumL.cons z30 (SumL.cons z2b (SumL.cons z1c (SumL.cons z0y (SumL.cons z36 (SumL.cons z1v (SumL.cons z17 (SumL.cons z18 (SumL.cons z26 (SumL.cons z1t (SumL.cons z2e (SumL.cons z1l (SumL.cons z22 (SumL.cons z21 (SumL.cons z2q (SumL.cons z2o (SumL.cons z3o (SumL.cons z47 (SumL.cons z29 (SumL.cons z0d (SumL.cons z09 (SumL.cons z3u (SumL.cons z0i (SumL.cons z0c (SumL.cons z0g (SumL.cons z06 (SumL.cons z4h (SumL.cons z3m (SumL.cons z3v (SumL.cons z2l (SumL.nil)))))))))))))))))))))))))))))))))))))))))))))))))))
theorem lt10_ok : LpL Try.prog fnTab lt10 := LpL.cons z0z (LpL.cons z0r (LpL.cons z0q (LpL.cons z12 (LpL.cons z13 (LpL.cons z33 (LpL.cons z15 (LpL.cons z04 (LpL.cons z02 (LpL.cons z07 (LpL.cons z3q (LpL.cons z1w (LpL.nil))))))))))))
noncomputable def z3t : List PT → Option (Bool × AV × List Blk)
  | [.agg [.row 1 q10 (.fl .f32 q1q), .row 1 q17 (.fl .f32 q1t), .row 1 q16 (.fl .f32 q1s)]] => some ((zfy q10 q1q q17 q1t q16 q1s), ((AV.v (TV.one (At.bool (zeo q10 q1q q17 q1t q16 q1s)))), []))
  | _ => none
def zmo (q10 : Nat) (q1q : List Nat) (q17 : Nat) (q1t : List Nat) (q16 : Nat) (q1s : List Nat) : Option (Bool) → Option (AV × List Blk)
  | some r => some ((AV.v (TV.one (At.bool r))), [])
  | none => none
theorem zqz (q10 : Nat) (q1q : List Nat) (q17 : Nat) (q1t : List Nat) (q16 : Nat) (q1s : List Nat) : evFn Γ10 8 8 53 (impTs 0 [.agg [.row 1 q10 (.fl .f32 q1q), .row 1 q17 (.fl .f32 q1t), .row 1 q16 (.fl .f32 q1s)]]).1 (impTs 0 [.agg [.row 1 q10 (.fl .f32 q1q), .row 1 q17 (.fl .f32 q1t), .row 1 q16 (.fl .f32 q1s)]]).2 (expo (impTs 0 [.agg [.row 1 q10 (.fl .f32 q1q), .row 1 q17 (.fl .f32 q1t), .row 1 q16 (.fl .f32 q1s)]]).2.length) = zb2 q10 q1q q17 q1t q16 q1s (fun c0_ => some ((AV.v (TV.one (At.bool c0_))), [])) := by kernel_rfl
theorem z3d : SumOne Try.prog 53 z3t := sum_of (Γ := Γ10) (fuel := 8) (d := 8) tyTab_ok (FnL.ok fnTab_ok _ _) (LpL.ok lt10_ok) (SumL.ok tb10_ok _) mixed (by
  intro pts v news hp hc
  clear hc
  unfold z3t at hp
  split at hp
  · rename_i q10 q1q q17 q1t q16 q1s
    exact Eq.trans (Eq.trans (zqz q10 q1q q17 q1t q16 q1s) (zoc (zmo q10 q1q q17 q1t q16 q1s) rfl q10 q1q q17 q1t q16 q1s (fun c0_ => some c0_))) (fin_out (o := (zmo q10 q1q q17 q1t q16 q1s)) (x := zb0 q10 q1q q17 q1t q16 q1s) (d := default) (V := fun r => ((AV.v (TV.one (At.bool r))), [])) (fun r => rfl) hp)
  · cases hp)
noncomputable def zm9 (by_ : Nat) (t14 : Int) (t15 : Int) (b0 : List Nat) (b1 : List Nat) (b2 : List Nat) (b3 : List Nat) (q1g : Int) (q1h : Nat) (q0y : Nat) (q1f : Nat) (q1d : Nat) (q1e : Nat) (q0x : Nat) (q1u : Int) (q22 : Nat) (q1x : Nat) (b6 : List Nat) (b7 : List Nat) (b8 : List Nat) (b9 : List Nat) : Bool × LO := ((zey by_ t14 q0x t15 b9), (LO.one (Ex.exit 0) (St.mk [(1, (AV.v (TV.one (At.flt FloatKind.f32 by_)))), (4, (AV.v (TV.one (At.ptr 4 0 7)))), (6, (AV.v (TV.one (At.ptr 5 0 7)))), (14, (AV.v (TV.one (At.int IntKind.i64 t14)))), (15, (AV.v (TV.one (At.int IntKind.i64 (zg8 by_ t14 q0x t15 b9))))), (16, (AV.v (TV.one (At.bool (zge by_ t14 q0x t15 b9)))))] [(Blk.mk Bool.false (Body.fl FloatKind.f32 b0)), (Blk.mk Bool.false (Body.fl FloatKind.f32 b1)), (Blk.mk Bool.false (Body.fl FloatKind.f32 b2)), (Blk.mk Bool.false (Body.fl FloatKind.f32 b3)), (Blk.mk Bool.true (Body.cells [At.nilsl, At.nilsl, At.nilsl, At.nilsl, (At.int IntKind.i64 q1g), (At.flt FloatKind.f32 q1h), (At.flt FloatKind.f32 q0y)])), (Blk.mk Bool.true (Body.cells [(At.sl 6 0 q1f 1), (At.sl 7 0 q1d 1), (At.sl 8 0 q1e 1), (At.sl 9 0 q0x 3), (At.int IntKind.i64 q1u), (At.flt FloatKind.f32 q22), (At.flt FloatKind.f32 q1x)])), (Blk.mk Bool.true (Body.fl FloatKind.f32 b6)), (Blk.mk Bool.true (Body.fl FloatKind.f32 b7)), (Blk.mk Bool.true (Body.fl FloatKind.f32 b8)), (Blk.mk Bool.true (Body.fl FloatKind.f32 (z9g by_ t14 q0x t15 b9)))])))
noncomputable def z3r : Nat → St → Option (Bool × LO) := lpT 4 (pSt [(pTm 1 (pV (pOne (pFlt FloatKind.f32)))), (pTm 4 (pV (pOne (pPtr 4 (liN 0) 7)))), (pTm 6 (pV (pOne (pPtr 5 (liN 0) 7)))), (pTm 14 (pV (pOne (pInt IntKind.i64)))), (pTm 15 (pV (pOne (pInt IntKind.i64))))] [(pBlk Bool.false (pFl FloatKind.f32)), (pBlk Bool.false (pFl FloatKind.f32)), (pBlk Bool.false (pFl FloatKind.f32)), (pBlk Bool.false (pFl FloatKind.f32)), (pBlk Bool.true (pCells [pNil, pNil, pNil, pNil, (pInt IntKind.i64), (pFlt FloatKind.f32), (pFlt FloatKind.f32)])), (pBlk Bool.true (pCells [(pSl 6 (liN 0) 1), (pSl 7 (liN 0) 1), (pSl 8 (liN 0) 1), (pSl 9 (liN 0) 3), (pInt IntKind.i64), (pFlt FloatKind.f32), (pFlt FloatKind.f32)])), (pBlk Bool.true (pFl FloatKind.f32)), (pBlk Bool.true (pFl FloatKind.f32)), (pBlk Bool.true (pFl FloatKind.f32)), (pBlk Bool.true (pFl FloatKind.f32))]) (fun hs => zm9 (hvN (hGet hs 0)) (hvI (hGet hs 1)) (hvI (hGet hs 2)) (hvLn (hGet hs 3)) (hvLn (hGet hs 4)) (hvLn (hGet hs 5)) (hvLn (hGet hs 6)) (hvI (hGet hs 7)) (hvN (hGet hs 8)) (hvN (hGet hs 9)) (hvN (hGet hs 10)) (hvN (hGet hs 11)) (hvN (hGet hs 12)) (hvN (hGet hs 13)) (hvI (hGet hs 14)) (hvN (hGet hs 15)) (hvN (hGet hs 16)) (hvLn (hGet hs 17)) (hvLn (hGet hs 18)) (hvLn (hGet hs 19)) (hvLn (hGet hs 20)))
def zez (by_ : Nat) (t14 : Int) (b0 : List Nat) (b1 : List Nat) (b2 : List Nat) (b3 : List Nat) (q1g : Int) (q1h : Nat) (q0y : Nat) (q1f : Nat) (q1d : Nat) (q1e : Nat) (q0x : Nat) (q1u : Int) (q22 : Nat) (q1x : Nat) (b6 : List Nat) (b7 : List Nat) (b8 : List Nat) : Option ((Int × Bool × (List Nat))) → Option (Ex × St)
  | none => none
  | some r => some ((Ex.exit 0), (St.mk [(1, (AV.v (TV.one (At.flt FloatKind.f32 by_)))), (4, (AV.v (TV.one (At.ptr 4 0 7)))), (6, (AV.v (TV.one (At.ptr 5 0 7)))), (14, (AV.v (TV.one (At.int IntKind.i64 t14)))), (15, (AV.v (TV.one (At.int IntKind.i64 r.1)))), (16, (AV.v (TV.one (At.bool r.2.1))))] [(Blk.mk Bool.false (Body.fl FloatKind.f32 b0)), (Blk.mk Bool.false (Body.fl FloatKind.f32 b1)), (Blk.mk Bool.false (Body.fl FloatKind.f32 b2)), (Blk.mk Bool.false (Body.fl FloatKind.f32 b3)), (Blk.mk Bool.true (Body.cells [At.nilsl, At.nilsl, At.nilsl, At.nilsl, (At.int IntKind.i64 q1g), (At.flt FloatKind.f32 q1h), (At.flt FloatKind.f32 q0y)])), (Blk.mk Bool.true (Body.cells [(At.sl 6 0 q1f 1), (At.sl 7 0 q1d 1), (At.sl 8 0 q1e 1), (At.sl 9 0 q0x 3), (At.int IntKind.i64 q1u), (At.flt FloatKind.f32 q22), (At.flt FloatKind.f32 q1x)])), (Blk.mk Bool.true (Body.fl FloatKind.f32 b6)), (Blk.mk Bool.true (Body.fl FloatKind.f32 b7)), (Blk.mk Bool.true (Body.fl FloatKind.f32 b8)), (Blk.mk Bool.true (Body.fl FloatKind.f32 r.2.2))]))
def zp5 (by_ : Nat) (t14 : Int) (b0 : List Nat) (b1 : List Nat) (b2 : List Nat) (b3 : List Nat) (q1g : Int) (q1h : Nat) (q0y : Nat) (q1f : Nat) (q1d : Nat) (q1e : Nat) (q0x : Nat) (q1u : Int) (q22 : Nat) (q1x : Nat) (b6 : List Nat) (b7 : List Nat) (b8 : List Nat) (x : Option ((Int × Bool × (List Nat)))) : LO := (LO.one (Ex.exit 0) (St.mk [(1, (AV.v (TV.one (At.flt FloatKind.f32 by_)))), (4, (AV.v (TV.one (At.ptr 4 0 7)))), (6, (AV.v (TV.one (At.ptr 5 0 7)))), (14, (AV.v (TV.one (At.int IntKind.i64 t14)))), (15, (AV.v (TV.one (At.int IntKind.i64 (x.getD default).1)))), (16, (AV.v (TV.one (At.bool (x.getD default).2.1))))] [(Blk.mk Bool.false (Body.fl FloatKind.f32 b0)), (Blk.mk Bool.false (Body.fl FloatKind.f32 b1)), (Blk.mk Bool.false (Body.fl FloatKind.f32 b2)), (Blk.mk Bool.false (Body.fl FloatKind.f32 b3)), (Blk.mk Bool.true (Body.cells [At.nilsl, At.nilsl, At.nilsl, At.nilsl, (At.int IntKind.i64 q1g), (At.flt FloatKind.f32 q1h), (At.flt FloatKind.f32 q0y)])), (Blk.mk Bool.true (Body.cells [(At.sl 6 0 q1f 1), (At.sl 7 0 q1d 1), (At.sl 8 0 q1e 1), (At.sl 9 0 q0x 3), (At.int IntKind.i64 q1u), (At.flt FloatKind.f32 q22), (At.flt FloatKind.f32 q1x)])), (Blk.mk Bool.true (Body.fl FloatKind.f32 b6)), (Blk.mk Bool.true (Body.fl FloatKind.f32 b7)), (Blk.mk Bool.true (Body.fl FloatKind.f32 b8)), (Blk.mk Bool.true (Body.fl FloatKind.f32 (x.getD default).2.2))]))
theorem zqj (by_ : Nat) (t14 : Int) (b0 : List Nat) (b1 : List Nat) (b2 : List Nat) (b3 : List Nat) (q1g : Int) (q1h : Nat) (q0y : Nat) (q1f : Nat) (q1d : Nat) (q1e : Nat) (q0x : Nat) (q1u : Int) (q22 : Nat) (q1x : Nat) (b6 : List Nat) (b7 : List Nat) (b8 : List Nat) : ∀ x : Option ((Int × Bool × (List Nat))), x.isSome = true → (zez by_ t14 b0 b1 b2 b3 q1g q1h q0y q1f q1d q1e q0x q1u q22 q1x b6 b7 b8) x = some (pick (zp5 by_ t14 b0 b1 b2 b3 q1g q1h q0y q1f q1d q1e q0x q1u q22 q1x b6 b7 b8 x))
  | none, h => by cases h
  | some r, _ => rfl
theorem zpy (by_ : Nat) (t14 : Int) (t15 : Int) (b0 : List Nat) (b1 : List Nat) (b2 : List Nat) (b3 : List Nat) (q1g : Int) (q1h : Nat) (q0y : Nat) (q1f : Nat) (q1d : Nat) (q1e : Nat) (q0x : Nat) (q1u : Int) (q22 : Nat) (q1x : Nat) (b6 : List Nat) (b7 : List Nat) (b8 : List Nat) (b9 : List Nat) (K : Ex → St → Option (Ex × St)) : evC (R := Ex × St) Γ10 (evFn Γ10 8 8) 41 4 fi41.nt fi41.live fi41.nl 8 (findL 5 (loopsIn fi41.code)) (St.mk [(1, (AV.v (TV.one (At.flt FloatKind.f32 by_)))), (4, (AV.v (TV.one (At.ptr 4 0 7)))), (6, (AV.v (TV.one (At.ptr 5 0 7)))), (14, (AV.v (TV.one (At.int IntKind.i64 t14)))), (15, (AV.v (TV.one (At.int IntKind.i64 t15))))] [(Blk.mk Bool.false (Body.fl FloatKind.f32 b0)), (Blk.mk Bool.false (Body.fl FloatKind.f32 b1)), (Blk.mk Bool.false (Body.fl FloatKind.f32 b2)), (Blk.mk Bool.false (Body.fl FloatKind.f32 b3)), (Blk.mk Bool.true (Body.cells [At.nilsl, At.nilsl, At.nilsl, At.nilsl, (At.int IntKind.i64 q1g), (At.flt FloatKind.f32 q1h), (At.flt FloatKind.f32 q0y)])), (Blk.mk Bool.true (Body.cells [(At.sl 6 0 q1f 1), (At.sl 7 0 q1d 1), (At.sl 8 0 q1e 1), (At.sl 9 0 q0x 3), (At.int IntKind.i64 q1u), (At.flt FloatKind.f32 q22), (At.flt FloatKind.f32 q1x)])), (Blk.mk Bool.true (Body.fl FloatKind.f32 b6)), (Blk.mk Bool.true (Body.fl FloatKind.f32 b7)), (Blk.mk Bool.true (Body.fl FloatKind.f32 b8)), (Blk.mk Bool.true (Body.fl FloatKind.f32 b9))]) K = z7r by_ t14 q0x t15 b9 (fun t15' b9' => K .normal (St.mk [(1, (AV.v (TV.one (At.flt FloatKind.f32 by_)))), (4, (AV.v (TV.one (At.ptr 4 0 7)))), (6, (AV.v (TV.one (At.ptr 5 0 7)))), (14, (AV.v (TV.one (At.int IntKind.i64 t14)))), (15, (AV.v (TV.one (At.int IntKind.i64 t15'))))] [(Blk.mk Bool.false (Body.fl FloatKind.f32 b0)), (Blk.mk Bool.false (Body.fl FloatKind.f32 b1)), (Blk.mk Bool.false (Body.fl FloatKind.f32 b2)), (Blk.mk Bool.false (Body.fl FloatKind.f32 b3)), (Blk.mk Bool.true (Body.cells [At.nilsl, At.nilsl, At.nilsl, At.nilsl, (At.int IntKind.i64 q1g), (At.flt FloatKind.f32 q1h), (At.flt FloatKind.f32 q0y)])), (Blk.mk Bool.true (Body.cells [(At.sl 6 0 q1f 1), (At.sl 7 0 q1d 1), (At.sl 8 0 q1e 1), (At.sl 9 0 q0x 3), (At.int IntKind.i64 q1u), (At.flt FloatKind.f32 q22), (At.flt FloatKind.f32 q1x)])), (Blk.mk Bool.true (Body.fl FloatKind.f32 b6)), (Blk.mk Bool.true (Body.fl FloatKind.f32 b7)), (Blk.mk Bool.true (Body.fl FloatKind.f32 b8)), (Blk.mk Bool.true (Body.fl FloatKind.f32 b9'))])) (fun c0_ c1_ c2_ => K (Ex.exit 0) (St.mk [(1, (AV.v (TV.one (At.flt FloatKind.f32 by_)))), (4, (AV.v (TV.one (At.ptr 4 0 7)))), (6, (AV.v (TV.one (At.ptr 5 0 7)))), (14, (AV.v (TV.one (At.int IntKind.i64 t14)))), (15, (AV.v (TV.one (At.int IntKind.i64 c0_)))), (16, (AV.v (TV.one (At.bool c1_))))] [(Blk.mk Bool.false (Body.fl FloatKind.f32 b0)), (Blk.mk Bool.false (Body.fl FloatKind.f32 b1)), (Blk.mk Bool.false (Body.fl FloatKind.f32 b2)), (Blk.mk Bool.false (Body.fl FloatKind.f32 b3)), (Blk.mk Bool.true (Body.cells [At.nilsl, At.nilsl, At.nilsl, At.nilsl, (At.int IntKind.i64 q1g), (At.flt FloatKind.f32 q1h), (At.flt FloatKind.f32 q0y)])), (Blk.mk Bool.true (Body.cells [(At.sl 6 0 q1f 1), (At.sl 7 0 q1d 1), (At.sl 8 0 q1e 1), (At.sl 9 0 q0x 3), (At.int IntKind.i64 q1u), (At.flt FloatKind.f32 q22), (At.flt FloatKind.f32 q1x)])), (Blk.mk Bool.true (Body.fl FloatKind.f32 b6)), (Blk.mk Bool.true (Body.fl FloatKind.f32 b7)), (Blk.mk Bool.true (Body.fl FloatKind.f32 b8)), (Blk.mk Bool.true (Body.fl FloatKind.f32 c2_))])) := by kernel_rfl
theorem zqn (by_ : Nat) (t14 : Int) (b0 : List Nat) (b1 : List Nat) (b2 : List Nat) (b3 : List Nat) (q1g : Int) (q1h : Nat) (q0y : Nat) (q1f : Nat) (q1d : Nat) (q1e : Nat) (q0x : Nat) (q1u : Int) (q22 : Nat) (q1x : Nat) (b6 : List Nat) (b7 : List Nat) (b8 : List Nat) : ∀ (n : Nat) (t15 : Int) (b9 : List Nat), iter 41 5 4 (evC (R := Ex × St) Γ10 (evFn Γ10 8 8) 41 4 fi41.nt fi41.live fi41.nl 8 (findL 5 (loopsIn fi41.code))) n (St.mk [(1, (AV.v (TV.one (At.flt FloatKind.f32 by_)))), (4, (AV.v (TV.one (At.ptr 4 0 7)))), (6, (AV.v (TV.one (At.ptr 5 0 7)))), (14, (AV.v (TV.one (At.int IntKind.i64 t14)))), (15, (AV.v (TV.one (At.int IntKind.i64 t15))))] [(Blk.mk Bool.false (Body.fl FloatKind.f32 b0)), (Blk.mk Bool.false (Body.fl FloatKind.f32 b1)), (Blk.mk Bool.false (Body.fl FloatKind.f32 b2)), (Blk.mk Bool.false (Body.fl FloatKind.f32 b3)), (Blk.mk Bool.true (Body.cells [At.nilsl, At.nilsl, At.nilsl, At.nilsl, (At.int IntKind.i64 q1g), (At.flt FloatKind.f32 q1h), (At.flt FloatKind.f32 q0y)])), (Blk.mk Bool.true (Body.cells [(At.sl 6 0 q1f 1), (At.sl 7 0 q1d 1), (At.sl 8 0 q1e 1), (At.sl 9 0 q0x 3), (At.int IntKind.i64 q1u), (At.flt FloatKind.f32 q22), (At.flt FloatKind.f32 q1x)])), (Blk.mk Bool.true (Body.fl FloatKind.f32 b6)), (Blk.mk Bool.true (Body.fl FloatKind.f32 b7)), (Blk.mk Bool.true (Body.fl FloatKind.f32 b8)), (Blk.mk Bool.true (Body.fl FloatKind.f32 b9))]) (fun e st => some (e, st)) = (zez by_ t14 b0 b1 b2 b3 q1g q1h q0y q1f q1d q1e q0x q1u q22 q1x b6 b7 b8) (z53 by_ t14 q0x n t15 b9) := by
  intro n
  induction n with
  | zero => intros; rfl
  | succ n ih =>
    intro t15 b9
    refine Eq.trans (iter_succ ..) (Eq.trans (zpy by_ t14 t15 b0 b1 b2 b3 q1g q1h q0y q1f q1d q1e q0x q1u q22 q1x b6 b7 b8 b9 (nextK 41 5 4 (evC (R := Ex × St) Γ10 (evFn Γ10 8 8) 41 4 fi41.nt fi41.live fi41.nl 8 (findL 5 (loopsIn fi41.code))) n (fun e st => some (e, st)))) (Eq.trans ?_ (znx (zez by_ t14 b0 b1 b2 b3 q1g q1h q0y q1f q1d q1e q0x q1u q22 q1x b6 b7 b8) rfl by_ t14 q0x t15 b9 (fun t15' b9' => z53 by_ t14 q0x n t15' b9') (fun c0_ c1_ c2_ => some (c0_, c1_, c2_)))))
    exact congrArg (fun kn_ => z7r by_ t14 q0x t15 b9 kn_ (fun c0_ c1_ c2_ => (zez by_ t14 b0 b1 b2 b3 q1g q1h q0y q1f q1d q1e q0x q1u q22 q1x b6 b7 b8) (some (c0_, c1_, c2_)))) (funext fun t15' => funext fun b9' => ih t15' b9')
theorem z2y : LoopOne Try.prog fnTab 41 5 z3r := lp_of (Γ := Γ10) tyTab_ok (FnL.ok fnTab_ok _ _) (LpL.ok lt10_ok) (SumL.ok tb10_ok _) mixed (fi := fi41) (by kernel_rfl) (by kernel_rfl) (by
  intro lo st out hp
  obtain ⟨hs, e1, e2, e3⟩ := lpT_inv hp
  clear hp
  obtain rfl : st = (St.mk [(1, (AV.v (TV.one (At.flt FloatKind.f32 (hvN (hGet hs 0)))))), (4, (AV.v (TV.one (At.ptr 4 0 7)))), (6, (AV.v (TV.one (At.ptr 5 0 7)))), (14, (AV.v (TV.one (At.int IntKind.i64 (hvI (hGet hs 1)))))), (15, (AV.v (TV.one (At.int IntKind.i64 (hvI (hGet hs 2))))))] [(Blk.mk Bool.false (Body.fl FloatKind.f32 (hvLn (hGet hs 3)))), (Blk.mk Bool.false (Body.fl FloatKind.f32 (hvLn (hGet hs 4)))), (Blk.mk Bool.false (Body.fl FloatKind.f32 (hvLn (hGet hs 5)))), (Blk.mk Bool.false (Body.fl FloatKind.f32 (hvLn (hGet hs 6)))), (Blk.mk Bool.true (Body.cells [At.nilsl, At.nilsl, At.nilsl, At.nilsl, (At.int IntKind.i64 (hvI (hGet hs 7))), (At.flt FloatKind.f32 (hvN (hGet hs 8))), (At.flt FloatKind.f32 (hvN (hGet hs 9)))])), (Blk.mk Bool.true (Body.cells [(At.sl 6 0 (hvN (hGet hs 10)) 1), (At.sl 7 0 (hvN (hGet hs 11)) 1), (At.sl 8 0 (hvN (hGet hs 12)) 1), (At.sl 9 0 (hvN (hGet hs 13)) 3), (At.int IntKind.i64 (hvI (hGet hs 14))), (At.flt FloatKind.f32 (hvN (hGet hs 15))), (At.flt FloatKind.f32 (hvN (hGet hs 16)))])), (Blk.mk Bool.true (Body.fl FloatKind.f32 (hvLn (hGet hs 17)))), (Blk.mk Bool.true (Body.fl FloatKind.f32 (hvLn (hGet hs 18)))), (Blk.mk Bool.true (Body.fl FloatKind.f32 (hvLn (hGet hs 19)))), (Blk.mk Bool.true (Body.fl FloatKind.f32 (hvLn (hGet hs 20))))]) := e2.trans (by kernel_rfl)
  clear e2
  subst e1
  unfold zm9 at e3
  injection e3 with h1 h2
  subst h2
  exact ⟨8, 8, big, Eq.trans (zqn (hvN (hGet hs 0)) (hvI (hGet hs 1)) (hvLn (hGet hs 3)) (hvLn (hGet hs 4)) (hvLn (hGet hs 5)) (hvLn (hGet hs 6)) (hvI (hGet hs 7)) (hvN (hGet hs 8)) (hvN (hGet hs 9)) (hvN (hGet hs 10)) (hvN (hGet hs 11)) (hvN (hGet hs 12)) (hvN (hGet hs 13)) (hvI (hGet hs 14)) (hvN (hGet hs 15)) (hvN (hGet hs 16)) (hvLn (hGet hs 17)) (hvLn (hGet hs 18)) (hvLn (hGet hs 19)) big (hvI (hGet hs 2)) (hvLn (hGet hs 20))) (zqj (hvN (hGet hs 0)) (hvI (hGet hs 1)) (hvLn (hGet hs 3)) (hvLn (hGet hs 4)) (hvLn (hGet hs 5)) (hvLn (hGet hs 6)) (hvI (hGet hs 7)) (hvN (hGet hs 8)) (hvN (hGet hs 9)) (hvN (hGet hs 10)) (hvN (hGet hs 11)) (hvN (hGet hs 12)) (hvN (hGet hs 13)) (hvI (hGet hs 14)) (hvN (hGet hs 15)) (hvN (hGet hs 16)) (hvLn (hGet hs 17)) (hvLn (hGet hs 18)) (hvLn (hGet hs 19)) (z53 (hvN (hGet hs 0)) (hvI (hGet hs 1)) (hvN (hGet hs 13)) big (hvI (hGet hs 2)) (hvLn (hGet hs 20))) h1)⟩)
noncomputable def tb11 : List (Nat × (List PT → Option (Bool × AV × List Blk))) := [(125, z2f), (128, z0v), (134, z1i), (137, z2g), (18, z2p), (44, z2n), (48, z27), (54, z3f), (61, z2m), (63, z4f), (64, z42), (66, z43), (80, z28), (97, z3e), (104, z0s), (115, z01), (14, z34), (67, z1x), (92, z46), (103, z3j), (105, z35), (111, z3w), (114, z3k), (118, z1y), (122, z19), (37, z3y), (52, z2j), (72, z1o), (79, z1r), (93, z3a), (119, z2k), (16, z3g), (36, z2d), (57, z32), (86, z31), (19, z3p), (33, z3n), (39, z48), (62, z4q), (69, z37), (99, z0f), (99, z0a), (30, z4b), (99, z0j), (117, z0e), (117, z0h), (117, z08), (91, z4u), (95, z41), (96, z49), (112, z3i), (53, z3t)]
noncomputable def lt11 : List ((Nat × Nat) × (Nat → St → Option (Bool × LO))) := [((52, 3), z1e), ((72, 2), z10), ((79, 2), z11), ((57, 4), z1j), ((86, 3), z1k), ((62, 5), z3x), ((69, 4), z1u), ((99, 2), z05), ((99, 2), z03), ((99, 2), z0b), ((91, 6), z4a), ((53, 5), z2h), ((41, 5), z3r)]
noncomputable def Γ11 : Ctx := ⟨tyTab, fnTab, tblSum tb11, tblLp lt11⟩
theorem tb11_ok : SumL Try.prog tb11 := SumL.cons z1g (SumL.cons z0l (SumL.cons z14 (SumL.cons z1h (SumL.cons z1s (SumL.cons z1p (SumL.cons z1f (SumL.cons z24 (SumL.cons z1q (SumL.cons z3s (SumL.cons z39 (SumL.cons z38 (SumL.cons z1d (SumL.cons z25 (SumL.cons z0k (SumL.cons z00 (SumL.cons z20 (SumL.cons z1b (SumL.cons z3h (SumL.cons z2c (SumL.cons z1z (SumL.cons z30 (SumL.cons z2b (SumL.cons z1c (SumL.cons z0y (SumL.cons z36 (SumL.cons z1v (SumL.cons z17 (SumL.cons z18 (SumL.cons z26 (SumL.cons z1t (SumL.cons z2e (SumL.cons z1l (SumL.cons z22 (SumL.cons z21 (SumL.cons z2q (SumL.cons z2o (SumL.cons z3o (SumL.cons z47 (SumL.cons z29 (SumL.cons z0d (SumL.cons z09 (SumL.cons z3u (SumL.cons z0i (SumL.cons z0c (SumL.cons z0g (SumL.cons z06 (SumL.cons z4h (SumL.cons z3m (SumL.cons z3v (SumL.cons z2l (SumL.cons z3d (SumL.nil))))))))))))))))))))))))))))))))))))))))))))))))))))
theorem lt11_ok : LpL Try.prog fnTab lt11 := LpL.cons z0z (LpL.cons z0r (LpL.cons z0q (LpL.cons z12 (LpL.cons z13 (LpL.cons z33 (LpL.cons z15 (LpL.cons z04 (LpL.cons z02 (LpL.cons z07 (LpL.cons z3q (LpL.cons z1w (LpL.cons z2y (LpL.nil)))))))))))))
noncomputable def z4e : List PT → Option (Bool × AV × List Blk)
  | [.agg [.row 1 q08 (.fl .f32 q0e), .row 1 q09 (.fl .f32 q0g), .row 1 q0a (.fl .f32 q0f), .row 3 q0h (.fl .f32 q0i), .s (.int .i64 q0n), .s (.flt .f32 q0s), .s (.flt .f32 q0r)], .one (.s (.flt .f32 by_))] => some ((zjq q08 q0e q09 q0g q0a q0f q0h q0i q0n q0s q0r by_), ((AV.tup [(TV.agg [(At.sl 0 0 (zgy q08 q0e q09 q0g q0a q0f q0h q0i q0n q0s q0r by_) 1), (At.sl 1 0 (zhr q08 q0e q09 q0g q0a q0f q0h q0i q0n q0s q0r by_) 1), (At.sl 2 0 (zgv q08 q0e q09 q0g q0a q0f q0h q0i q0n q0s q0r by_) 1), (At.sl 3 0 (zi6 q08 q0e q09 q0g q0a q0f q0h q0i q0n q0s q0r by_) 3), (At.int IntKind.i64 (zht q08 q0e q09 q0g q0a q0f q0h q0i q0n q0s q0r by_)), (At.flt FloatKind.f32 (zi7 q08 q0e q09 q0g q0a q0f q0h q0i q0n q0s q0r by_)), (At.flt FloatKind.f32 (zi2 q08 q0e q09 q0g q0a q0f q0h q0i q0n q0s q0r by_))]), (TV.one (At.bool (zhs q08 q0e q09 q0g q0a q0f q0h q0i q0n q0s q0r by_)))]), [(Blk.mk Bool.true (Body.fl FloatKind.f32 (zid q08 q0e q09 q0g q0a q0f q0h q0i q0n q0s q0r by_))), (Blk.mk Bool.true (Body.fl FloatKind.f32 (zhp q08 q0e q09 q0g q0a q0f q0h q0i q0n q0s q0r by_))), (Blk.mk Bool.true (Body.fl FloatKind.f32 (zft q08 q0e q09 q0g q0a q0f q0h q0i q0n q0s q0r by_))), (Blk.mk Bool.true (Body.fl FloatKind.f32 (zg0 q08 q0e q09 q0g q0a q0f q0h q0i q0n q0s q0r by_)))]))
  | _ => none
def zn8 (q08 : Nat) (q0e : List Nat) (q09 : Nat) (q0g : List Nat) (q0a : Nat) (q0f : List Nat) (q0h : Nat) (q0i : List Nat) (q0n : Int) (q0s : Nat) (q0r : Nat) (by_ : Nat) : Option (Nat × Nat × Nat × Nat × Int × Nat × Nat × Bool × (List Nat) × (List Nat) × (List Nat) × (List Nat)) → Option (AV × List Blk)
  | some r => some ((AV.tup [(TV.agg [(At.sl 0 0 r.1 1), (At.sl 1 0 r.2.1 1), (At.sl 2 0 r.2.2.1 1), (At.sl 3 0 r.2.2.2.1 3), (At.int IntKind.i64 r.2.2.2.2.1), (At.flt FloatKind.f32 r.2.2.2.2.2.1), (At.flt FloatKind.f32 r.2.2.2.2.2.2.1)]), (TV.one (At.bool r.2.2.2.2.2.2.2.1))]), [(Blk.mk Bool.true (Body.fl FloatKind.f32 r.2.2.2.2.2.2.2.2.1)), (Blk.mk Bool.true (Body.fl FloatKind.f32 r.2.2.2.2.2.2.2.2.2.1)), (Blk.mk Bool.true (Body.fl FloatKind.f32 r.2.2.2.2.2.2.2.2.2.2.1)), (Blk.mk Bool.true (Body.fl FloatKind.f32 r.2.2.2.2.2.2.2.2.2.2.2))])
  | none => none
theorem zrs (q08 : Nat) (q0e : List Nat) (q09 : Nat) (q0g : List Nat) (q0a : Nat) (q0f : List Nat) (q0h : Nat) (q0i : List Nat) (q0n : Int) (q0s : Nat) (q0r : Nat) (by_ : Nat) : evFn Γ11 8 8 41 (impTs 0 [.agg [.row 1 q08 (.fl .f32 q0e), .row 1 q09 (.fl .f32 q0g), .row 1 q0a (.fl .f32 q0f), .row 3 q0h (.fl .f32 q0i), .s (.int .i64 q0n), .s (.flt .f32 q0s), .s (.flt .f32 q0r)], .one (.s (.flt .f32 by_))]).1 (impTs 0 [.agg [.row 1 q08 (.fl .f32 q0e), .row 1 q09 (.fl .f32 q0g), .row 1 q0a (.fl .f32 q0f), .row 3 q0h (.fl .f32 q0i), .s (.int .i64 q0n), .s (.flt .f32 q0s), .s (.flt .f32 q0r)], .one (.s (.flt .f32 by_))]).2 (expo (impTs 0 [.agg [.row 1 q08 (.fl .f32 q0e), .row 1 q09 (.fl .f32 q0g), .row 1 q0a (.fl .f32 q0f), .row 3 q0h (.fl .f32 q0i), .s (.int .i64 q0n), .s (.flt .f32 q0s), .s (.flt .f32 q0r)], .one (.s (.flt .f32 by_))]).2.length) = zde q08 q0e q09 q0g q0a q0f q0h q0i q0n q0s q0r by_ (fun c0_ c1_ c2_ c3_ c4_ c5_ c6_ c7_ c8_ c9_ c10_ c11_ => some ((AV.tup [(TV.agg [(At.sl 0 0 c0_ 1), (At.sl 1 0 c1_ 1), (At.sl 2 0 c2_ 1), (At.sl 3 0 c3_ 3), (At.int IntKind.i64 c4_), (At.flt FloatKind.f32 c5_), (At.flt FloatKind.f32 c6_)]), (TV.one (At.bool c7_))]), [(Blk.mk Bool.true (Body.fl FloatKind.f32 c8_)), (Blk.mk Bool.true (Body.fl FloatKind.f32 c9_)), (Blk.mk Bool.true (Body.fl FloatKind.f32 c10_)), (Blk.mk Bool.true (Body.fl FloatKind.f32 c11_))])) := by kernel_rfl
theorem z3z : SumOne Try.prog 41 z4e := sum_of (Γ := Γ11) (fuel := 8) (d := 8) tyTab_ok (FnL.ok fnTab_ok _ _) (LpL.ok lt11_ok) (SumL.ok tb11_ok _) mixed (by
  intro pts v news hp hc
  clear hc
  unfold z4e at hp
  split at hp
  · rename_i q08 q0e q09 q0g q0a q0f q0h q0i q0n q0s q0r by_
    exact Eq.trans (Eq.trans (zrs q08 q0e q09 q0g q0a q0f q0h q0i q0n q0s q0r by_) (zpk (zn8 q08 q0e q09 q0g q0a q0f q0h q0i q0n q0s q0r by_) rfl q08 q0e q09 q0g q0a q0f q0h q0i q0n q0s q0r by_ (fun c0_ c1_ c2_ c3_ c4_ c5_ c6_ c7_ c8_ c9_ c10_ c11_ => some (c0_, c1_, c2_, c3_, c4_, c5_, c6_, c7_, c8_, c9_, c10_, c11_)))) (fin_out (o := (zn8 q08 q0e q09 q0g q0a q0f q0h q0i q0n q0s q0r by_)) (x := z5f q08 q0e q09 q0g q0a q0f q0h q0i q0n q0s q0r by_) (d := default) (V := fun r => ((AV.tup [(TV.agg [(At.sl 0 0 r.1 1), (At.sl 1 0 r.2.1 1), (At.sl 2 0 r.2.2.1 1), (At.sl 3 0 r.2.2.2.1 3), (At.int IntKind.i64 r.2.2.2.2.1), (At.flt FloatKind.f32 r.2.2.2.2.2.1), (At.flt FloatKind.f32 r.2.2.2.2.2.2.1)]), (TV.one (At.bool r.2.2.2.2.2.2.2.1))]), [(Blk.mk Bool.true (Body.fl FloatKind.f32 r.2.2.2.2.2.2.2.2.1)), (Blk.mk Bool.true (Body.fl FloatKind.f32 r.2.2.2.2.2.2.2.2.2.1)), (Blk.mk Bool.true (Body.fl FloatKind.f32 r.2.2.2.2.2.2.2.2.2.2.1)), (Blk.mk Bool.true (Body.fl FloatKind.f32 r.2.2.2.2.2.2.2.2.2.2.2))])) (fun r => rfl) hp)
  · cases hp)
noncomputable def tb12 : List (Nat × (List PT → Option (Bool × AV × List Blk))) := [(125, z2f), (128, z0v), (134, z1i), (137, z2g), (18, z2p), (44, z2n), (48, z27), (54, z3f), (61, z2m), (63, z4f), (64, z42), (66, z43), (80, z28), (97, z3e), (104, z0s), (115, z01), (14, z34), (67, z1x), (92, z46), (103, z3j), (105, z35), (111, z3w), (114, z3k), (118, z1y), (122, z19), (37, z3y), (52, z2j), (72, z1o), (79, z1r), (93, z3a), (119, z2k), (16, z3g), (36, z2d), (57, z32), (86, z31), (19, z3p), (33, z3n), (39, z48), (62, z4q), (69, z37), (99, z0f), (99, z0a), (30, z4b), (99, z0j), (117, z0e), (117, z0h), (117, z08), (91, z4u), (95, z41), (96, z49), (112, z3i), (53, z3t), (41, z4e)]
noncomputable def lt12 : List ((Nat × Nat) × (Nat → St → Option (Bool × LO))) := [((52, 3), z1e), ((72, 2), z10), ((79, 2), z11), ((57, 4), z1j), ((86, 3), z1k), ((62, 5), z3x), ((69, 4), z1u), ((99, 2), z05), ((99, 2), z03), ((99, 2), z0b), ((91, 6), z4a), ((53, 5), z2h), ((41, 5), z3r)]
noncomputable def Γ12 : Ctx := ⟨tyTab, fnTab, tblSum tb12, tblLp lt12⟩
theorem tb12_ok : SumL Try.prog tb12 := SumL.cons z1g (SumL.cons z0l (SumL.cons z14 (SumL.cons z1h (SumL.cons z1s (SumL.cons z1p (SumL.cons z1f (SumL.cons z24 (SumL.cons z1q (SumL.cons z3s (SumL.cons z39 (SumL.cons z38 (SumL.cons z1d (SumL.cons z25 (SumL.cons z0k (SumL.cons z00 (SumL.cons z20 (SumL.cons z1b (SumL.cons z3h (SumL.cons z2c (SumL.cons z1z (SumL.cons z30 (SumL.cons z2b (SumL.cons z1c (SumL.cons z0y (SumL.cons z36 (SumL.cons z1v (SumL.cons z17 (SumL.cons z18 (SumL.cons z26 (SumL.cons z1t (SumL.cons z2e (SumL.cons z1l (SumL.cons z22 (SumL.cons z21 (SumL.cons z2q (SumL.cons z2o (SumL.cons z3o (SumL.cons z47 (SumL.cons z29 (SumL.cons z0d (SumL.cons z09 (SumL.cons z3u (SumL.cons z0i (SumL.cons z0c (SumL.cons z0g (SumL.cons z06 (SumL.cons z4h (SumL.cons z3m (SumL.cons z3v (SumL.cons z2l (SumL.cons z3d (SumL.cons z3z (SumL.nil)))))))))))))))))))))))))))))))))))))))))))))))))))))
theorem lt12_ok : LpL Try.prog fnTab lt12 := LpL.cons z0z (LpL.cons z0r (LpL.cons z0q (LpL.cons z12 (LpL.cons z13 (LpL.cons z33 (LpL.cons z15 (LpL.cons z04 (LpL.cons z02 (LpL.cons z07 (LpL.cons z3q (LpL.cons z1w (LpL.cons z2y (LpL.nil)))))))))))))
noncomputable def zm6 (t4 : Nat) (q36 : Nat) (t44 : Int) (t45 : Int) (b0 : List Nat) (b1 : List Nat) (b2 : List Nat) (b3 : List Nat) (q1a : Nat) (q19 : Nat) (q18 : Nat) (q11 : Nat) (q1g : Int) (q1h : Nat) (q0y : Nat) : Bool × LO := ((z9h q36 t44 b3 q0y t4 t45), (LO.two (z98 q36 t44 b3 q0y t4 t45) (LO.one Ex.ret (St.mk [(2, (AV.v (TV.one (At.bool Bool.false))))] [(Blk.mk Bool.false (Body.fl FloatKind.f32 b0)), (Blk.mk Bool.false (Body.fl FloatKind.f32 b1)), (Blk.mk Bool.false (Body.fl FloatKind.f32 b2)), (Blk.mk Bool.false (Body.fl FloatKind.f32 b3))])) (LO.one (Ex.exit 0) (St.mk [(1, (AV.v (TV.one (At.ptr 4 0 7)))), (4, (AV.v (TV.one (At.flt FloatKind.f32 (zg9 q36 t44 b3 q0y t4 t45))))), (43, (AV.v (TV.one (At.vw 3 0 q36 3)))), (44, (AV.v (TV.one (At.int IntKind.i64 t44)))), (45, (AV.v (TV.one (At.int IntKind.i64 (zgo q36 t44 b3 q0y t4 t45))))), (46, (AV.v (TV.one (At.bool (zgk q36 t44 b3 q0y t4 t45)))))] [(Blk.mk Bool.false (Body.fl FloatKind.f32 b0)), (Blk.mk Bool.false (Body.fl FloatKind.f32 b1)), (Blk.mk Bool.false (Body.fl FloatKind.f32 b2)), (Blk.mk Bool.false (Body.fl FloatKind.f32 b3)), (Blk.mk Bool.true (Body.cells [(At.vw 0 0 q1a 1), (At.vw 1 0 q19 1), (At.vw 2 0 q18 1), (At.vw 3 0 q11 3), (At.int IntKind.i64 q1g), (At.flt FloatKind.f32 q1h), (At.flt FloatKind.f32 q0y)]))]))))
noncomputable def z40 : Nat → St → Option (Bool × LO) := lpT 4 (pSt [(pTm 1 (pV (pOne (pPtr 4 (liN 0) 7)))), (pTm 4 (pV (pOne (pFlt FloatKind.f32)))), (pTm 43 (pV (pOne (pVw 3 (liN 0) 3)))), (pTm 44 (pV (pOne (pInt IntKind.i64)))), (pTm 45 (pV (pOne (pInt IntKind.i64))))] [(pBlk Bool.false (pFl FloatKind.f32)), (pBlk Bool.false (pFl FloatKind.f32)), (pBlk Bool.false (pFl FloatKind.f32)), (pBlk Bool.false (pFl FloatKind.f32)), (pBlk Bool.true (pCells [(pVw 0 (liN 0) 1), (pVw 1 (liN 0) 1), (pVw 2 (liN 0) 1), (pVw 3 (liN 0) 3), (pInt IntKind.i64), (pFlt FloatKind.f32), (pFlt FloatKind.f32)]))]) (fun hs => zm6 (hvN (hGet hs 0)) (hvN (hGet hs 1)) (hvI (hGet hs 2)) (hvI (hGet hs 3)) (hvLn (hGet hs 4)) (hvLn (hGet hs 5)) (hvLn (hGet hs 6)) (hvLn (hGet hs 7)) (hvN (hGet hs 8)) (hvN (hGet hs 9)) (hvN (hGet hs 10)) (hvN (hGet hs 11)) (hvI (hGet hs 12)) (hvN (hGet hs 13)) (hvN (hGet hs 14)))
def zcq (q36 : Nat) (t44 : Int) (b0 : List Nat) (b1 : List Nat) (b2 : List Nat) (b3 : List Nat) (q1a : Nat) (q19 : Nat) (q18 : Nat) (q11 : Nat) (q1g : Int) (q1h : Nat) (q0y : Nat) : Option ((Unit) ⊕ (Nat × Int × Bool)) → Option (Ex × St)
  | none => none
  | some (Sum.inl r) => some (Ex.ret, (St.mk [(2, (AV.v (TV.one (At.bool Bool.false))))] [(Blk.mk Bool.false (Body.fl FloatKind.f32 b0)), (Blk.mk Bool.false (Body.fl FloatKind.f32 b1)), (Blk.mk Bool.false (Body.fl FloatKind.f32 b2)), (Blk.mk Bool.false (Body.fl FloatKind.f32 b3))]))
  | some (Sum.inr r) => some ((Ex.exit 0), (St.mk [(1, (AV.v (TV.one (At.ptr 4 0 7)))), (4, (AV.v (TV.one (At.flt FloatKind.f32 r.1)))), (43, (AV.v (TV.one (At.vw 3 0 q36 3)))), (44, (AV.v (TV.one (At.int IntKind.i64 t44)))), (45, (AV.v (TV.one (At.int IntKind.i64 r.2.1)))), (46, (AV.v (TV.one (At.bool r.2.2))))] [(Blk.mk Bool.false (Body.fl FloatKind.f32 b0)), (Blk.mk Bool.false (Body.fl FloatKind.f32 b1)), (Blk.mk Bool.false (Body.fl FloatKind.f32 b2)), (Blk.mk Bool.false (Body.fl FloatKind.f32 b3)), (Blk.mk Bool.true (Body.cells [(At.vw 0 0 q1a 1), (At.vw 1 0 q19 1), (At.vw 2 0 q18 1), (At.vw 3 0 q11 3), (At.int IntKind.i64 q1g), (At.flt FloatKind.f32 q1h), (At.flt FloatKind.f32 q0y)]))]))
end Go.Proofs.Ytihlcjjbenkokaa
