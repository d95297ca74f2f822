/-
  What functions answer: that the evaluator answers so. Printed by a program.
-/
import Derived.Test.YtihlcjjbenkokaaSetStationC
set_option linter.unusedVariables false
set_option linter.unusedSimpArgs false
set_option maxRecDepth 100000
set_option maxHeartbeats 4000000
namespace Go.Proofs.Ytihlcjjbenkokaa
open Go Go.Rf
def z2j : List PT → Option (Bool × AV × List Blk)
  | [.one (.s (.flt .f64 x))] => some (bnot (nanQ .f64 x), A1 (.flt .f64 (fint .down x)), [])
  | _ => none
theorem z1k : SumOne Try.prog 125 z2j := by
  intro pts v news hp w vals hv
  unfold z2j at hp
  split at hp
  · rename_i x
    injection hp with hp
    injection hp with h1 hp
    injection hp with h2 h3
    subst h2
    subst h3
    obtain ⟨l, hl⟩ : ∃ l, l = vals.toList := ⟨_, rfl⟩
    rw [← hl] at hv
    cases hv with
    | cons a1 a2 =>
      cases a2
      obtain ⟨b, hb1, hb2, hb3⟩ := a1
      subst hb1
      rename_i hx
      have hvals : vals = #[.float .f64 b] := by rw [← Array.toList_inj, ← hl]
      subst hvals
      have hn : nanB .f64 b = false := by rw [← nanB_cn, hb3]; simpa [bnot, nanQ] using h1
      rw [cn_of_not hn] at hb3
      subst hb3
      refine .inl ⟨_, w, by (simp only [callFunc, Sem.run_bind, run_program, Result.andThen_ok, Try.func125]; change (do let v ← Extern.MathFloor.toIntegral "math.archFloor" .down #[.float .f64 b]; pure (.value v) : Sem Next).run Try.prog w = _; rw [Sem.run_bind, run_fint hn]; rfl), NoB, ⟨⟨(fun t b' h => by cases t <;> cases h), (fun t t' b1 b2 x x' _ h => by cases t <;> cases h)⟩, (fun t x h => by cases h), Fr.refl _ w⟩, fint_rel hn⟩
  · cases hp
def z0y : List PT → Option (Bool × AV × List Blk)
  | [.one (.s (.int .u64 x))] => some (okU .f64 x, A1 (.flt .f64 (cnI .f64 x)), [])
  | _ => none
theorem z0l : SumOne Try.prog 128 z0y := by
  intro pts v news hp w vals hv
  unfold z0y at hp
  split at hp
  · rename_i x
    injection hp with hp
    injection hp with h1 hp
    injection hp with h2 h3
    subst h2
    subst h3
    obtain ⟨l, hl⟩ : ∃ l, l = vals.toList := ⟨_, rfl⟩
    rw [← hl] at hv
    cases hv with
    | cons a1 a2 =>
      cases a2
      have hb1 : _ = Value.int .u64 x := a1
      subst hb1
      rename_i hx
      have hvals : vals = #[.int .u64 x] := by rw [← Array.toList_inj, ← hl]
      subst hvals
      have hw := okU_lt h1
      refine .inl ⟨_, w, by (simp only [callFunc, Sem.run_bind, run_program, Result.andThen_ok, Try.func128]; rfl), NoB, ⟨⟨(fun t b' h => by cases t <;> cases h), (fun t t' b1 b2 x x' _ h => by cases t <;> cases h)⟩, (fun t x h => by cases h), Fr.refl _ w⟩, ⟨_, rfl, hw, rfl⟩⟩
  · cases hp
def z1m : List PT → Option (Bool × AV × List Blk)
  | [.one (.s (.flt .f64 x))] => some (bnot (nanQ .f64 x), A1 (.int .u64 x), [])
  | _ => none
theorem z19 : SumOne Try.prog 134 z1m := by
  intro pts v news hp w vals hv
  unfold z1m at hp
  split at hp
  · rename_i x
    injection hp with hp
    injection hp with h1 hp
    injection hp with h2 h3
    subst h2
    subst h3
    obtain ⟨l, hl⟩ : ∃ l, l = vals.toList := ⟨_, rfl⟩
    rw [← hl] at hv
    cases hv with
    | cons a1 a2 =>
      cases a2
      obtain ⟨b, hb1, hb2, hb3⟩ := a1
      subst hb1
      rename_i hx
      have hvals : vals = #[.float .f64 b] := by rw [← Array.toList_inj, ← hl]
      subst hvals
      have hn : nanB .f64 b = false := by rw [← nanB_cn, hb3]; simpa [bnot, nanQ] using h1
      rw [cn_of_not hn] at hb3
      subst hb3
      refine .inl ⟨_, w, by (simp only [callFunc, Sem.run_bind, run_program, Result.andThen_ok, Try.func134]; rfl), NoB, ⟨⟨(fun t b' h => by cases t <;> cases h), (fun t t' b1 b2 x x' _ h => by cases t <;> cases h)⟩, (fun t x h => by cases h), Fr.refl _ w⟩, rfl⟩
  · cases hp
def z2k : List PT → Option (Bool × AV × List Blk)
  | [.one (.s (.flt .f64 x))] => some (bnot (nanQ .f64 x), A1 (.flt .f64 (fint .zero x)), [])
  | _ => none
theorem z1l : SumOne Try.prog 137 z2k := by
  intro pts v news hp w vals hv
  unfold z2k at hp
  split at hp
  · rename_i x
    injection hp with hp
    injection hp with h1 hp
    injection hp with h2 h3
    subst h2
    subst h3
    obtain ⟨l, hl⟩ : ∃ l, l = vals.toList := ⟨_, rfl⟩
    rw [← hl] at hv
    cases hv with
    | cons a1 a2 =>
      cases a2
      obtain ⟨b, hb1, hb2, hb3⟩ := a1
      subst hb1
      rename_i hx
      have hvals : vals = #[.float .f64 b] := by rw [← Array.toList_inj, ← hl]
      subst hvals
      have hn : nanB .f64 b = false := by rw [← nanB_cn, hb3]; simpa [bnot, nanQ] using h1
      rw [cn_of_not hn] at hb3
      subst hb3
      refine .inl ⟨_, w, by (simp only [callFunc, Sem.run_bind, run_program, Result.andThen_ok, Try.func137]; change (do let v ← Extern.MathFloor.toIntegral "math.archTrunc" .zero #[.float .f64 b]; pure (.value v) : Sem Next).run Try.prog w = _; rw [Sem.run_bind, run_fint hn]; rfl), NoB, ⟨⟨(fun t b' h => by cases t <;> cases h), (fun t t' b1 b2 x x' _ h => by cases t <;> cases h)⟩, (fun t x h => by cases h), Fr.refl _ w⟩, fint_rel hn⟩
  · cases hp
noncomputable def tb0 : List (Nat × (List PT → Option (Bool × AV × List Blk))) := [(125, z2j), (128, z0y), (134, z1m), (137, z2k)]
noncomputable def lt0 : List ((Nat × Nat) × (Nat → St → Option (Bool × LO))) := []
noncomputable def Γ0 : Ctx := ⟨tyTab, fnTab, tblSum tb0, tblLp lt0⟩
theorem tb0_ok : SumL Try.prog tb0 := SumL.cons z1k (SumL.cons z0l (SumL.cons z19 (SumL.cons z1l (SumL.nil))))
theorem lt0_ok : LpL Try.prog fnTab lt0 := LpL.nil
noncomputable def z2s : List PT → Option (Bool × AV × List Blk)
  | [.one (.s (.flt .f64 a)), .one (.s (.flt .f64 b))] => some ((z9c a b), ((AV.v (TV.one (At.bool (z92 a b)))), []))
  | _ => none
def znj (a : Nat) (b : Nat) : Option (Bool) → Option (AV × List Blk)
  | some r => some ((AV.v (TV.one (At.bool r))), [])
  | none => none
theorem zsd (a : Nat) (b : Nat) : evFn Γ0 8 8 18 (impTs 0 [.one (.s (.flt .f64 a)), .one (.s (.flt .f64 b))]).1 (impTs 0 [.one (.s (.flt .f64 a)), .one (.s (.flt .f64 b))]).2 (expo (impTs 0 [.one (.s (.flt .f64 a)), .one (.s (.flt .f64 b))]).2.length) = zdq a b (fun c0_ => some ((AV.v (TV.one (At.bool c0_))), [])) := by kernel_rfl
theorem z1t : SumOne Try.prog 18 z2s := sum_of (Γ := Γ0) (fuel := 8) (d := 8) tyTab_ok (FnL.ok fnTab_ok _ _) (LpL.ok lt0_ok) (SumL.ok tb0_ok _) mixed (by
  intro pts v news hp hc
  clear hc
  unfold z2s at hp
  split at hp
  · rename_i a b
    exact Eq.trans (Eq.trans (zsd a b) (zpn (znj a b) rfl a b (fun c0_ => some c0_))) (fin_out (o := (znj a b)) (x := zdy a b) (d := default) (V := fun r => ((AV.v (TV.one (At.bool r))), [])) (fun r => rfl) hp)
  · cases hp)
noncomputable def z2q : List PT → Option (Bool × AV × List Blk)
  | [.agg [.s (.flt .f32 q2q), .s (.flt .f32 q2x), .s (.flt .f32 q2y)]] => some ((zdw q2q q2x q2y), ((AV.v (TV.agg [(At.flt FloatKind.f32 q2q), (At.flt FloatKind.f32 q2x), (At.flt FloatKind.f32 q2y)])), []))
  | _ => none
def znk (q2q : Nat) (q2x : Nat) (q2y : Nat) : Option (Unit) → Option (AV × List Blk)
  | some r => some ((AV.v (TV.agg [(At.flt FloatKind.f32 q2q), (At.flt FloatKind.f32 q2x), (At.flt FloatKind.f32 q2y)])), [])
  | none => none
theorem zs4 (q2q : Nat) (q2x : Nat) (q2y : Nat) : evFn Γ0 8 8 44 (impTs 0 [.agg [.s (.flt .f32 q2q), .s (.flt .f32 q2x), .s (.flt .f32 q2y)]]).1 (impTs 0 [.agg [.s (.flt .f32 q2q), .s (.flt .f32 q2x), .s (.flt .f32 q2y)]]).2 (expo (impTs 0 [.agg [.s (.flt .f32 q2q), .s (.flt .f32 q2x), .s (.flt .f32 q2y)]]).2.length) = zfe q2q q2x q2y (fun _ => some ((AV.v (TV.agg [(At.flt FloatKind.f32 q2q), (At.flt FloatKind.f32 q2x), (At.flt FloatKind.f32 q2y)])), [])) := by kernel_rfl
theorem z1u : SumOne Try.prog 44 z2q := sum_of (Γ := Γ0) (fuel := 8) (d := 8) tyTab_ok (FnL.ok fnTab_ok _ _) (LpL.ok lt0_ok) (SumL.ok tb0_ok _) mixed (by
  intro pts v news hp hc
  clear hc
  unfold z2q at hp
  split at hp
  · rename_i q2q q2x q2y
    exact Eq.trans (Eq.trans (zs4 q2q q2x q2y) (zpy (znk q2q q2x q2y) rfl q2q q2x q2y (fun _ => some ()))) (fin_out (o := (znk q2q q2x q2y)) (x := znu q2q q2x q2y) (d := default) (V := fun r => ((AV.v (TV.agg [(At.flt FloatKind.f32 q2q), (At.flt FloatKind.f32 q2x), (At.flt FloatKind.f32 q2y)])), [])) (fun r => rfl) hp)
  · cases hp)
noncomputable def z2a : List PT → Option (Bool × AV × List Blk)
  | [.one (.row 1 a_n (.fl .f32 a)), .one (.s (.int .i64 q2l))] => some ((zd7 a_n a q2l), ((AV.v (TV.one (At.int IntKind.i64 (z5m a_n a q2l)))), []))
  | _ => none
def zn6 (a_n : Nat) (a : List Nat) (q2l : Int) : Option (Int) → Option (AV × List Blk)
  | some r => some ((AV.v (TV.one (At.int IntKind.i64 r))), [])
  | none => none
theorem zrd (a_n : Nat) (a : List Nat) (q2l : Int) : evFn Γ0 8 8 48 (impTs 0 [.one (.row 1 a_n (.fl .f32 a)), .one (.s (.int .i64 q2l))]).1 (impTs 0 [.one (.row 1 a_n (.fl .f32 a)), .one (.s (.int .i64 q2l))]).2 (expo (impTs 0 [.one (.row 1 a_n (.fl .f32 a)), .one (.s (.int .i64 q2l))]).2.length) = zdh a_n a q2l (fun c0_ => some ((AV.v (TV.one (At.int IntKind.i64 c0_))), [])) := by kernel_rfl
theorem z1i : SumOne Try.prog 48 z2a := sum_of (Γ := Γ0) (fuel := 8) (d := 8) tyTab_ok (FnL.ok fnTab_ok _ _) (LpL.ok lt0_ok) (SumL.ok tb0_ok _) mixed (by
  intro pts v news hp hc
  clear hc
  unfold z2a at hp
  split at hp
  · rename_i a_n a q2l
    exact Eq.trans (Eq.trans (zrd a_n a q2l) (zph (zn6 a_n a q2l) rfl a_n a q2l (fun c0_ => some c0_))) (fin_out (o := (zn6 a_n a q2l)) (x := zcz a_n a q2l) (d := default) (V := fun r => ((AV.v (TV.one (At.int IntKind.i64 r))), [])) (fun r => rfl) hp)
  · cases hp)
noncomputable def z3i : List PT → Option (Bool × AV × List Blk)
  | [.one (.s (.flt .f32 x))] => some ((z9x x), ((AV.v (TV.one (At.bool (z9e x)))), []))
  | _ => none
def zob (x : Nat) : Option (Bool) → Option (AV × List Blk)
  | some r => some ((AV.v (TV.one (At.bool r))), [])
  | none => none
theorem zsn (x : Nat) : evFn Γ0 8 8 54 (impTs 0 [.one (.s (.flt .f32 x))]).1 (impTs 0 [.one (.s (.flt .f32 x))]).2 (expo (impTs 0 [.one (.s (.flt .f32 x))]).2.length) = zh0 x (fun c0_ => some ((AV.v (TV.one (At.bool c0_))), [])) := by kernel_rfl
theorem z29 : SumOne Try.prog 54 z3i := sum_of (Γ := Γ0) (fuel := 8) (d := 8) tyTab_ok (FnL.ok fnTab_ok _ _) (LpL.ok lt0_ok) (SumL.ok tb0_ok _) mixed (by
  intro pts v news hp hc
  clear hc
  unfold z3i at hp
  split at hp
  · rename_i x
    exact Eq.trans (Eq.trans (zsn x) (zqg (zob x) rfl x (fun c0_ => some c0_))) (fin_out (o := (zob x)) (x := zhd x) (d := default) (V := fun r => ((AV.v (TV.one (At.bool r))), [])) (fun r => rfl) hp)
  · cases hp)
noncomputable def z2t : List PT → Option (Bool × AV × List Blk)
  | [.one (.s (.flt .f32 x))] => some ((z7y x), ((AV.v (TV.one (At.bool (z7n x)))), []))
  | _ => none
def znm (x : Nat) : Option (Bool) → Option (AV × List Blk)
  | some r => some ((AV.v (TV.one (At.bool r))), [])
  | none => none
theorem zry (x : Nat) : evFn Γ0 8 8 61 (impTs 0 [.one (.s (.flt .f32 x))]).1 (impTs 0 [.one (.s (.flt .f32 x))]).2 (expo (impTs 0 [.one (.s (.flt .f32 x))]).2.length) = zfg x (fun c0_ => some ((AV.v (TV.one (At.bool c0_))), [])) := by kernel_rfl
theorem z1w : SumOne Try.prog 61 z2t := sum_of (Γ := Γ0) (fuel := 8) (d := 8) tyTab_ok (FnL.ok fnTab_ok _ _) (LpL.ok lt0_ok) (SumL.ok tb0_ok _) mixed (by
  intro pts v news hp hc
  clear hc
  unfold z2t at hp
  split at hp
  · rename_i x
    exact Eq.trans (Eq.trans (zry x) (zq8 (znm x) rfl x (fun c0_ => some c0_))) (fin_out (o := (znm x)) (x := zfd x) (d := default) (V := fun r => ((AV.v (TV.one (At.bool r))), [])) (fun r => rfl) hp)
  · cases hp)
noncomputable def z4i : List PT → Option (Bool × AV × List Blk)
  | [.one (.s (.int .i64 n_)), .one (.s (.int .i64 low)), .one (.s (.int .i64 q34))] => some ((zll n_ low q34), ((AV.v (TV.one (At.bool (zl4 n_ low q34)))), []))
  | _ => none
def zr8 (n_ : Int) (low : Int) (q34 : Int) : Option (Bool) → Option (AV × List Blk)
  | some r => some ((AV.v (TV.one (At.bool r))), [])
  | none => none
theorem zt4 (n_ : Int) (low : Int) (q34 : Int) : evFn Γ0 8 8 63 (impTs 0 [.one (.s (.int .i64 n_)), .one (.s (.int .i64 low)), .one (.s (.int .i64 q34))]).1 (impTs 0 [.one (.s (.int .i64 n_)), .one (.s (.int .i64 low)), .one (.s (.int .i64 q34))]).2 (expo (impTs 0 [.one (.s (.int .i64 n_)), .one (.s (.int .i64 low)), .one (.s (.int .i64 q34))]).2.length) = zkb n_ low q34 (fun c0_ => some ((AV.v (TV.one (At.bool c0_))), [])) := by kernel_rfl
theorem z3u : SumOne Try.prog 63 z4i := sum_of (Γ := Γ0) (fuel := 8) (d := 8) tyTab_ok (FnL.ok fnTab_ok _ _) (LpL.ok lt0_ok) (SumL.ok tb0_ok _) mixed (by
  intro pts v news hp hc
  clear hc
  unfold z4i at hp
  split at hp
  · rename_i n_ low q34
    exact Eq.trans (Eq.trans (zt4 n_ low q34) (zs7 (zr8 n_ low q34) rfl n_ low q34 (fun c0_ => some c0_))) (fin_out (o := (zr8 n_ low q34)) (x := zk5 n_ low q34) (d := default) (V := fun r => ((AV.v (TV.one (At.bool r))), [])) (fun r => rfl) hp)
  · cases hp)
noncomputable def z49 : List PT → Option (Bool × AV × List Blk)
  | [.ptr [.row 1 q15 (.fl .f32 q1r), .row 1 q1h (.fl .f32 q29), .row 1 q1g (.fl .f32 q28)]] => some ((zm8 q15 q1r q1h q29 q1g q28), ((AV.v (TV.agg [(At.sl 0 0 (zm1 q15 q1r q1h q29 q1g q28) 1), (At.sl 1 0 (zly q15 q1r q1h q29 q1g q28) 1), (At.sl 2 0 (zm0 q15 q1r q1h q29 q1g q28) 1)])), [(Blk.mk Bool.true (Body.fl FloatKind.f32 (zlw q15 q1r q1h q29 q1g q28))), (Blk.mk Bool.true (Body.fl FloatKind.f32 (zlx q15 q1r q1h q29 q1g q28))), (Blk.mk Bool.true (Body.fl FloatKind.f32 (zlz q15 q1r q1h q29 q1g q28)))]))
  | _ => none
def zqb (q15 : Nat) (q1r : List Nat) (q1h : Nat) (q29 : List Nat) (q1g : Nat) (q28 : List Nat) : Option (Nat × Nat × Nat × (List Nat) × (List Nat) × (List Nat)) → Option (AV × List Blk)
  | some r => some ((AV.v (TV.agg [(At.sl 0 0 r.1 1), (At.sl 1 0 r.2.1 1), (At.sl 2 0 r.2.2.1 1)])), [(Blk.mk Bool.true (Body.fl FloatKind.f32 r.2.2.2.1)), (Blk.mk Bool.true (Body.fl FloatKind.f32 r.2.2.2.2.1)), (Blk.mk Bool.true (Body.fl FloatKind.f32 r.2.2.2.2.2))])
  | none => none
theorem zt0 (q15 : Nat) (q1r : List Nat) (q1h : Nat) (q29 : List Nat) (q1g : Nat) (q28 : List Nat) : evFn Γ0 8 8 64 (impTs 0 [.ptr [.row 1 q15 (.fl .f32 q1r), .row 1 q1h (.fl .f32 q29), .row 1 q1g (.fl .f32 q28)]]).1 (impTs 0 [.ptr [.row 1 q15 (.fl .f32 q1r), .row 1 q1h (.fl .f32 q29), .row 1 q1g (.fl .f32 q28)]]).2 (expo (impTs 0 [.ptr [.row 1 q15 (.fl .f32 q1r), .row 1 q1h (.fl .f32 q29), .row 1 q1g (.fl .f32 q28)]]).2.length) = zgl q15 q1r q1h q29 q1g q28 (fun c0_ c1_ c2_ c3_ c4_ c5_ => some ((AV.v (TV.agg [(At.sl 0 0 c0_ 1), (At.sl 1 0 c1_ 1), (At.sl 2 0 c2_ 1)])), [(Blk.mk Bool.true (Body.fl FloatKind.f32 c3_)), (Blk.mk Bool.true (Body.fl FloatKind.f32 c4_)), (Blk.mk Bool.true (Body.fl FloatKind.f32 c5_))])) := by kernel_rfl
theorem z3b : SumOne Try.prog 64 z49 := sum_of (Γ := Γ0) (fuel := 8) (d := 8) tyTab_ok (FnL.ok fnTab_ok _ _) (LpL.ok lt0_ok) (SumL.ok tb0_ok _) mixed (by
  intro pts v news hp hc
  clear hc
  unfold z49 at hp
  split at hp
  · rename_i q15 q1r q1h q29 q1g q28
    exact Eq.trans (Eq.trans (zt0 q15 q1r q1h q29 q1g q28) (zrh (zqb q15 q1r q1h q29 q1g q28) rfl q15 q1r q1h q29 q1g q28 (fun c0_ c1_ c2_ c3_ c4_ c5_ => some (c0_, c1_, c2_, c3_, c4_, c5_)))) (fin_out (o := (zqb q15 q1r q1h q29 q1g q28)) (x := z9k q15 q1r q1h q29 q1g q28) (d := default) (V := fun r => ((AV.v (TV.agg [(At.sl 0 0 r.1 1), (At.sl 1 0 r.2.1 1), (At.sl 2 0 r.2.2.1 1)])), [(Blk.mk Bool.true (Body.fl FloatKind.f32 r.2.2.2.1)), (Blk.mk Bool.true (Body.fl FloatKind.f32 r.2.2.2.2.1)), (Blk.mk Bool.true (Body.fl FloatKind.f32 r.2.2.2.2.2))])) (fun r => rfl) hp)
  · cases hp)
noncomputable def z48 : List PT → Option (Bool × AV × List Blk)
  | [.one (.s (.int .i64 n_)), .one (.s (.int .i64 low)), .one (.s (.int .i64 q34))] => some ((zl6 n_ low q34), ((AV.v (TV.one (At.bool (zjv n_ low q34)))), []))
  | _ => none
def zqa (n_ : Int) (low : Int) (q34 : Int) : Option (Bool) → Option (AV × List Blk)
  | some r => some ((AV.v (TV.one (At.bool r))), [])
  | none => none
theorem zt2 (n_ : Int) (low : Int) (q34 : Int) : evFn Γ0 8 8 66 (impTs 0 [.one (.s (.int .i64 n_)), .one (.s (.int .i64 low)), .one (.s (.int .i64 q34))]).1 (impTs 0 [.one (.s (.int .i64 n_)), .one (.s (.int .i64 low)), .one (.s (.int .i64 q34))]).2 (expo (impTs 0 [.one (.s (.int .i64 n_)), .one (.s (.int .i64 low)), .one (.s (.int .i64 q34))]).2.length) = zgn n_ low q34 (fun c0_ => some ((AV.v (TV.one (At.bool c0_))), [])) := by kernel_rfl
theorem z39 : SumOne Try.prog 66 z48 := sum_of (Γ := Γ0) (fuel := 8) (d := 8) tyTab_ok (FnL.ok fnTab_ok _ _) (LpL.ok lt0_ok) (SumL.ok tb0_ok _) mixed (by
  intro pts v news hp hc
  clear hc
  unfold z48 at hp
  split at hp
  · rename_i n_ low q34
    exact Eq.trans (Eq.trans (zt2 n_ low q34) (zrw (zqa n_ low q34) rfl n_ low q34 (fun c0_ => some c0_))) (fin_out (o := (zqa n_ low q34)) (x := zgo n_ low q34) (d := default) (V := fun r => ((AV.v (TV.one (At.bool r))), [])) (fun r => rfl) hp)
  · cases hp)
noncomputable def z2b : List PT → Option (Bool × AV × List Blk)
  | [.one (.row 3 a_n (.fl .f32 a)), .one (.s (.int .i64 q2l))] => some ((zjc a_n a q2l), ((AV.v (TV.one (At.int IntKind.i64 (ze8 a_n a q2l)))), []))
  | _ => none
def zn1 (a_n : Nat) (a : List Nat) (q2l : Int) : Option (Int) → Option (AV × List Blk)
  | some r => some ((AV.v (TV.one (At.int IntKind.i64 r))), [])
  | none => none
theorem zrg (a_n : Nat) (a : List Nat) (q2l : Int) : evFn Γ0 8 8 80 (impTs 0 [.one (.row 3 a_n (.fl .f32 a)), .one (.s (.int .i64 q2l))]).1 (impTs 0 [.one (.row 3 a_n (.fl .f32 a)), .one (.s (.int .i64 q2l))]).2 (expo (impTs 0 [.one (.row 3 a_n (.fl .f32 a)), .one (.s (.int .i64 q2l))]).2.length) = zd5 a_n a q2l (fun c0_ => some ((AV.v (TV.one (At.int IntKind.i64 c0_))), [])) := by kernel_rfl
theorem z1j : SumOne Try.prog 80 z2b := sum_of (Γ := Γ0) (fuel := 8) (d := 8) tyTab_ok (FnL.ok fnTab_ok _ _) (LpL.ok lt0_ok) (SumL.ok tb0_ok _) mixed (by
  intro pts v news hp hc
  clear hc
  unfold z2b at hp
  split at hp
  · rename_i a_n a q2l
    exact Eq.trans (Eq.trans (zrg a_n a q2l) (zoy (zn1 a_n a q2l) rfl a_n a q2l (fun c0_ => some c0_))) (fin_out (o := (zn1 a_n a q2l)) (x := zde a_n a q2l) (d := default) (V := fun r => ((AV.v (TV.one (At.int IntKind.i64 r))), [])) (fun r => rfl) hp)
  · cases hp)
noncomputable def z3h : List PT → Option (Bool × AV × List Blk)
  | [.one (.s (.flt .f32 x)), .one (.s (.flt .f32 low)), .one (.s (.flt .f32 q34))] => some ((zle x low q34), ((AV.v (TV.one (At.bool (zl2 x low q34)))), []))
  | _ => none
def zo5 (x : Nat) (low : Nat) (q34 : Nat) : Option (Bool) → Option (AV × List Blk)
  | some r => some ((AV.v (TV.one (At.bool r))), [])
  | none => none
theorem zsm (x : Nat) (low : Nat) (q34 : Nat) : evFn Γ0 8 8 97 (impTs 0 [.one (.s (.flt .f32 x)), .one (.s (.flt .f32 low)), .one (.s (.flt .f32 q34))]).1 (impTs 0 [.one (.s (.flt .f32 x)), .one (.s (.flt .f32 low)), .one (.s (.flt .f32 q34))]).2 (expo (impTs 0 [.one (.s (.flt .f32 x)), .one (.s (.flt .f32 low)), .one (.s (.flt .f32 q34))]).2.length) = zei x low q34 (fun c0_ => some ((AV.v (TV.one (At.bool c0_))), [])) := by kernel_rfl
theorem z28 : SumOne Try.prog 97 z3h := sum_of (Γ := Γ0) (fuel := 8) (d := 8) tyTab_ok (FnL.ok fnTab_ok _ _) (LpL.ok lt0_ok) (SumL.ok tb0_ok _) mixed (by
  intro pts v news hp hc
  clear hc
  unfold z3h at hp
  split at hp
  · rename_i x low q34
    exact Eq.trans (Eq.trans (zsm x low q34) (zqn (zo5 x low q34) rfl x low q34 (fun c0_ => some c0_))) (fin_out (o := (zo5 x low q34)) (x := zeh x low q34) (d := default) (V := fun r => ((AV.v (TV.one (At.bool r))), [])) (fun r => rfl) hp)
  · cases hp)
noncomputable def z0t : List PT → Option (Bool × AV × List Blk)
  | [.one (.row 1 s_n (.fl .f32 s))] => some ((z9a s_n s), ((AV.v (TV.one (At.sl 0 0 (z95 s_n s) 1))), [(Blk.mk Bool.true (Body.fl FloatKind.f32 (z96 s_n s)))]))
  | _ => none
def zad (s_n : Nat) (s : List Nat) : Option (Nat × (List Nat)) → Option (AV × List Blk)
  | some r => some ((AV.v (TV.one (At.sl 0 0 r.1 1))), [(Blk.mk Bool.true (Body.fl FloatKind.f32 r.2))])
  | none => none
theorem zn9 (s_n : Nat) (s : List Nat) : ∀ a b, (zad s_n s) a = (zad s_n s) b → a = b := by
  intro a b h
  cases a <;> cases b <;> simp_all [zad, Prod.ext_iff]
theorem zo2 (s_n : Nat) (s : List Nat) : evFn Γ0 8 8 104 (impTs 0 [.one (.row 1 s_n (.fl .f32 s))]).1 (impTs 0 [.one (.row 1 s_n (.fl .f32 s))]).2 (expo (impTs 0 [.one (.row 1 s_n (.fl .f32 s))]).2.length) = z9b s_n s (fun c0_ c1_ => some ((AV.v (TV.one (At.sl 0 0 c0_ 1))), [(Blk.mk Bool.true (Body.fl FloatKind.f32 c1_))])) := by kernel_rfl
theorem z0k : SumOne Try.prog 104 z0t := sum_of (Γ := Γ0) (fuel := 8) (d := 8) tyTab_ok (FnL.ok fnTab_ok _ _) (LpL.ok lt0_ok) (SumL.ok tb0_ok _) mixed (by
  intro pts v news hp hc
  clear hc
  unfold z0t at hp
  split at hp
  · rename_i s_n s
    exact Eq.trans (Eq.trans (zo2 s_n s) (zmp (zad s_n s) rfl (zn9 s_n s) s_n s (fun c0_ c1_ => some (c0_, c1_)))) (fin_out (o := (zad s_n s)) (x := z8b s_n s) (d := default) (V := fun r => ((AV.v (TV.one (At.sl 0 0 r.1 1))), [(Blk.mk Bool.true (Body.fl FloatKind.f32 r.2))])) (fun r => rfl) hp)
  · cases hp)
noncomputable def z01 : List PT → Option (Bool × AV × List Blk)
  | [.one (.row 3 s_n (.fl .f32 s))] => some ((z7i s_n s), ((AV.v (TV.one (At.sl 0 0 (z7a s_n s) 3))), [(Blk.mk Bool.true (Body.fl FloatKind.f32 (z7f s_n s)))]))
  | _ => none
def z69 (s_n : Nat) (s : List Nat) : Option (Nat × (List Nat)) → Option (AV × List Blk)
  | some r => some ((AV.v (TV.one (At.sl 0 0 r.1 3))), [(Blk.mk Bool.true (Body.fl FloatKind.f32 r.2))])
  | none => none
theorem zj0 (s_n : Nat) (s : List Nat) : ∀ a b, (z69 s_n s) a = (z69 s_n s) b → a = b := by
  intro a b h
  cases a <;> cases b <;> simp_all [z69, Prod.ext_iff]
theorem zkj (s_n : Nat) (s : List Nat) : evFn Γ0 8 8 115 (impTs 0 [.one (.row 3 s_n (.fl .f32 s))]).1 (impTs 0 [.one (.row 3 s_n (.fl .f32 s))]).2 (expo (impTs 0 [.one (.row 3 s_n (.fl .f32 s))]).2.length) = z5n s_n s (fun c0_ c1_ => some ((AV.v (TV.one (At.sl 0 0 c0_ 3))), [(Blk.mk Bool.true (Body.fl FloatKind.f32 c1_))])) := by kernel_rfl
theorem z00 : SumOne Try.prog 115 z01 := sum_of (Γ := Γ0) (fuel := 8) (d := 8) tyTab_ok (FnL.ok fnTab_ok _ _) (LpL.ok lt0_ok) (SumL.ok tb0_ok _) mixed (by
  intro pts v news hp hc
  clear hc
  unfold z01 at hp
  split at hp
  · rename_i s_n s
    exact Eq.trans (Eq.trans (zkj s_n s) (zhn (z69 s_n s) rfl (zj0 s_n s) s_n s (fun c0_ c1_ => some (c0_, c1_)))) (fin_out (o := (z69 s_n s)) (x := z55 s_n s) (d := default) (V := fun r => ((AV.v (TV.one (At.sl 0 0 r.1 3))), [(Blk.mk Bool.true (Body.fl FloatKind.f32 r.2))])) (fun r => rfl) hp)
  · cases hp)
noncomputable def tb1 : List (Nat × (List PT → Option (Bool × AV × List Blk))) := [(125, z2j), (128, z0y), (134, z1m), (137, z2k), (18, z2s), (44, z2q), (48, z2a), (54, z3i), (61, z2t), (63, z4i), (64, z49), (66, z48), (80, z2b), (97, z3h), (104, z0t), (115, z01)]
noncomputable def lt1 : List ((Nat × Nat) × (Nat → St → Option (Bool × LO))) := []
noncomputable def Γ1 : Ctx := ⟨tyTab, fnTab, tblSum tb1, tblLp lt1⟩
theorem tb1_ok : SumL Try.prog tb1 := SumL.cons z1k (SumL.cons z0l (SumL.cons z19 (SumL.cons z1l (SumL.cons z1t (SumL.cons z1u (SumL.cons z1i (SumL.cons z29 (SumL.cons z1w (SumL.cons z3u (SumL.cons z3b (SumL.cons z39 (SumL.cons z1j (SumL.cons z28 (SumL.cons z0k (SumL.cons z00 (SumL.nil))))))))))))))))
theorem lt1_ok : LpL Try.prog fnTab lt1 := LpL.nil
noncomputable def z35 : List PT → Option (Bool × AV × List Blk)
  | [.agg [.row 1 q0w (.fl .f32 q10), .row 1 q0y (.fl .f32 q18), .row 1 q0z (.fl .f32 q1a)], .one (.s (.int .i64 q2l))] => some ((zks q0w q10 q0y q18 q0z q1a q2l), ((AV.v (TV.one (At.int IntKind.i64 (zaj q0w q10 q0y q18 q0z q1a q2l)))), []))
  | _ => none
def zne (q0w : Nat) (q10 : List Nat) (q0y : Nat) (q18 : List Nat) (q0z : Nat) (q1a : List Nat) (q2l : Int) : Option (Int) → Option (AV × List Blk)
  | some r => some ((AV.v (TV.one (At.int IntKind.i64 r))), [])
  | none => none
theorem zsf (q0w : Nat) (q10 : List Nat) (q0y : Nat) (q18 : List Nat) (q0z : Nat) (q1a : List Nat) (q2l : Int) : evFn Γ1 8 8 14 (impTs 0 [.agg [.row 1 q0w (.fl .f32 q10), .row 1 q0y (.fl .f32 q18), .row 1 q0z (.fl .f32 q1a)], .one (.s (.int .i64 q2l))]).1 (impTs 0 [.agg [.row 1 q0w (.fl .f32 q10), .row 1 q0y (.fl .f32 q18), .row 1 q0z (.fl .f32 q1a)], .one (.s (.int .i64 q2l))]).2 (expo (impTs 0 [.agg [.row 1 q0w (.fl .f32 q10), .row 1 q0y (.fl .f32 q18), .row 1 q0z (.fl .f32 q1a)], .one (.s (.int .i64 q2l))]).2.length) = zdt q0w q10 q0y q18 q0z q1a q2l (fun c0_ => some ((AV.v (TV.one (At.int IntKind.i64 c0_))), [])) := by kernel_rfl
theorem z24 : SumOne Try.prog 14 z35 := sum_of (Γ := Γ1) (fuel := 8) (d := 8) tyTab_ok (FnL.ok fnTab_ok _ _) (LpL.ok lt1_ok) (SumL.ok tb1_ok _) mixed (by
  intro pts v news hp hc
  clear hc
  unfold z35 at hp
  split at hp
  · rename_i q0w q10 q0y q18 q0z q1a q2l
    exact Eq.trans (Eq.trans (zsf q0w q10 q0y q18 q0z q1a q2l) (zpm (zne q0w q10 q0y q18 q0z q1a q2l) rfl q0w q10 q0y q18 q0z q1a q2l (fun c0_ => some c0_))) (fin_out (o := (zne q0w q10 q0y q18 q0z q1a q2l)) (x := zdu q0w q10 q0y q18 q0z q1a q2l) (d := default) (V := fun r => ((AV.v (TV.one (At.int IntKind.i64 r))), [])) (fun r => rfl) hp)
  · cases hp)
noncomputable def z22 : List PT → Option (Bool × AV × List Blk)
  | [.agg [.row 1 q15 (.fl .f32 q1r), .row 1 q1h (.fl .f32 q29), .row 1 q1g (.fl .f32 q28)]] => some ((zi1 q15 q1r q1h q29 q1g q28), ((AV.v (TV.agg [(At.sl 0 0 (zfu q15 q1r q1h q29 q1g q28) 1), (At.sl 1 0 (zfq q15 q1r q1h q29 q1g q28) 1), (At.sl 2 0 (zfs q15 q1r q1h q29 q1g q28) 1)])), [(Blk.mk Bool.true (Body.fl FloatKind.f32 (zfw q15 q1r q1h q29 q1g q28))), (Blk.mk Bool.true (Body.fl FloatKind.f32 (zfo q15 q1r q1h q29 q1g q28))), (Blk.mk Bool.true (Body.fl FloatKind.f32 (zfp q15 q1r q1h q29 q1g q28)))]))
  | _ => none
def zml (q15 : Nat) (q1r : List Nat) (q1h : Nat) (q29 : List Nat) (q1g : Nat) (q28 : List Nat) : Option (Nat × Nat × Nat × (List Nat) × (List Nat) × (List Nat)) → Option (AV × List Blk)
  | some r => some ((AV.v (TV.agg [(At.sl 0 0 r.1 1), (At.sl 1 0 r.2.1 1), (At.sl 2 0 r.2.2.1 1)])), [(Blk.mk Bool.true (Body.fl FloatKind.f32 r.2.2.2.1)), (Blk.mk Bool.true (Body.fl FloatKind.f32 r.2.2.2.2.1)), (Blk.mk Bool.true (Body.fl FloatKind.f32 r.2.2.2.2.2))])
  | none => none
theorem zqt (q15 : Nat) (q1r : List Nat) (q1h : Nat) (q29 : List Nat) (q1g : Nat) (q28 : List Nat) : evFn Γ1 8 8 67 (impTs 0 [.agg [.row 1 q15 (.fl .f32 q1r), .row 1 q1h (.fl .f32 q29), .row 1 q1g (.fl .f32 q28)]]).1 (impTs 0 [.agg [.row 1 q15 (.fl .f32 q1r), .row 1 q1h (.fl .f32 q29), .row 1 q1g (.fl .f32 q28)]]).2 (expo (impTs 0 [.agg [.row 1 q15 (.fl .f32 q1r), .row 1 q1h (.fl .f32 q29), .row 1 q1g (.fl .f32 q28)]]).2.length) = zc1 q15 q1r q1h q29 q1g q28 (fun c0_ c1_ c2_ c3_ c4_ c5_ => some ((AV.v (TV.agg [(At.sl 0 0 c0_ 1), (At.sl 1 0 c1_ 1), (At.sl 2 0 c2_ 1)])), [(Blk.mk Bool.true (Body.fl FloatKind.f32 c3_)), (Blk.mk Bool.true (Body.fl FloatKind.f32 c4_)), (Blk.mk Bool.true (Body.fl FloatKind.f32 c5_))])) := by kernel_rfl
theorem z1f : SumOne Try.prog 67 z22 := sum_of (Γ := Γ1) (fuel := 8) (d := 8) tyTab_ok (FnL.ok fnTab_ok _ _) (LpL.ok lt1_ok) (SumL.ok tb1_ok _) mixed (by
  intro pts v news hp hc
  clear hc
  unfold z22 at hp
  split at hp
  · rename_i q15 q1r q1h q29 q1g q28
    exact Eq.trans (Eq.trans (zqt q15 q1r q1h q29 q1g q28) (zoe (zml q15 q1r q1h q29 q1g q28) rfl q15 q1r q1h q29 q1g q28 (fun c0_ c1_ c2_ c3_ c4_ c5_ => some (c0_, c1_, c2_, c3_, c4_, c5_)))) (fin_out (o := (zml q15 q1r q1h q29 q1g q28)) (x := z6w q15 q1r q1h q29 q1g q28) (d := default) (V := fun r => ((AV.v (TV.agg [(At.sl 0 0 r.1 1), (At.sl 1 0 r.2.1 1), (At.sl 2 0 r.2.2.1 1)])), [(Blk.mk Bool.true (Body.fl FloatKind.f32 r.2.2.2.1)), (Blk.mk Bool.true (Body.fl FloatKind.f32 r.2.2.2.2.1)), (Blk.mk Bool.true (Body.fl FloatKind.f32 r.2.2.2.2.2))])) (fun r => rfl) hp)
  · cases hp)
noncomputable def z11 : List PT → Option (Bool × AV × List Blk)
  | [.agg [.row 1 q08 (.fl .f32 q0e), .row 1 q09 (.fl .f32 q0g), .row 1 q0a (.fl .f32 q0f), .row 3 q0h (.fl .f32 q0l), .s (.int .i64 q0p), .s (.flt .f32 q0u), .s (.flt .f32 q0t)], .one (.s (.int .i64 i))] => some ((ze6 q08 q0e q09 q0g q0a q0f q0h q0l q0p q0u q0t i), ((AV.v (TV.one (At.bool (zdl q08 q0e q09 q0g q0a q0f q0h q0l q0p q0u q0t i)))), []))
  | _ => none
def zm7 (q08 : Nat) (q0e : List Nat) (q09 : Nat) (q0g : List Nat) (q0a : Nat) (q0f : List Nat) (q0h : Nat) (q0l : List Nat) (q0p : Int) (q0u : Nat) (q0t : Nat) (i : Int) : Option (Bool) → Option (AV × List Blk)
  | some r => some ((AV.v (TV.one (At.bool r))), [])
  | none => none
theorem zoj (q08 : Nat) (q0e : List Nat) (q09 : Nat) (q0g : List Nat) (q0a : Nat) (q0f : List Nat) (q0h : Nat) (q0l : List Nat) (q0p : Int) (q0u : Nat) (q0t : Nat) (i : Int) : evFn Γ1 8 8 88 (impTs 0 [.agg [.row 1 q08 (.fl .f32 q0e), .row 1 q09 (.fl .f32 q0g), .row 1 q0a (.fl .f32 q0f), .row 3 q0h (.fl .f32 q0l), .s (.int .i64 q0p), .s (.flt .f32 q0u), .s (.flt .f32 q0t)], .one (.s (.int .i64 i))]).1 (impTs 0 [.agg [.row 1 q08 (.fl .f32 q0e), .row 1 q09 (.fl .f32 q0g), .row 1 q0a (.fl .f32 q0f), .row 3 q0h (.fl .f32 q0l), .s (.int .i64 q0p), .s (.flt .f32 q0u), .s (.flt .f32 q0t)], .one (.s (.int .i64 i))]).2 (expo (impTs 0 [.agg [.row 1 q08 (.fl .f32 q0e), .row 1 q09 (.fl .f32 q0g), .row 1 q0a (.fl .f32 q0f), .row 3 q0h (.fl .f32 q0l), .s (.int .i64 q0p), .s (.flt .f32 q0u), .s (.flt .f32 q0t)], .one (.s (.int .i64 i))]).2.length) = z9r q08 q0e q09 q0g q0a q0f q0h q0l q0p q0u q0t i (fun c0_ => some ((AV.v (TV.one (At.bool c0_))), [])) := by kernel_rfl
theorem z0q : SumOne Try.prog 88 z11 := sum_of (Γ := Γ1) (fuel := 8) (d := 8) tyTab_ok (FnL.ok fnTab_ok _ _) (LpL.ok lt1_ok) (SumL.ok tb1_ok _) mixed (by
  intro pts v news hp hc
  clear hc
  unfold z11 at hp
  split at hp
  · rename_i q08 q0e q09 q0g q0a q0f q0h q0l q0p q0u q0t i
    exact Eq.trans (Eq.trans (zoj q08 q0e q09 q0g q0a q0f q0h q0l q0p q0u q0t i) (zmt (zm7 q08 q0e q09 q0g q0a q0f q0h q0l q0p q0u q0t i) rfl q08 q0e q09 q0g q0a q0f q0h q0l q0p q0u q0t i (fun c0_ => some c0_))) (fin_out (o := (zm7 q08 q0e q09 q0g q0a q0f q0h q0l q0p q0u q0t i)) (x := z9q q08 q0e q09 q0g q0a q0f q0h q0l q0p q0u q0t i) (d := default) (V := fun r => ((AV.v (TV.one (At.bool r))), [])) (fun r => rfl) hp)
  · cases hp)
noncomputable def z4b : List PT → Option (Bool × AV × List Blk)
  | [.ptr [.row 1 q08 (.fl .f32 q0e), .row 1 q09 (.fl .f32 q0g), .row 1 q0a (.fl .f32 q0f), .row 3 q0h (.fl .f32 q0l), .s (.int .i64 q0p), .s (.flt .f32 q0u), .s (.flt .f32 q0t)]] => some ((zma q08 q0e q09 q0g q0a q0f q0h q0l q0p q0u q0t), ((AV.v (TV.agg [(At.sl 0 0 (zcd q08 q0e q09 q0g q0a q0f q0h q0l q0p q0u q0t) 1), (At.sl 1 0 (zc8 q08 q0e q09 q0g q0a q0f q0h q0l q0p q0u q0t) 1), (At.sl 2 0 (zc3 q08 q0e q09 q0g q0a q0f q0h q0l q0p q0u q0t) 1), (At.sl 3 0 (zab q08 q0e q09 q0g q0a q0f q0h q0l q0p q0u q0t) 3), (At.int IntKind.i64 q0p), (At.flt FloatKind.f32 q0u), (At.flt FloatKind.f32 q0t)])), [(Blk.mk Bool.true (Body.fl FloatKind.f32 (zez q08 q0e q09 q0g q0a q0f q0h q0l q0p q0u q0t))), (Blk.mk Bool.true (Body.fl FloatKind.f32 (zf2 q08 q0e q09 q0g q0a q0f q0h q0l q0p q0u q0t))), (Blk.mk Bool.true (Body.fl FloatKind.f32 (zf5 q08 q0e q09 q0g q0a q0f q0h q0l q0p q0u q0t))), (Blk.mk Bool.true (Body.fl FloatKind.f32 (zf7 q08 q0e q09 q0g q0a q0f q0h q0l q0p q0u q0t)))]))
  | _ => none
def zqd (q08 : Nat) (q0e : List Nat) (q09 : Nat) (q0g : List Nat) (q0a : Nat) (q0f : List Nat) (q0h : Nat) (q0l : List Nat) (q0p : Int) (q0u : Nat) (q0t : Nat) : Option (Nat × Nat × Nat × Nat × (List Nat) × (List Nat) × (List Nat) × (List Nat)) → Option (AV × List Blk)
  | some r => some ((AV.v (TV.agg [(At.sl 0 0 r.1 1), (At.sl 1 0 r.2.1 1), (At.sl 2 0 r.2.2.1 1), (At.sl 3 0 r.2.2.2.1 3), (At.int IntKind.i64 q0p), (At.flt FloatKind.f32 q0u), (At.flt FloatKind.f32 q0t)])), [(Blk.mk Bool.true (Body.fl FloatKind.f32 r.2.2.2.2.1)), (Blk.mk Bool.true (Body.fl FloatKind.f32 r.2.2.2.2.2.1)), (Blk.mk Bool.true (Body.fl FloatKind.f32 r.2.2.2.2.2.2.1)), (Blk.mk Bool.true (Body.fl FloatKind.f32 r.2.2.2.2.2.2.2))])
  | none => none
theorem zt1 (q08 : Nat) (q0e : List Nat) (q09 : Nat) (q0g : List Nat) (q0a : Nat) (q0f : List Nat) (q0h : Nat) (q0l : List Nat) (q0p : Int) (q0u : Nat) (q0t : Nat) : evFn Γ1 8 8 92 (impTs 0 [.ptr [.row 1 q08 (.fl .f32 q0e), .row 1 q09 (.fl .f32 q0g), .row 1 q0a (.fl .f32 q0f), .row 3 q0h (.fl .f32 q0l), .s (.int .i64 q0p), .s (.flt .f32 q0u), .s (.flt .f32 q0t)]]).1 (impTs 0 [.ptr [.row 1 q08 (.fl .f32 q0e), .row 1 q09 (.fl .f32 q0g), .row 1 q0a (.fl .f32 q0f), .row 3 q0h (.fl .f32 q0l), .s (.int .i64 q0p), .s (.flt .f32 q0u), .s (.flt .f32 q0t)]]).2 (expo (impTs 0 [.ptr [.row 1 q08 (.fl .f32 q0e), .row 1 q09 (.fl .f32 q0g), .row 1 q0a (.fl .f32 q0f), .row 3 q0h (.fl .f32 q0l), .s (.int .i64 q0p), .s (.flt .f32 q0u), .s (.flt .f32 q0t)]]).2.length) = zgm q08 q0e q09 q0g q0a q0f q0h q0l q0p q0u q0t (fun c0_ c1_ c2_ c3_ c4_ c5_ c6_ c7_ => some ((AV.v (TV.agg [(At.sl 0 0 c0_ 1), (At.sl 1 0 c1_ 1), (At.sl 2 0 c2_ 1), (At.sl 3 0 c3_ 3), (At.int IntKind.i64 q0p), (At.flt FloatKind.f32 q0u), (At.flt FloatKind.f32 q0t)])), [(Blk.mk Bool.true (Body.fl FloatKind.f32 c4_)), (Blk.mk Bool.true (Body.fl FloatKind.f32 c5_)), (Blk.mk Bool.true (Body.fl FloatKind.f32 c6_)), (Blk.mk Bool.true (Body.fl FloatKind.f32 c7_))])) := by kernel_rfl
theorem z3l : SumOne Try.prog 92 z4b := sum_of (Γ := Γ1) (fuel := 8) (d := 8) tyTab_ok (FnL.ok fnTab_ok _ _) (LpL.ok lt1_ok) (SumL.ok tb1_ok _) mixed (by
  intro pts v news hp hc
  clear hc
  unfold z4b at hp
  split at hp
  · rename_i q08 q0e q09 q0g q0a q0f q0h q0l q0p q0u q0t
    exact Eq.trans (Eq.trans (zt1 q08 q0e q09 q0g q0a q0f q0h q0l q0p q0u q0t) (zru (zqd q08 q0e q09 q0g q0a q0f q0h q0l q0p q0u q0t) rfl q08 q0e q09 q0g q0a q0f q0h q0l q0p q0u q0t (fun c0_ c1_ c2_ c3_ c4_ c5_ c6_ c7_ => some (c0_, c1_, c2_, c3_, c4_, c5_, c6_, c7_)))) (fin_out (o := (zqd q08 q0e q09 q0g q0a q0f q0h q0l q0p q0u q0t)) (x := z8o q08 q0e q09 q0g q0a q0f q0h q0l q0p q0u q0t) (d := default) (V := fun r => ((AV.v (TV.agg [(At.sl 0 0 r.1 1), (At.sl 1 0 r.2.1 1), (At.sl 2 0 r.2.2.1 1), (At.sl 3 0 r.2.2.2.1 3), (At.int IntKind.i64 q0p), (At.flt FloatKind.f32 q0u), (At.flt FloatKind.f32 q0t)])), [(Blk.mk Bool.true (Body.fl FloatKind.f32 r.2.2.2.2.1)), (Blk.mk Bool.true (Body.fl FloatKind.f32 r.2.2.2.2.2.1)), (Blk.mk Bool.true (Body.fl FloatKind.f32 r.2.2.2.2.2.2.1)), (Blk.mk Bool.true (Body.fl FloatKind.f32 r.2.2.2.2.2.2.2))])) (fun r => rfl) hp)
  · cases hp)
noncomputable def z3o : List PT → Option (Bool × AV × List Blk)
  | [.one (.s (.flt .f32 x))] => some ((zas x), ((AV.v (TV.one (At.bool (za6 x)))), []))
  | _ => none
def zo9 (x : Nat) : Option (Bool) → Option (AV × List Blk)
  | some r => some ((AV.v (TV.one (At.bool r))), [])
  | none => none
theorem zsk (x : Nat) : evFn Γ1 8 8 103 (impTs 0 [.one (.s (.flt .f32 x))]).1 (impTs 0 [.one (.s (.flt .f32 x))]).2 (expo (impTs 0 [.one (.s (.flt .f32 x))]).2.length) = zef x (fun c0_ => some ((AV.v (TV.one (At.bool c0_))), [])) := by kernel_rfl
theorem z2g : SumOne Try.prog 103 z3o := sum_of (Γ := Γ1) (fuel := 8) (d := 8) tyTab_ok (FnL.ok fnTab_ok _ _) (LpL.ok lt1_ok) (SumL.ok tb1_ok _) mixed (by
  intro pts v news hp hc
  clear hc
  unfold z3o at hp
  split at hp
  · rename_i x
    exact Eq.trans (Eq.trans (zsk x) (zqf (zo9 x) rfl x (fun c0_ => some c0_))) (fin_out (o := (zo9 x)) (x := zec x) (d := default) (V := fun r => ((AV.v (TV.one (At.bool r))), [])) (fun r => rfl) hp)
  · cases hp)
noncomputable def z36 : List PT → Option (Bool × AV × List Blk)
  | [.agg [.s (.flt .f32 q2q), .s (.flt .f32 q2x), .s (.flt .f32 q2y)], .agg [.s (.flt .f32 q3g), .s (.flt .f32 q3k), .s (.flt .f32 q3j)]] => some ((zl1 q2q q2x q2y q3g q3k q3j), ((AV.v (TV.one (At.bool (zjp q2q q2x q2y q3g q3k q3j)))), []))
  | _ => none
def znp (q2q : Nat) (q2x : Nat) (q2y : Nat) (q3g : Nat) (q3k : Nat) (q3j : Nat) : Option (Bool) → Option (AV × List Blk)
  | some r => some ((AV.v (TV.one (At.bool r))), [])
  | none => none
theorem zrz (q2q : Nat) (q2x : Nat) (q2y : Nat) (q3g : Nat) (q3k : Nat) (q3j : Nat) : evFn Γ1 8 8 105 (impTs 0 [.agg [.s (.flt .f32 q2q), .s (.flt .f32 q2x), .s (.flt .f32 q2y)], .agg [.s (.flt .f32 q3g), .s (.flt .f32 q3k), .s (.flt .f32 q3j)]]).1 (impTs 0 [.agg [.s (.flt .f32 q2q), .s (.flt .f32 q2x), .s (.flt .f32 q2y)], .agg [.s (.flt .f32 q3g), .s (.flt .f32 q3k), .s (.flt .f32 q3j)]]).2 (expo (impTs 0 [.agg [.s (.flt .f32 q2q), .s (.flt .f32 q2x), .s (.flt .f32 q2y)], .agg [.s (.flt .f32 q3g), .s (.flt .f32 q3k), .s (.flt .f32 q3j)]]).2.length) = ze1 q2q q2x q2y q3g q3k q3j (fun c0_ => some ((AV.v (TV.one (At.bool c0_))), [])) := by kernel_rfl
theorem z23 : SumOne Try.prog 105 z36 := sum_of (Γ := Γ1) (fuel := 8) (d := 8) tyTab_ok (FnL.ok fnTab_ok _ _) (LpL.ok lt1_ok) (SumL.ok tb1_ok _) mixed (by
  intro pts v news hp hc
  clear hc
  unfold z36 at hp
  split at hp
  · rename_i q2q q2x q2y q3g q3k q3j
    exact Eq.trans (Eq.trans (zrz q2q q2x q2y q3g q3k q3j) (zq6 (znp q2q q2x q2y q3g q3k q3j) rfl q2q q2x q2y q3g q3k q3j (fun c0_ => some c0_))) (fin_out (o := (znp q2q q2x q2y q3g q3k q3j)) (x := ze3 q2q q2x q2y q3g q3k q3j) (d := default) (V := fun r => ((AV.v (TV.one (At.bool r))), [])) (fun r => rfl) hp)
  · cases hp)
noncomputable def z40 : List PT → Option (Bool × AV × List Blk)
  | [.one (.s (.flt .f32 x))] => some ((zjy x), ((AV.v (TV.one (At.bool (zh3 x)))), []))
  | _ => none
def zpa (x : Nat) : Option (Bool) → Option (AV × List Blk)
  | some r => some ((AV.v (TV.one (At.bool r))), [])
  | none => none
theorem zsw (x : Nat) : evFn Γ1 8 8 111 (impTs 0 [.one (.s (.flt .f32 x))]).1 (impTs 0 [.one (.s (.flt .f32 x))]).2 (expo (impTs 0 [.one (.s (.flt .f32 x))]).2.length) = zf4 x (fun c0_ => some ((AV.v (TV.one (At.bool c0_))), [])) := by kernel_rfl
theorem z33 : SumOne Try.prog 111 z40 := sum_of (Γ := Γ1) (fuel := 8) (d := 8) tyTab_ok (FnL.ok fnTab_ok _ _) (LpL.ok lt1_ok) (SumL.ok tb1_ok _) mixed (by
  intro pts v news hp hc
  clear hc
  unfold z40 at hp
  split at hp
  · rename_i x
    exact Eq.trans (Eq.trans (zsw x) (zqu (zpa x) rfl x (fun c0_ => some c0_))) (fin_out (o := (zpa x)) (x := zf1 x) (d := default) (V := fun r => ((AV.v (TV.one (At.bool r))), [])) (fun r => rfl) hp)
  · cases hp)
noncomputable def z3n : List PT → Option (Bool × AV × List Blk)
  | [.one (.s (.flt .f32 x))] => some ((zlc x), ((AV.v (TV.one (At.bool (zl0 x)))), []))
  | _ => none
def zo7 (x : Nat) : Option (Bool) → Option (AV × List Blk)
  | some r => some ((AV.v (TV.one (At.bool r))), [])
  | none => none
theorem zsj (x : Nat) : evFn Γ1 8 8 114 (impTs 0 [.one (.s (.flt .f32 x))]).1 (impTs 0 [.one (.s (.flt .f32 x))]).2 (expo (impTs 0 [.one (.s (.flt .f32 x))]).2.length) = zeg x (fun c0_ => some ((AV.v (TV.one (At.bool c0_))), [])) := by kernel_rfl
theorem z2h : SumOne Try.prog 114 z3n := sum_of (Γ := Γ1) (fuel := 8) (d := 8) tyTab_ok (FnL.ok fnTab_ok _ _) (LpL.ok lt1_ok) (SumL.ok tb1_ok _) mixed (by
  intro pts v news hp hc
  clear hc
  unfold z3n at hp
  split at hp
  · rename_i x
    exact Eq.trans (Eq.trans (zsj x) (zqo (zo7 x) rfl x (fun c0_ => some c0_))) (fin_out (o := (zo7 x)) (x := zea x) (d := default) (V := fun r => ((AV.v (TV.one (At.bool r))), [])) (fun r => rfl) hp)
  · cases hp)
noncomputable def z21 : List PT → Option (Bool × AV × List Blk)
  | [.one (.s (.flt .f32 x))] => some ((zgu x), ((AV.v (TV.one (At.bool (zfy x)))), []))
  | _ => none
def zmk (x : Nat) : Option (Bool) → Option (AV × List Blk)
  | some r => some ((AV.v (TV.one (At.bool r))), [])
  | none => none
theorem zr6 (x : Nat) : evFn Γ1 8 8 118 (impTs 0 [.one (.s (.flt .f32 x))]).1 (impTs 0 [.one (.s (.flt .f32 x))]).2 (expo (impTs 0 [.one (.s (.flt .f32 x))]).2.length) = zcf x (fun c0_ => some ((AV.v (TV.one (At.bool c0_))), [])) := by kernel_rfl
theorem z1g : SumOne Try.prog 118 z21 := sum_of (Γ := Γ1) (fuel := 8) (d := 8) tyTab_ok (FnL.ok fnTab_ok _ _) (LpL.ok lt1_ok) (SumL.ok tb1_ok _) mixed (by
  intro pts v news hp hc
  clear hc
  unfold z21 at hp
  split at hp
  · rename_i x
    exact Eq.trans (Eq.trans (zr6 x) (zoh (zmk x) rfl x (fun c0_ => some c0_))) (fin_out (o := (zmk x)) (x := zc2 x) (d := default) (V := fun r => ((AV.v (TV.one (At.bool r))), [])) (fun r => rfl) hp)
  · cases hp)
noncomputable def z1e : List PT → Option (Bool × AV × List Blk)
  | [.one (.s (.flt .f32 x))] => some ((zet x), ((AV.v (TV.one (At.bool (zee x)))), []))
  | _ => none
def zmb (x : Nat) : Option (Bool) → Option (AV × List Blk)
  | some r => some ((AV.v (TV.one (At.bool r))), [])
  | none => none
theorem zq3 (x : Nat) : evFn Γ1 8 8 122 (impTs 0 [.one (.s (.flt .f32 x))]).1 (impTs 0 [.one (.s (.flt .f32 x))]).2 (expo (impTs 0 [.one (.s (.flt .f32 x))]).2.length) = zaa x (fun c0_ => some ((AV.v (TV.one (At.bool c0_))), [])) := by kernel_rfl
theorem z12 : SumOne Try.prog 122 z1e := sum_of (Γ := Γ1) (fuel := 8) (d := 8) tyTab_ok (FnL.ok fnTab_ok _ _) (LpL.ok lt1_ok) (SumL.ok tb1_ok _) mixed (by
  intro pts v news hp hc
  clear hc
  unfold z1e at hp
  split at hp
  · rename_i x
    exact Eq.trans (Eq.trans (zq3 x) (zns (zmb x) rfl x (fun c0_ => some c0_))) (fin_out (o := (zmb x)) (x := zac x) (d := default) (V := fun r => ((AV.v (TV.one (At.bool r))), [])) (fun r => rfl) hp)
  · cases hp)
noncomputable def zm5 (an : Nat) (q2u : Nat) (i : Int) (b0 : List Nat) (b1 : List Nat) : Bool × LO := ((zcm an q2u b0 i b1), (LO.one (Ex.exit 0) (St.mk [(0, (AV.v (TV.one (At.vw 0 0 an 1)))), (3, (AV.v (TV.one (At.sl 1 0 q2u 1)))), (4, (AV.v (TV.one (At.int IntKind.i64 (zgh an q2u b0 i b1))))), (11, (AV.v (TV.one (At.bool (zgf an q2u b0 i b1)))))] [(Blk.mk Bool.false (Body.fl FloatKind.f32 b0)), (Blk.mk Bool.true (Body.fl FloatKind.f32 (zah an q2u b0 i b1)))])))
noncomputable def z1h : Nat → St → Option (Bool × LO) := lpT 1 (pSt [(pTm 0 (pV (pOne (pVw 0 (liN 0) 1)))), (pTm 3 (pV (pOne (pSl 1 (liN 0) 1)))), (pTm 4 (pV (pOne (pInt IntKind.i64))))] [(pBlk Bool.false (pFl FloatKind.f32)), (pBlk Bool.true (pFl FloatKind.f32))]) (fun hs => zm5 (hvN (hGet hs 0)) (hvN (hGet hs 1)) (hvI (hGet hs 2)) (hvLn (hGet hs 3)) (hvLn (hGet hs 4)))
def zex (an : Nat) (q2u : Nat) (b0 : List Nat) : Option ((Int × Bool × (List Nat))) → Option (Ex × St)
  | none => none
  | some r => some ((Ex.exit 0), (St.mk [(0, (AV.v (TV.one (At.vw 0 0 an 1)))), (3, (AV.v (TV.one (At.sl 1 0 q2u 1)))), (4, (AV.v (TV.one (At.int IntKind.i64 r.1)))), (11, (AV.v (TV.one (At.bool r.2.1))))] [(Blk.mk Bool.false (Body.fl FloatKind.f32 b0)), (Blk.mk Bool.true (Body.fl FloatKind.f32 r.2.2))]))
def zpb (an : Nat) (q2u : Nat) (b0 : List Nat) (x : Option ((Int × Bool × (List Nat)))) : LO := (LO.one (Ex.exit 0) (St.mk [(0, (AV.v (TV.one (At.vw 0 0 an 1)))), (3, (AV.v (TV.one (At.sl 1 0 q2u 1)))), (4, (AV.v (TV.one (At.int IntKind.i64 (x.getD default).1)))), (11, (AV.v (TV.one (At.bool (x.getD default).2.1))))] [(Blk.mk Bool.false (Body.fl FloatKind.f32 b0)), (Blk.mk Bool.true (Body.fl FloatKind.f32 (x.getD default).2.2))]))
theorem zpw (an : Nat) (q2u : Nat) (b0 : List Nat) : ∀ x : Option ((Int × Bool × (List Nat))), x.isSome = true → (zex an q2u b0) x = some (pick (zpb an q2u b0 x))
  | none, h => by cases h
  | some r, _ => rfl
theorem zpx (an : Nat) (q2u : Nat) (i : Int) (b0 : List Nat) (b1 : List Nat) (K : Ex → St → Option (Ex × St)) : evC (R := Ex × St) Γ1 (evFn Γ1 8 8) 52 1 fi52.nt fi52.live fi52.nl 8 (findL 3 (loopsIn fi52.code)) (St.mk [(0, (AV.v (TV.one (At.vw 0 0 an 1)))), (3, (AV.v (TV.one (At.sl 1 0 q2u 1)))), (4, (AV.v (TV.one (At.int IntKind.i64 i))))] [(Blk.mk Bool.false (Body.fl FloatKind.f32 b0)), (Blk.mk Bool.true (Body.fl FloatKind.f32 b1))]) K = z7s an q2u b0 i b1 (fun i' b1' => K .normal (St.mk [(0, (AV.v (TV.one (At.vw 0 0 an 1)))), (3, (AV.v (TV.one (At.sl 1 0 q2u 1)))), (4, (AV.v (TV.one (At.int IntKind.i64 i'))))] [(Blk.mk Bool.false (Body.fl FloatKind.f32 b0)), (Blk.mk Bool.true (Body.fl FloatKind.f32 b1'))])) (fun c0_ c1_ c2_ => K (Ex.exit 0) (St.mk [(0, (AV.v (TV.one (At.vw 0 0 an 1)))), (3, (AV.v (TV.one (At.sl 1 0 q2u 1)))), (4, (AV.v (TV.one (At.int IntKind.i64 c0_)))), (11, (AV.v (TV.one (At.bool c1_))))] [(Blk.mk Bool.false (Body.fl FloatKind.f32 b0)), (Blk.mk Bool.true (Body.fl FloatKind.f32 c2_))])) := by kernel_rfl
theorem zpq (an : Nat) (q2u : Nat) (b0 : List Nat) : ∀ (n : Nat) (i : Int) (b1 : List Nat), iter 52 3 1 (evC (R := Ex × St) Γ1 (evFn Γ1 8 8) 52 1 fi52.nt fi52.live fi52.nl 8 (findL 3 (loopsIn fi52.code))) n (St.mk [(0, (AV.v (TV.one (At.vw 0 0 an 1)))), (3, (AV.v (TV.one (At.sl 1 0 q2u 1)))), (4, (AV.v (TV.one (At.int IntKind.i64 i))))] [(Blk.mk Bool.false (Body.fl FloatKind.f32 b0)), (Blk.mk Bool.true (Body.fl FloatKind.f32 b1))]) (fun e st => some (e, st)) = (zex an q2u b0) (z64 an q2u b0 n i b1) := by
  intro n
  induction n with
  | zero => intros; rfl
  | succ n ih =>
    intro i b1
    refine Eq.trans (iter_succ ..) (Eq.trans (zpx an q2u i b0 b1 (nextK 52 3 1 (evC (R := Ex × St) Γ1 (evFn Γ1 8 8) 52 1 fi52.nt fi52.live fi52.nl 8 (findL 3 (loopsIn fi52.code))) n (fun e st => some (e, st)))) (Eq.trans ?_ (znd (zex an q2u b0) rfl an q2u b0 i b1 (fun i' b1' => z64 an q2u b0 n i' b1') (fun c0_ c1_ c2_ => some (c0_, c1_, c2_)))))
    exact congrArg (fun kn_ => z7s an q2u b0 i b1 kn_ (fun c0_ c1_ c2_ => (zex an q2u b0) (some (c0_, c1_, c2_)))) (funext fun i' => funext fun b1' => ih i' b1')
theorem z13 : LoopOne Try.prog fnTab 52 3 z1h := lp_of (Γ := Γ1) tyTab_ok (FnL.ok fnTab_ok _ _) (LpL.ok lt1_ok) (SumL.ok tb1_ok _) mixed (fi := fi52) (by kernel_rfl) (by kernel_rfl) (by
  intro lo st out hp
  obtain ⟨hs, e1, e2, e3⟩ := lpT_inv hp
  clear hp
  obtain rfl : st = (St.mk [(0, (AV.v (TV.one (At.vw 0 0 (hvN (hGet hs 0)) 1)))), (3, (AV.v (TV.one (At.sl 1 0 (hvN (hGet hs 1)) 1)))), (4, (AV.v (TV.one (At.int IntKind.i64 (hvI (hGet hs 2))))))] [(Blk.mk Bool.false (Body.fl FloatKind.f32 (hvLn (hGet hs 3)))), (Blk.mk Bool.true (Body.fl FloatKind.f32 (hvLn (hGet hs 4))))]) := e2.trans (by kernel_rfl)
  clear e2
  subst e1
  unfold zm5 at e3
  injection e3 with h1 h2
  subst h2
  exact ⟨8, 8, big, Eq.trans (zpq (hvN (hGet hs 0)) (hvN (hGet hs 1)) (hvLn (hGet hs 3)) big (hvI (hGet hs 2)) (hvLn (hGet hs 4))) (zpw (hvN (hGet hs 0)) (hvN (hGet hs 1)) (hvLn (hGet hs 3)) (z64 (hvN (hGet hs 0)) (hvN (hGet hs 1)) (hvLn (hGet hs 3)) big (hvI (hGet hs 2)) (hvLn (hGet hs 4))) h1)⟩)
noncomputable def zlt (an : Nat) (k : Int) (i : Int) (b0 : List Nat) : Bool × LO := ((ze4 an b0 k i), (LO.two (zdk an b0 k i) (LO.one Ex.ret (St.mk [(4, (AV.v (TV.one (At.int IntKind.i64 (Int.negSucc 0)))))] [(Blk.mk Bool.false (Body.fl FloatKind.f32 b0))])) (LO.one (Ex.exit 0) (St.mk [(0, (AV.v (TV.one (At.vw 0 0 an 3)))), (1, (AV.v (TV.one (At.int IntKind.i64 (zci an b0 k i))))), (5, (AV.v (TV.one (At.int IntKind.i64 (zep an b0 k i))))), (9, (AV.v (TV.one (At.bool (zer an b0 k i)))))] [(Blk.mk Bool.false (Body.fl FloatKind.f32 b0))]))))
noncomputable def z15 : Nat → St → Option (Bool × LO) := lpT 1 (pSt [(pTm 0 (pV (pOne (pVw 0 (liN 0) 3)))), (pTm 1 (pV (pOne (pInt IntKind.i64)))), (pTm 5 (pV (pOne (pInt IntKind.i64))))] [(pBlk Bool.false (pFl FloatKind.f32))]) (fun hs => zlt (hvN (hGet hs 0)) (hvI (hGet hs 1)) (hvI (hGet hs 2)) (hvLn (hGet hs 3)))
def zb5 (an : Nat) (b0 : List Nat) : Option ((Unit) ⊕ (Int × Int × Bool)) → Option (Ex × St)
  | none => none
  | some (Sum.inl r) => some (Ex.ret, (St.mk [(4, (AV.v (TV.one (At.int IntKind.i64 (Int.negSucc 0)))))] [(Blk.mk Bool.false (Body.fl FloatKind.f32 b0))]))
  | some (Sum.inr r) => some ((Ex.exit 0), (St.mk [(0, (AV.v (TV.one (At.vw 0 0 an 3)))), (1, (AV.v (TV.one (At.int IntKind.i64 r.1)))), (5, (AV.v (TV.one (At.int IntKind.i64 r.2.1)))), (9, (AV.v (TV.one (At.bool r.2.2))))] [(Blk.mk Bool.false (Body.fl FloatKind.f32 b0))]))
def znx (an : Nat) (b0 : List Nat) (x : Option ((Unit) ⊕ (Int × Int × Bool))) : LO := (LO.two (oL x) (LO.one Ex.ret (St.mk [(4, (AV.v (TV.one (At.int IntKind.i64 (Int.negSucc 0)))))] [(Blk.mk Bool.false (Body.fl FloatKind.f32 b0))])) (LO.one (Ex.exit 0) (St.mk [(0, (AV.v (TV.one (At.vw 0 0 an 3)))), (1, (AV.v (TV.one (At.int IntKind.i64 ((tR x).getD default).1)))), (5, (AV.v (TV.one (At.int IntKind.i64 ((tR x).getD default).2.1)))), (9, (AV.v (TV.one (At.bool ((tR x).getD default).2.2))))] [(Blk.mk Bool.false (Body.fl FloatKind.f32 b0))])))
theorem zov (an : Nat) (b0 : List Nat) : ∀ x : Option ((Unit) ⊕ (Int × Int × Bool)), x.isSome = true → (zb5 an b0) x = some (pick (znx an b0 x))
  | none, h => by cases h
  | some (Sum.inl r), _ => rfl
  | some (Sum.inr r), _ => rfl
theorem zoo (an : Nat) (k : Int) (i : Int) (b0 : List Nat) (K : Ex → St → Option (Ex × St)) : evC (R := Ex × St) Γ1 (evFn Γ1 8 8) 72 1 fi72.nt fi72.live fi72.nl 8 (findL 2 (loopsIn fi72.code)) (St.mk [(0, (AV.v (TV.one (At.vw 0 0 an 3)))), (1, (AV.v (TV.one (At.int IntKind.i64 k)))), (5, (AV.v (TV.one (At.int IntKind.i64 i))))] [(Blk.mk Bool.false (Body.fl FloatKind.f32 b0))]) K = z6q an b0 k i (fun k' i' => K .normal (St.mk [(0, (AV.v (TV.one (At.vw 0 0 an 3)))), (1, (AV.v (TV.one (At.int IntKind.i64 k')))), (5, (AV.v (TV.one (At.int IntKind.i64 i'))))] [(Blk.mk Bool.false (Body.fl FloatKind.f32 b0))])) (fun _ => K Ex.ret (St.mk [(4, (AV.v (TV.one (At.int IntKind.i64 (Int.negSucc 0)))))] [(Blk.mk Bool.false (Body.fl FloatKind.f32 b0))])) (fun c0_ c1_ c2_ => K (Ex.exit 0) (St.mk [(0, (AV.v (TV.one (At.vw 0 0 an 3)))), (1, (AV.v (TV.one (At.int IntKind.i64 c0_)))), (5, (AV.v (TV.one (At.int IntKind.i64 c1_)))), (9, (AV.v (TV.one (At.bool c2_))))] [(Blk.mk Bool.false (Body.fl FloatKind.f32 b0))])) := by kernel_rfl
theorem zoc (an : Nat) (b0 : List Nat) : ∀ (n : Nat) (k : Int) (i : Int), iter 72 2 1 (evC (R := Ex × St) Γ1 (evFn Γ1 8 8) 72 1 fi72.nt fi72.live fi72.nl 8 (findL 2 (loopsIn fi72.code))) n (St.mk [(0, (AV.v (TV.one (At.vw 0 0 an 3)))), (1, (AV.v (TV.one (At.int IntKind.i64 k)))), (5, (AV.v (TV.one (At.int IntKind.i64 i))))] [(Blk.mk Bool.false (Body.fl FloatKind.f32 b0))]) (fun e st => some (e, st)) = (zb5 an b0) (z4u an b0 n k i) := by
  intro n
  induction n with
  | zero => intros; rfl
  | succ n ih =>
    intro k i
    refine Eq.trans (iter_succ ..) (Eq.trans (zoo an k i b0 (nextK 72 2 1 (evC (R := Ex × St) Γ1 (evFn Γ1 8 8) 72 1 fi72.nt fi72.live fi72.nl 8 (findL 2 (loopsIn fi72.code))) n (fun e st => some (e, st)))) (Eq.trans ?_ (zms (zb5 an b0) rfl an b0 k i (fun k' i' => z4u an b0 n k' i') (fun _ => some (Sum.inl ())) (fun c0_ c1_ c2_ => some (Sum.inr (c0_, c1_, c2_))))))
    exact congrArg (fun kn_ => z6q an b0 k i kn_ (fun _ => (zb5 an b0) (some (Sum.inl ()))) (fun c0_ c1_ c2_ => (zb5 an b0) (some (Sum.inr (c0_, c1_, c2_))))) (funext fun k' => funext fun i' => ih k' i')
theorem z0s : LoopOne Try.prog fnTab 72 2 z15 := lp_of (Γ := Γ1) tyTab_ok (FnL.ok fnTab_ok _ _) (LpL.ok lt1_ok) (SumL.ok tb1_ok _) mixed (fi := fi72) (by kernel_rfl) (by kernel_rfl) (by
  intro lo st out hp
  obtain ⟨hs, e1, e2, e3⟩ := lpT_inv hp
  clear hp
  obtain rfl : st = (St.mk [(0, (AV.v (TV.one (At.vw 0 0 (hvN (hGet hs 0)) 3)))), (1, (AV.v (TV.one (At.int IntKind.i64 (hvI (hGet hs 1)))))), (5, (AV.v (TV.one (At.int IntKind.i64 (hvI (hGet hs 2))))))] [(Blk.mk Bool.false (Body.fl FloatKind.f32 (hvLn (hGet hs 3))))]) := e2.trans (by kernel_rfl)
  clear e2
  subst e1
  unfold zlt at e3
  injection e3 with h1 h2
  subst h2
  exact ⟨8, 8, big, Eq.trans (zoc (hvN (hGet hs 0)) (hvLn (hGet hs 3)) big (hvI (hGet hs 1)) (hvI (hGet hs 2))) (zov (hvN (hGet hs 0)) (hvLn (hGet hs 3)) (z4u (hvN (hGet hs 0)) (hvLn (hGet hs 3)) big (hvI (hGet hs 1)) (hvI (hGet hs 2))) h1)⟩)
noncomputable def zli (an : Nat) (k : Int) (i : Int) (b0 : List Nat) : Bool × LO := ((ze5 an b0 k i), (LO.two (zdj an b0 k i) (LO.one Ex.ret (St.mk [(4, (AV.v (TV.one (At.int IntKind.i64 (Int.negSucc 0)))))] [(Blk.mk Bool.false (Body.fl FloatKind.f32 b0))])) (LO.one (Ex.exit 0) (St.mk [(0, (AV.v (TV.one (At.vw 0 0 an 1)))), (1, (AV.v (TV.one (At.int IntKind.i64 (zch an b0 k i))))), (5, (AV.v (TV.one (At.int IntKind.i64 (zev an b0 k i))))), (9, (AV.v (TV.one (At.bool (zen an b0 k i)))))] [(Blk.mk Bool.false (Body.fl FloatKind.f32 b0))]))))
noncomputable def z14 : Nat → St → Option (Bool × LO) := lpT 1 (pSt [(pTm 0 (pV (pOne (pVw 0 (liN 0) 1)))), (pTm 1 (pV (pOne (pInt IntKind.i64)))), (pTm 5 (pV (pOne (pInt IntKind.i64))))] [(pBlk Bool.false (pFl FloatKind.f32))]) (fun hs => zli (hvN (hGet hs 0)) (hvI (hGet hs 1)) (hvI (hGet hs 2)) (hvLn (hGet hs 3)))
def zb3 (an : Nat) (b0 : List Nat) : Option ((Unit) ⊕ (Int × Int × Bool)) → Option (Ex × St)
  | none => none
  | some (Sum.inl r) => some (Ex.ret, (St.mk [(4, (AV.v (TV.one (At.int IntKind.i64 (Int.negSucc 0)))))] [(Blk.mk Bool.false (Body.fl FloatKind.f32 b0))]))
  | some (Sum.inr r) => some ((Ex.exit 0), (St.mk [(0, (AV.v (TV.one (At.vw 0 0 an 1)))), (1, (AV.v (TV.one (At.int IntKind.i64 r.1)))), (5, (AV.v (TV.one (At.int IntKind.i64 r.2.1)))), (9, (AV.v (TV.one (At.bool r.2.2))))] [(Blk.mk Bool.false (Body.fl FloatKind.f32 b0))]))
def zo4 (an : Nat) (b0 : List Nat) (x : Option ((Unit) ⊕ (Int × Int × Bool))) : LO := (LO.two (oL x) (LO.one Ex.ret (St.mk [(4, (AV.v (TV.one (At.int IntKind.i64 (Int.negSucc 0)))))] [(Blk.mk Bool.false (Body.fl FloatKind.f32 b0))])) (LO.one (Ex.exit 0) (St.mk [(0, (AV.v (TV.one (At.vw 0 0 an 1)))), (1, (AV.v (TV.one (At.int IntKind.i64 ((tR x).getD default).1)))), (5, (AV.v (TV.one (At.int IntKind.i64 ((tR x).getD default).2.1)))), (9, (AV.v (TV.one (At.bool ((tR x).getD default).2.2))))] [(Blk.mk Bool.false (Body.fl FloatKind.f32 b0))])))
theorem zon (an : Nat) (b0 : List Nat) : ∀ x : Option ((Unit) ⊕ (Int × Int × Bool)), x.isSome = true → (zb3 an b0) x = some (pick (zo4 an b0 x))
  | none, h => by cases h
  | some (Sum.inl r), _ => rfl
  | some (Sum.inr r), _ => rfl
theorem zop (an : Nat) (k : Int) (i : Int) (b0 : List Nat) (K : Ex → St → Option (Ex × St)) : evC (R := Ex × St) Γ1 (evFn Γ1 8 8) 79 1 fi79.nt fi79.live fi79.nl 8 (findL 2 (loopsIn fi79.code)) (St.mk [(0, (AV.v (TV.one (At.vw 0 0 an 1)))), (1, (AV.v (TV.one (At.int IntKind.i64 k)))), (5, (AV.v (TV.one (At.int IntKind.i64 i))))] [(Blk.mk Bool.false (Body.fl FloatKind.f32 b0))]) K = z6t an b0 k i (fun k' i' => K .normal (St.mk [(0, (AV.v (TV.one (At.vw 0 0 an 1)))), (1, (AV.v (TV.one (At.int IntKind.i64 k')))), (5, (AV.v (TV.one (At.int IntKind.i64 i'))))] [(Blk.mk Bool.false (Body.fl FloatKind.f32 b0))])) (fun _ => K Ex.ret (St.mk [(4, (AV.v (TV.one (At.int IntKind.i64 (Int.negSucc 0)))))] [(Blk.mk Bool.false (Body.fl FloatKind.f32 b0))])) (fun c0_ c1_ c2_ => K (Ex.exit 0) (St.mk [(0, (AV.v (TV.one (At.vw 0 0 an 1)))), (1, (AV.v (TV.one (At.int IntKind.i64 c0_)))), (5, (AV.v (TV.one (At.int IntKind.i64 c1_)))), (9, (AV.v (TV.one (At.bool c2_))))] [(Blk.mk Bool.false (Body.fl FloatKind.f32 b0))])) := by kernel_rfl
theorem zok (an : Nat) (b0 : List Nat) : ∀ (n : Nat) (k : Int) (i : Int), iter 79 2 1 (evC (R := Ex × St) Γ1 (evFn Γ1 8 8) 79 1 fi79.nt fi79.live fi79.nl 8 (findL 2 (loopsIn fi79.code))) n (St.mk [(0, (AV.v (TV.one (At.vw 0 0 an 1)))), (1, (AV.v (TV.one (At.int IntKind.i64 k)))), (5, (AV.v (TV.one (At.int IntKind.i64 i))))] [(Blk.mk Bool.false (Body.fl FloatKind.f32 b0))]) (fun e st => some (e, st)) = (zb3 an b0) (z4w an b0 n k i) := by
  intro n
  induction n with
  | zero => intros; rfl
  | succ n ih =>
    intro k i
    refine Eq.trans (iter_succ ..) (Eq.trans (zop an k i b0 (nextK 79 2 1 (evC (R := Ex × St) Γ1 (evFn Γ1 8 8) 79 1 fi79.nt fi79.live fi79.nl 8 (findL 2 (loopsIn fi79.code))) n (fun e st => some (e, st)))) (Eq.trans ?_ (zmq (zb3 an b0) rfl an b0 k i (fun k' i' => z4w an b0 n k' i') (fun _ => some (Sum.inl ())) (fun c0_ c1_ c2_ => some (Sum.inr (c0_, c1_, c2_))))))
    exact congrArg (fun kn_ => z6t an b0 k i kn_ (fun _ => (zb3 an b0) (some (Sum.inl ()))) (fun c0_ c1_ c2_ => (zb3 an b0) (some (Sum.inr (c0_, c1_, c2_))))) (funext fun k' => funext fun i' => ih k' i')
theorem z0r : LoopOne Try.prog fnTab 79 2 z14 := lp_of (Γ := Γ1) tyTab_ok (FnL.ok fnTab_ok _ _) (LpL.ok lt1_ok) (SumL.ok tb1_ok _) mixed (fi := fi79) (by kernel_rfl) (by kernel_rfl) (by
  intro lo st out hp
  obtain ⟨hs, e1, e2, e3⟩ := lpT_inv hp
  clear hp
  obtain rfl : st = (St.mk [(0, (AV.v (TV.one (At.vw 0 0 (hvN (hGet hs 0)) 1)))), (1, (AV.v (TV.one (At.int IntKind.i64 (hvI (hGet hs 1)))))), (5, (AV.v (TV.one (At.int IntKind.i64 (hvI (hGet hs 2))))))] [(Blk.mk Bool.false (Body.fl FloatKind.f32 (hvLn (hGet hs 3))))]) := e2.trans (by kernel_rfl)
  clear e2
  subst e1
  unfold zli at e3
  injection e3 with h1 h2
  subst h2
  exact ⟨8, 8, big, Eq.trans (zok (hvN (hGet hs 0)) (hvLn (hGet hs 3)) big (hvI (hGet hs 1)) (hvI (hGet hs 2))) (zon (hvN (hGet hs 0)) (hvLn (hGet hs 3)) (z4w (hvN (hGet hs 0)) (hvLn (hGet hs 3)) big (hvI (hGet hs 1)) (hvI (hGet hs 2))) h1)⟩)
noncomputable def tb2 : List (Nat × (List PT → Option (Bool × AV × List Blk))) := [(125, z2j), (128, z0y), (134, z1m), (137, z2k), (18, z2s), (44, z2q), (48, z2a), (54, z3i), (61, z2t), (63, z4i), (64, z49), (66, z48), (80, z2b), (97, z3h), (104, z0t), (115, z01), (14, z35), (67, z22), (88, z11), (92, z4b), (103, z3o), (105, z36), (111, z40), (114, z3n), (118, z21), (122, z1e)]
noncomputable def lt2 : List ((Nat × Nat) × (Nat → St → Option (Bool × LO))) := [((52, 3), z1h), ((72, 2), z15), ((79, 2), z14)]
noncomputable def Γ2 : Ctx := ⟨tyTab, fnTab, tblSum tb2, tblLp lt2⟩
theorem tb2_ok : SumL Try.prog tb2 := SumL.cons z1k (SumL.cons z0l (SumL.cons z19 (SumL.cons z1l (SumL.cons z1t (SumL.cons z1u (SumL.cons z1i (SumL.cons z29 (SumL.cons z1w (SumL.cons z3u (SumL.cons z3b (SumL.cons z39 (SumL.cons z1j (SumL.cons z28 (SumL.cons z0k (SumL.cons z00 (SumL.cons z24 (SumL.cons z1f (SumL.cons z0q (SumL.cons z3l (SumL.cons z2g (SumL.cons z23 (SumL.cons z33 (SumL.cons z2h (SumL.cons z1g (SumL.cons z12 (SumL.nil))))))))))))))))))))))))))
theorem lt2_ok : LpL Try.prog fnTab lt2 := LpL.cons z13 (LpL.cons z0s (LpL.cons z0r (LpL.nil)))
noncomputable def z45 : List PT → Option (Bool × AV × List Blk)
  | [.agg [.row 1 q0m (.fl .f32 q0q), .row 1 q0o (.fl .f32 q0s), .row 1 q0n (.fl .f32 q0r), .row 3 q0v (.fl .f32 q0x), .s (.int .i64 q19), .s (.flt .f32 q26), .s (.flt .f32 q27)], .one (.s (.int .i64 q2l))] => some ((zjz q0m q0q q0o q0s q0n q0r q0v q0x q19 q26 q27 q2l), ((AV.v (TV.one (At.int IntKind.i64 (zhq q0m q0q q0o q0s q0n q0r q0v q0x q19 q26 q27 q2l)))), []))
  | _ => none
def zpg (q0m : Nat) (q0q : List Nat) (q0o : Nat) (q0s : List Nat) (q0n : Nat) (q0r : List Nat) (q0v : Nat) (q0x : List Nat) (q19 : Int) (q26 : Nat) (q27 : Nat) (q2l : Int) : Option (Int) → Option (AV × List Blk)
  | some r => some ((AV.v (TV.one (At.int IntKind.i64 r))), [])
  | none => none
theorem zsu (q0m : Nat) (q0q : List Nat) (q0o : Nat) (q0s : List Nat) (q0n : Nat) (q0r : List Nat) (q0v : Nat) (q0x : List Nat) (q19 : Int) (q26 : Nat) (q27 : Nat) (q2l : Int) : evFn Γ2 8 8 37 (impTs 0 [.agg [.row 1 q0m (.fl .f32 q0q), .row 1 q0o (.fl .f32 q0s), .row 1 q0n (.fl .f32 q0r), .row 3 q0v (.fl .f32 q0x), .s (.int .i64 q19), .s (.flt .f32 q26), .s (.flt .f32 q27)], .one (.s (.int .i64 q2l))]).1 (impTs 0 [.agg [.row 1 q0m (.fl .f32 q0q), .row 1 q0o (.fl .f32 q0s), .row 1 q0n (.fl .f32 q0r), .row 3 q0v (.fl .f32 q0x), .s (.int .i64 q19), .s (.flt .f32 q26), .s (.flt .f32 q27)], .one (.s (.int .i64 q2l))]).2 (expo (impTs 0 [.agg [.row 1 q0m (.fl .f32 q0q), .row 1 q0o (.fl .f32 q0s), .row 1 q0n (.fl .f32 q0r), .row 3 q0v (.fl .f32 q0x), .s (.int .i64 q19), .s (.flt .f32 q26), .s (.flt .f32 q27)], .one (.s (.int .i64 q2l))]).2.length) = zf8 q0m q0q q0o q0s q0n q0r q0v q0x q19 q26 q27 q2l (fun c0_ => some ((AV.v (TV.one (At.int IntKind.i64 c0_))), [])) := by kernel_rfl
theorem z37 : SumOne Try.prog 37 z45 := sum_of (Γ := Γ2) (fuel := 8) (d := 8) tyTab_ok (FnL.ok fnTab_ok _ _) (LpL.ok lt2_ok) (SumL.ok tb2_ok _) mixed (by
  intro pts v news hp hc
  clear hc
  unfold z45 at hp
  split at hp
  · rename_i q0m q0q q0o q0s q0n q0r q0v q0x q19 q26 q27 q2l
    exact Eq.trans (Eq.trans (zsu q0m q0q q0o q0s q0n q0r q0v q0x q19 q26 q27 q2l) (zr3 (zpg q0m q0q q0o q0s q0n q0r q0v q0x q19 q26 q27 q2l) rfl q0m q0q q0o q0s q0n q0r q0v q0x q19 q26 q27 q2l (fun c0_ => some c0_))) (fin_out (o := (zpg q0m q0q q0o q0s q0n q0r q0v q0x q19 q26 q27 q2l)) (x := zf0 q0m q0q q0o q0s q0n q0r q0v q0x q19 q26 q27 q2l) (d := default) (V := fun r => ((AV.v (TV.one (At.int IntKind.i64 r))), [])) (fun r => rfl) hp)
  · cases hp)
noncomputable def z2o : List PT → Option (Bool × AV × List Blk)
  | [.one (.row 1 a_n (.fl .f32 a))] => some ((zd2 a_n a), ((AV.v (TV.one (At.sl 0 0 (zc5 a_n a) 1))), [(Blk.mk Bool.true (Body.fl FloatKind.f32 (zc7 a_n a)))]))
  | _ => none
def zmv (a_n : Nat) (a : List Nat) : Option (Nat × (List Nat)) → Option (AV × List Blk)
  | some r => some ((AV.v (TV.one (At.sl 0 0 r.1 1))), [(Blk.mk Bool.true (Body.fl FloatKind.f32 r.2))])
  | none => none
theorem zre (a_n : Nat) (a : List Nat) : evFn Γ2 8 8 52 (impTs 0 [.one (.row 1 a_n (.fl .f32 a))]).1 (impTs 0 [.one (.row 1 a_n (.fl .f32 a))]).2 (expo (impTs 0 [.one (.row 1 a_n (.fl .f32 a))]).2.length) = zdf a_n a (fun c0_ c1_ => some ((AV.v (TV.one (At.sl 0 0 c0_ 1))), [(Blk.mk Bool.true (Body.fl FloatKind.f32 c1_))])) := by kernel_rfl
theorem z1z : SumOne Try.prog 52 z2o := sum_of (Γ := Γ2) (fuel := 8) (d := 8) tyTab_ok (FnL.ok fnTab_ok _ _) (LpL.ok lt2_ok) (SumL.ok tb2_ok _) mixed (by
  intro pts v news hp hc
  clear hc
  unfold z2o at hp
  split at hp
  · rename_i a_n a
    exact Eq.trans (Eq.trans (zre a_n a) (zp3 (zmv a_n a) rfl a_n a (fun c0_ c1_ => some (c0_, c1_)))) (fin_out (o := (zmv a_n a)) (x := zak a_n a) (d := default) (V := fun r => ((AV.v (TV.one (At.sl 0 0 r.1 1))), [(Blk.mk Bool.true (Body.fl FloatKind.f32 r.2))])) (fun r => rfl) hp)
  · cases hp)
noncomputable def z1s : List PT → Option (Bool × AV × List Blk)
  | [.one (.row 3 a_n (.fl .f32 a)), .one (.s (.int .i64 k))] => some ((zfr a_n a k), ((AV.v (TV.one (At.int IntKind.i64 (zcs a_n a k)))), []))
  | _ => none
def zmf (a_n : Nat) (a : List Nat) (k : Int) : Option (Int) → Option (AV × List Blk)
  | some r => some ((AV.v (TV.one (At.int IntKind.i64 r))), [])
  | none => none
theorem zqr (a_n : Nat) (a : List Nat) (k : Int) : evFn Γ2 8 8 72 (impTs 0 [.one (.row 3 a_n (.fl .f32 a)), .one (.s (.int .i64 k))]).1 (impTs 0 [.one (.row 3 a_n (.fl .f32 a)), .one (.s (.int .i64 k))]).2 (expo (impTs 0 [.one (.row 3 a_n (.fl .f32 a)), .one (.s (.int .i64 k))]).2.length) = zav a_n a k (fun c0_ => some ((AV.v (TV.one (At.int IntKind.i64 c0_))), [])) := by kernel_rfl
theorem z1d : SumOne Try.prog 72 z1s := sum_of (Γ := Γ2) (fuel := 8) (d := 8) tyTab_ok (FnL.ok fnTab_ok _ _) (LpL.ok lt2_ok) (SumL.ok tb2_ok _) mixed (by
  intro pts v news hp hc
  clear hc
  unfold z1s at hp
  split at hp
  · rename_i a_n a k
    exact Eq.trans (Eq.trans (zqr a_n a k) (zo1 (zmf a_n a k) rfl a_n a k (fun c0_ => some c0_))) (fin_out (o := (zmf a_n a k)) (x := zay a_n a k) (d := default) (V := fun r => ((AV.v (TV.one (At.int IntKind.i64 r))), [])) (fun r => rfl) hp)
  · cases hp)
noncomputable def z1v : List PT → Option (Bool × AV × List Blk)
  | [.one (.row 1 a_n (.fl .f32 a)), .one (.s (.int .i64 k))] => some ((zaw a_n a k), ((AV.v (TV.one (At.int IntKind.i64 (z59 a_n a k)))), []))
  | _ => none
def zmh (a_n : Nat) (a : List Nat) (k : Int) : Option (Int) → Option (AV × List Blk)
  | some r => some ((AV.v (TV.one (At.int IntKind.i64 r))), [])
  | none => none
theorem zqj (a_n : Nat) (a : List Nat) (k : Int) : evFn Γ2 8 8 79 (impTs 0 [.one (.row 1 a_n (.fl .f32 a)), .one (.s (.int .i64 k))]).1 (impTs 0 [.one (.row 1 a_n (.fl .f32 a)), .one (.s (.int .i64 k))]).2 (expo (impTs 0 [.one (.row 1 a_n (.fl .f32 a)), .one (.s (.int .i64 k))]).2.length) = zb0 a_n a k (fun c0_ => some ((AV.v (TV.one (At.int IntKind.i64 c0_))), [])) := by kernel_rfl
theorem z1c : SumOne Try.prog 79 z1v := sum_of (Γ := Γ2) (fuel := 8) (d := 8) tyTab_ok (FnL.ok fnTab_ok _ _) (LpL.ok lt2_ok) (SumL.ok tb2_ok _) mixed (by
  intro pts v news hp hc
  clear hc
  unfold z1v at hp
  split at hp
  · rename_i a_n a k
    exact Eq.trans (Eq.trans (zqj a_n a k) (znz (zmh a_n a k) rfl a_n a k (fun c0_ => some c0_))) (fin_out (o := (zmh a_n a k)) (x := zax a_n a k) (d := default) (V := fun r => ((AV.v (TV.one (At.int IntKind.i64 r))), [])) (fun r => rfl) hp)
  · cases hp)
noncomputable def z3a : List PT → Option (Bool × AV × List Blk)
  | [.agg [.row 1 q08 (.fl .f32 q0e), .row 1 q09 (.fl .f32 q0g), .row 1 q0a (.fl .f32 q0f), .row 3 q0h (.fl .f32 q0l), .s (.int .i64 q0p), .s (.flt .f32 q0u), .s (.flt .f32 q0t)]] => some ((zkz q08 q0e q09 q0g q0a q0f q0h q0l q0p q0u q0t), ((AV.v (TV.agg [(At.sl 0 0 (z9t q08 q0e q09 q0g q0a q0f q0h q0l q0p q0u q0t) 1), (At.sl 1 0 (z9u q08 q0e q09 q0g q0a q0f q0h q0l q0p q0u q0t) 1), (At.sl 2 0 (z9s q08 q0e q09 q0g q0a q0f q0h q0l q0p q0u q0t) 1), (At.sl 3 0 (z93 q08 q0e q09 q0g q0a q0f q0h q0l q0p q0u q0t) 3), (At.int IntKind.i64 q0p), (At.flt FloatKind.f32 q0u), (At.flt FloatKind.f32 q0t)])), [(Blk.mk Bool.true (Body.fl FloatKind.f32 (zd0 q08 q0e q09 q0g q0a q0f q0h q0l q0p q0u q0t))), (Blk.mk Bool.true (Body.fl FloatKind.f32 (zd9 q08 q0e q09 q0g q0a q0f q0h q0l q0p q0u q0t))), (Blk.mk Bool.true (Body.fl FloatKind.f32 (zdb q08 q0e q09 q0g q0a q0f q0h q0l q0p q0u q0t))), (Blk.mk Bool.true (Body.fl FloatKind.f32 (zcy q08 q0e q09 q0g q0a q0f q0h q0l q0p q0u q0t)))]))
  | _ => none
def znh (q08 : Nat) (q0e : List Nat) (q09 : Nat) (q0g : List Nat) (q0a : Nat) (q0f : List Nat) (q0h : Nat) (q0l : List Nat) (q0p : Int) (q0u : Nat) (q0t : Nat) : Option (Nat × Nat × Nat × Nat × (List Nat) × (List Nat) × (List Nat) × (List Nat)) → Option (AV × List Blk)
  | some r => some ((AV.v (TV.agg [(At.sl 0 0 r.1 1), (At.sl 1 0 r.2.1 1), (At.sl 2 0 r.2.2.1 1), (At.sl 3 0 r.2.2.2.1 3), (At.int IntKind.i64 q0p), (At.flt FloatKind.f32 q0u), (At.flt FloatKind.f32 q0t)])), [(Blk.mk Bool.true (Body.fl FloatKind.f32 r.2.2.2.2.1)), (Blk.mk Bool.true (Body.fl FloatKind.f32 r.2.2.2.2.2.1)), (Blk.mk Bool.true (Body.fl FloatKind.f32 r.2.2.2.2.2.2.1)), (Blk.mk Bool.true (Body.fl FloatKind.f32 r.2.2.2.2.2.2.2))])
  | none => none
theorem zsc (q08 : Nat) (q0e : List Nat) (q09 : Nat) (q0g : List Nat) (q0a : Nat) (q0f : List Nat) (q0h : Nat) (q0l : List Nat) (q0p : Int) (q0u : Nat) (q0t : Nat) : evFn Γ2 8 8 93 (impTs 0 [.agg [.row 1 q08 (.fl .f32 q0e), .row 1 q09 (.fl .f32 q0g), .row 1 q0a (.fl .f32 q0f), .row 3 q0h (.fl .f32 q0l), .s (.int .i64 q0p), .s (.flt .f32 q0u), .s (.flt .f32 q0t)]]).1 (impTs 0 [.agg [.row 1 q08 (.fl .f32 q0e), .row 1 q09 (.fl .f32 q0g), .row 1 q0a (.fl .f32 q0f), .row 3 q0h (.fl .f32 q0l), .s (.int .i64 q0p), .s (.flt .f32 q0u), .s (.flt .f32 q0t)]]).2 (expo (impTs 0 [.agg [.row 1 q08 (.fl .f32 q0e), .row 1 q09 (.fl .f32 q0g), .row 1 q0a (.fl .f32 q0f), .row 3 q0h (.fl .f32 q0l), .s (.int .i64 q0p), .s (.flt .f32 q0u), .s (.flt .f32 q0t)]]).2.length) = zdo q08 q0e q09 q0g q0a q0f q0h q0l q0p q0u q0t (fun c0_ c1_ c2_ c3_ c4_ c5_ c6_ c7_ => some ((AV.v (TV.agg [(At.sl 0 0 c0_ 1), (At.sl 1 0 c1_ 1), (At.sl 2 0 c2_ 1), (At.sl 3 0 c3_ 3), (At.int IntKind.i64 q0p), (At.flt FloatKind.f32 q0u), (At.flt FloatKind.f32 q0t)])), [(Blk.mk Bool.true (Body.fl FloatKind.f32 c4_)), (Blk.mk Bool.true (Body.fl FloatKind.f32 c5_)), (Blk.mk Bool.true (Body.fl FloatKind.f32 c6_)), (Blk.mk Bool.true (Body.fl FloatKind.f32 c7_))])) := by kernel_rfl
theorem z2c : SumOne Try.prog 93 z3a := sum_of (Γ := Γ2) (fuel := 8) (d := 8) tyTab_ok (FnL.ok fnTab_ok _ _) (LpL.ok lt2_ok) (SumL.ok tb2_ok _) mixed (by
  intro pts v news hp hc
  clear hc
  unfold z3a at hp
  split at hp
  · rename_i q08 q0e q09 q0g q0a q0f q0h q0l q0p q0u q0t
    exact Eq.trans (Eq.trans (zsc q08 q0e q09 q0g q0a q0f q0h q0l q0p q0u q0t) (zq2 (znh q08 q0e q09 q0g q0a q0f q0h q0l q0p q0u q0t) rfl q08 q0e q09 q0g q0a q0f q0h q0l q0p q0u q0t (fun c0_ c1_ c2_ c3_ c4_ c5_ c6_ c7_ => some (c0_, c1_, c2_, c3_, c4_, c5_, c6_, c7_)))) (fin_out (o := (znh q08 q0e q09 q0g q0a q0f q0h q0l q0p q0u q0t)) (x := z6o q08 q0e q09 q0g q0a q0f q0h q0l q0p q0u q0t) (d := default) (V := fun r => ((AV.v (TV.agg [(At.sl 0 0 r.1 1), (At.sl 1 0 r.2.1 1), (At.sl 2 0 r.2.2.1 1), (At.sl 3 0 r.2.2.2.1 3), (At.int IntKind.i64 q0p), (At.flt FloatKind.f32 q0u), (At.flt FloatKind.f32 q0t)])), [(Blk.mk Bool.true (Body.fl FloatKind.f32 r.2.2.2.2.1)), (Blk.mk Bool.true (Body.fl FloatKind.f32 r.2.2.2.2.2.1)), (Blk.mk Bool.true (Body.fl FloatKind.f32 r.2.2.2.2.2.2.1)), (Blk.mk Bool.true (Body.fl FloatKind.f32 r.2.2.2.2.2.2.2))])) (fun r => rfl) hp)
  · cases hp)
noncomputable def z2n : List PT → Option (Bool × AV × List Blk)
  | [.one (.s (.flt .f32 x))] => some ((zjd x), ((AV.v (TV.one (At.bool (zhr x)))), []))
  | _ => none
def zmz (x : Nat) : Option (Bool) → Option (AV × List Blk)
  | some r => some ((AV.v (TV.one (At.bool r))), [])
  | none => none
theorem zrp (x : Nat) : evFn Γ2 8 8 119 (impTs 0 [.one (.s (.flt .f32 x))]).1 (impTs 0 [.one (.s (.flt .f32 x))]).2 (expo (impTs 0 [.one (.s (.flt .f32 x))]).2.length) = zda x (fun c0_ => some ((AV.v (TV.one (At.bool c0_))), [])) := by kernel_rfl
theorem z1y : SumOne Try.prog 119 z2n := sum_of (Γ := Γ2) (fuel := 8) (d := 8) tyTab_ok (FnL.ok fnTab_ok _ _) (LpL.ok lt2_ok) (SumL.ok tb2_ok _) mixed (by
  intro pts v news hp hc
  clear hc
  unfold z2n at hp
  split at hp
  · rename_i x
    exact Eq.trans (Eq.trans (zrp x) (zp0 (zmz x) rfl x (fun c0_ => some c0_))) (fin_out (o := (zmz x)) (x := zd8 x) (d := default) (V := fun r => ((AV.v (TV.one (At.bool r))), [])) (fun r => rfl) hp)
  · cases hp)
noncomputable def zm4 (an : Nat) (bn : Nat) (i : Int) (b0 : List Nat) (b1 : List Nat) : Bool × LO := ((zeq an bn b0 b1 i), (LO.two (zeb an bn b0 b1 i) (LO.one Ex.ret (St.mk [(4, (AV.v (TV.one (At.bool Bool.false))))] [(Blk.mk Bool.false (Body.fl FloatKind.f32 b0)), (Blk.mk Bool.false (Body.fl FloatKind.f32 b1))])) (LO.one (Ex.exit 0) (St.mk [(0, (AV.v (TV.one (At.vw 0 0 an 1)))), (1, (AV.v (TV.one (At.vw 1 0 bn 1)))), (5, (AV.v (TV.one (At.int IntKind.i64 (zgk an bn b0 b1 i))))), (14, (AV.v (TV.one (At.bool (zg9 an bn b0 b1 i)))))] [(Blk.mk Bool.false (Body.fl FloatKind.f32 b0)), (Blk.mk Bool.false (Body.fl FloatKind.f32 b1))]))))
noncomputable def z1n : Nat → St → Option (Bool × LO) := lpT 2 (pSt [(pTm 0 (pV (pOne (pVw 0 (liN 0) 1)))), (pTm 1 (pV (pOne (pVw 1 (liN 0) 1)))), (pTm 5 (pV (pOne (pInt IntKind.i64))))] [(pBlk Bool.false (pFl FloatKind.f32)), (pBlk Bool.false (pFl FloatKind.f32))]) (fun hs => zm4 (hvN (hGet hs 0)) (hvN (hGet hs 1)) (hvI (hGet hs 2)) (hvLn (hGet hs 3)) (hvLn (hGet hs 4)))
def zcq (an : Nat) (bn : Nat) (b0 : List Nat) (b1 : List Nat) : Option ((Unit) ⊕ (Int × Bool)) → Option (Ex × St)
  | none => none
  | some (Sum.inl r) => some (Ex.ret, (St.mk [(4, (AV.v (TV.one (At.bool Bool.false))))] [(Blk.mk Bool.false (Body.fl FloatKind.f32 b0)), (Blk.mk Bool.false (Body.fl FloatKind.f32 b1))]))
  | some (Sum.inr r) => some ((Ex.exit 0), (St.mk [(0, (AV.v (TV.one (At.vw 0 0 an 1)))), (1, (AV.v (TV.one (At.vw 1 0 bn 1)))), (5, (AV.v (TV.one (At.int IntKind.i64 r.1)))), (14, (AV.v (TV.one (At.bool r.2))))] [(Blk.mk Bool.false (Body.fl FloatKind.f32 b0)), (Blk.mk Bool.false (Body.fl FloatKind.f32 b1))]))
def zp5 (an : Nat) (bn : Nat) (b0 : List Nat) (b1 : List Nat) (x : Option ((Unit) ⊕ (Int × Bool))) : LO := (LO.two (oL x) (LO.one Ex.ret (St.mk [(4, (AV.v (TV.one (At.bool Bool.false))))] [(Blk.mk Bool.false (Body.fl FloatKind.f32 b0)), (Blk.mk Bool.false (Body.fl FloatKind.f32 b1))])) (LO.one (Ex.exit 0) (St.mk [(0, (AV.v (TV.one (At.vw 0 0 an 1)))), (1, (AV.v (TV.one (At.vw 1 0 bn 1)))), (5, (AV.v (TV.one (At.int IntKind.i64 ((tR x).getD default).1)))), (14, (AV.v (TV.one (At.bool ((tR x).getD default).2))))] [(Blk.mk Bool.false (Body.fl FloatKind.f32 b0)), (Blk.mk Bool.false (Body.fl FloatKind.f32 b1))])))
theorem zq4 (an : Nat) (bn : Nat) (b0 : List Nat) (b1 : List Nat) : ∀ x : Option ((Unit) ⊕ (Int × Bool)), x.isSome = true → (zcq an bn b0 b1) x = some (pick (zp5 an bn b0 b1 x))
  | none, h => by cases h
  | some (Sum.inl r), _ => rfl
  | some (Sum.inr r), _ => rfl
theorem zpt (an : Nat) (bn : Nat) (i : Int) (b0 : List Nat) (b1 : List Nat) (K : Ex → St → Option (Ex × St)) : evC (R := Ex × St) Γ2 (evFn Γ2 8 8) 57 2 fi57.nt fi57.live fi57.nl 8 (findL 4 (loopsIn fi57.code)) (St.mk [(0, (AV.v (TV.one (At.vw 0 0 an 1)))), (1, (AV.v (TV.one (At.vw 1 0 bn 1)))), (5, (AV.v (TV.one (At.int IntKind.i64 i))))] [(Blk.mk Bool.false (Body.fl FloatKind.f32 b0)), (Blk.mk Bool.false (Body.fl FloatKind.f32 b1))]) K = z7o an bn b0 b1 i (fun i' => K .normal (St.mk [(0, (AV.v (TV.one (At.vw 0 0 an 1)))), (1, (AV.v (TV.one (At.vw 1 0 bn 1)))), (5, (AV.v (TV.one (At.int IntKind.i64 i'))))] [(Blk.mk Bool.false (Body.fl FloatKind.f32 b0)), (Blk.mk Bool.false (Body.fl FloatKind.f32 b1))])) (fun _ => K Ex.ret (St.mk [(4, (AV.v (TV.one (At.bool Bool.false))))] [(Blk.mk Bool.false (Body.fl FloatKind.f32 b0)), (Blk.mk Bool.false (Body.fl FloatKind.f32 b1))])) (fun c0_ c1_ => K (Ex.exit 0) (St.mk [(0, (AV.v (TV.one (At.vw 0 0 an 1)))), (1, (AV.v (TV.one (At.vw 1 0 bn 1)))), (5, (AV.v (TV.one (At.int IntKind.i64 c0_)))), (14, (AV.v (TV.one (At.bool c1_))))] [(Blk.mk Bool.false (Body.fl FloatKind.f32 b0)), (Blk.mk Bool.false (Body.fl FloatKind.f32 b1))])) := by kernel_rfl
theorem zpj (an : Nat) (bn : Nat) (b0 : List Nat) (b1 : List Nat) : ∀ (n : Nat) (i : Int), iter 57 4 2 (evC (R := Ex × St) Γ2 (evFn Γ2 8 8) 57 2 fi57.nt fi57.live fi57.nl 8 (findL 4 (loopsIn fi57.code))) n (St.mk [(0, (AV.v (TV.one (At.vw 0 0 an 1)))), (1, (AV.v (TV.one (At.vw 1 0 bn 1)))), (5, (AV.v (TV.one (At.int IntKind.i64 i))))] [(Blk.mk Bool.false (Body.fl FloatKind.f32 b0)), (Blk.mk Bool.false (Body.fl FloatKind.f32 b1))]) (fun e st => some (e, st)) = (zcq an bn b0 b1) (z63 an bn b0 b1 n i) := by
  intro n
  induction n with
  | zero => intros; rfl
  | succ n ih =>
    intro i
    refine Eq.trans (iter_succ ..) (Eq.trans (zpt an bn i b0 b1 (nextK 57 4 2 (evC (R := Ex × St) Γ2 (evFn Γ2 8 8) 57 2 fi57.nt fi57.live fi57.nl 8 (findL 4 (loopsIn fi57.code))) n (fun e st => some (e, st)))) (Eq.trans ?_ (znn (zcq an bn b0 b1) rfl an bn b0 b1 i (fun i' => z63 an bn b0 b1 n i') (fun _ => some (Sum.inl ())) (fun c0_ c1_ => some (Sum.inr (c0_, c1_))))))
    exact congrArg (fun kn_ => z7o an bn b0 b1 i kn_ (fun _ => (zcq an bn b0 b1) (some (Sum.inl ()))) (fun c0_ c1_ => (zcq an bn b0 b1) (some (Sum.inr (c0_, c1_))))) (funext fun i' => ih i')
theorem z18 : LoopOne Try.prog fnTab 57 4 z1n := lp_of (Γ := Γ2) tyTab_ok (FnL.ok fnTab_ok _ _) (LpL.ok lt2_ok) (SumL.ok tb2_ok _) mixed (fi := fi57) (by kernel_rfl) (by kernel_rfl) (by
  intro lo st out hp
  obtain ⟨hs, e1, e2, e3⟩ := lpT_inv hp
  clear hp
  obtain rfl : st = (St.mk [(0, (AV.v (TV.one (At.vw 0 0 (hvN (hGet hs 0)) 1)))), (1, (AV.v (TV.one (At.vw 1 0 (hvN (hGet hs 1)) 1)))), (5, (AV.v (TV.one (At.int IntKind.i64 (hvI (hGet hs 2))))))] [(Blk.mk Bool.false (Body.fl FloatKind.f32 (hvLn (hGet hs 3)))), (Blk.mk Bool.false (Body.fl FloatKind.f32 (hvLn (hGet hs 4))))]) := e2.trans (by kernel_rfl)
  clear e2
  subst e1
  unfold zm4 at e3
  injection e3 with h1 h2
  subst h2
  exact ⟨8, 8, big, Eq.trans (zpj (hvN (hGet hs 0)) (hvN (hGet hs 1)) (hvLn (hGet hs 3)) (hvLn (hGet hs 4)) big (hvI (hGet hs 2))) (zq4 (hvN (hGet hs 0)) (hvN (hGet hs 1)) (hvLn (hGet hs 3)) (hvLn (hGet hs 4)) (z63 (hvN (hGet hs 0)) (hvN (hGet hs 1)) (hvLn (hGet hs 3)) (hvLn (hGet hs 4)) big (hvI (hGet hs 2))) h1)⟩)
noncomputable def zm6 (an : Nat) (q2u : Nat) (i : Int) (b0 : List Nat) (b1 : List Nat) : Bool × LO := ((zcn an q2u b0 i b1), (LO.one (Ex.exit 0) (St.mk [(0, (AV.v (TV.one (At.vw 0 0 an 3)))), (3, (AV.v (TV.one (At.sl 1 0 q2u 3)))), (4, (AV.v (TV.one (At.int IntKind.i64 (zgi an q2u b0 i b1))))), (11, (AV.v (TV.one (At.bool (zgc an q2u b0 i b1)))))] [(Blk.mk Bool.false (Body.fl FloatKind.f32 b0)), (Blk.mk Bool.true (Body.fl FloatKind.f32 (zag an q2u b0 i b1)))])))
noncomputable def z1o : Nat → St → Option (Bool × LO) := lpT 1 (pSt [(pTm 0 (pV (pOne (pVw 0 (liN 0) 3)))), (pTm 3 (pV (pOne (pSl 1 (liN 0) 3)))), (pTm 4 (pV (pOne (pInt IntKind.i64))))] [(pBlk Bool.false (pFl FloatKind.f32)), (pBlk Bool.true (pFl FloatKind.f32))]) (fun hs => zm6 (hvN (hGet hs 0)) (hvN (hGet hs 1)) (hvI (hGet hs 2)) (hvLn (hGet hs 3)) (hvLn (hGet hs 4)))
def zeo (an : Nat) (q2u : Nat) (b0 : List Nat) : Option ((Int × Bool × (List Nat))) → Option (Ex × St)
  | none => none
  | some r => some ((Ex.exit 0), (St.mk [(0, (AV.v (TV.one (At.vw 0 0 an 3)))), (3, (AV.v (TV.one (At.sl 1 0 q2u 3)))), (4, (AV.v (TV.one (At.int IntKind.i64 r.1)))), (11, (AV.v (TV.one (At.bool r.2.1))))] [(Blk.mk Bool.false (Body.fl FloatKind.f32 b0)), (Blk.mk Bool.true (Body.fl FloatKind.f32 r.2.2))]))
def zp8 (an : Nat) (q2u : Nat) (b0 : List Nat) (x : Option ((Int × Bool × (List Nat)))) : LO := (LO.one (Ex.exit 0) (St.mk [(0, (AV.v (TV.one (At.vw 0 0 an 3)))), (3, (AV.v (TV.one (At.sl 1 0 q2u 3)))), (4, (AV.v (TV.one (At.int IntKind.i64 (x.getD default).1)))), (11, (AV.v (TV.one (At.bool (x.getD default).2.1))))] [(Blk.mk Bool.false (Body.fl FloatKind.f32 b0)), (Blk.mk Bool.true (Body.fl FloatKind.f32 (x.getD default).2.2))]))
theorem zps (an : Nat) (q2u : Nat) (b0 : List Nat) : ∀ x : Option ((Int × Bool × (List Nat))), x.isSome = true → (zeo an q2u b0) x = some (pick (zp8 an q2u b0 x))
  | none, h => by cases h
  | some r, _ => rfl
theorem zpr (an : Nat) (q2u : Nat) (i : Int) (b0 : List Nat) (b1 : List Nat) (K : Ex → St → Option (Ex × St)) : evC (R := Ex × St) Γ2 (evFn Γ2 8 8) 86 1 fi86.nt fi86.live fi86.nl 8 (findL 3 (loopsIn fi86.code)) (St.mk [(0, (AV.v (TV.one (At.vw 0 0 an 3)))), (3, (AV.v (TV.one (At.sl 1 0 q2u 3)))), (4, (AV.v (TV.one (At.int IntKind.i64 i))))] [(Blk.mk Bool.false (Body.fl FloatKind.f32 b0)), (Blk.mk Bool.true (Body.fl FloatKind.f32 b1))]) K = z7t an q2u b0 i b1 (fun i' b1' => K .normal (St.mk [(0, (AV.v (TV.one (At.vw 0 0 an 3)))), (3, (AV.v (TV.one (At.sl 1 0 q2u 3)))), (4, (AV.v (TV.one (At.int IntKind.i64 i'))))] [(Blk.mk Bool.false (Body.fl FloatKind.f32 b0)), (Blk.mk Bool.true (Body.fl FloatKind.f32 b1'))])) (fun c0_ c1_ c2_ => K (Ex.exit 0) (St.mk [(0, (AV.v (TV.one (At.vw 0 0 an 3)))), (3, (AV.v (TV.one (At.sl 1 0 q2u 3)))), (4, (AV.v (TV.one (At.int IntKind.i64 c0_)))), (11, (AV.v (TV.one (At.bool c1_))))] [(Blk.mk Bool.false (Body.fl FloatKind.f32 b0)), (Blk.mk Bool.true (Body.fl FloatKind.f32 c2_))])) := by kernel_rfl
theorem zpp (an : Nat) (q2u : Nat) (b0 : List Nat) : ∀ (n : Nat) (i : Int) (b1 : List Nat), iter 86 3 1 (evC (R := Ex × St) Γ2 (evFn Γ2 8 8) 86 1 fi86.nt fi86.live fi86.nl 8 (findL 3 (loopsIn fi86.code))) n (St.mk [(0, (AV.v (TV.one (At.vw 0 0 an 3)))), (3, (AV.v (TV.one (At.sl 1 0 q2u 3)))), (4, (AV.v (TV.one (At.int IntKind.i64 i))))] [(Blk.mk Bool.false (Body.fl FloatKind.f32 b0)), (Blk.mk Bool.true (Body.fl FloatKind.f32 b1))]) (fun e st => some (e, st)) = (zeo an q2u b0) (z58 an q2u b0 n i b1) := by
  intro n
  induction n with
  | zero => intros; rfl
  | succ n ih =>
    intro i b1
    refine Eq.trans (iter_succ ..) (Eq.trans (zpr an q2u i b0 b1 (nextK 86 3 1 (evC (R := Ex × St) Γ2 (evFn Γ2 8 8) 86 1 fi86.nt fi86.live fi86.nl 8 (findL 3 (loopsIn fi86.code))) n (fun e st => some (e, st)))) (Eq.trans ?_ (zng (zeo an q2u b0) rfl an q2u b0 i b1 (fun i' b1' => z58 an q2u b0 n i' b1') (fun c0_ c1_ c2_ => some (c0_, c1_, c2_)))))
    exact congrArg (fun kn_ => z7t an q2u b0 i b1 kn_ (fun c0_ c1_ c2_ => (zeo an q2u b0) (some (c0_, c1_, c2_)))) (funext fun i' => funext fun b1' => ih i' b1')
theorem z17 : LoopOne Try.prog fnTab 86 3 z1o := lp_of (Γ := Γ2) tyTab_ok (FnL.ok fnTab_ok _ _) (LpL.ok lt2_ok) (SumL.ok tb2_ok _) mixed (fi := fi86) (by kernel_rfl) (by kernel_rfl) (by
  intro lo st out hp
  obtain ⟨hs, e1, e2, e3⟩ := lpT_inv hp
  clear hp
  obtain rfl : st = (St.mk [(0, (AV.v (TV.one (At.vw 0 0 (hvN (hGet hs 0)) 3)))), (3, (AV.v (TV.one (At.sl 1 0 (hvN (hGet hs 1)) 3)))), (4, (AV.v (TV.one (At.int IntKind.i64 (hvI (hGet hs 2))))))] [(Blk.mk Bool.false (Body.fl FloatKind.f32 (hvLn (hGet hs 3)))), (Blk.mk Bool.true (Body.fl FloatKind.f32 (hvLn (hGet hs 4))))]) := e2.trans (by kernel_rfl)
  clear e2
  subst e1
  unfold zm6 at e3
  injection e3 with h1 h2
  subst h2
  exact ⟨8, 8, big, Eq.trans (zpp (hvN (hGet hs 0)) (hvN (hGet hs 1)) (hvLn (hGet hs 3)) big (hvI (hGet hs 2)) (hvLn (hGet hs 4))) (zps (hvN (hGet hs 0)) (hvN (hGet hs 1)) (hvLn (hGet hs 3)) (z58 (hvN (hGet hs 0)) (hvN (hGet hs 1)) (hvLn (hGet hs 3)) big (hvI (hGet hs 2)) (hvLn (hGet hs 4))) h1)⟩)
noncomputable def tb3 : List (Nat × (List PT → Option (Bool × AV × List Blk))) := [(125, z2j), (128, z0y), (134, z1m), (137, z2k), (18, z2s), (44, z2q), (48, z2a), (54, z3i), (61, z2t), (63, z4i), (64, z49), (66, z48), (80, z2b), (97, z3h), (104, z0t), (115, z01), (14, z35), (67, z22), (88, z11), (92, z4b), (103, z3o), (105, z36), (111, z40), (114, z3n), (118, z21), (122, z1e), (37, z45), (52, z2o), (72, z1s), (79, z1v), (93, z3a), (119, z2n)]
noncomputable def lt3 : List ((Nat × Nat) × (Nat → St → Option (Bool × LO))) := [((52, 3), z1h), ((72, 2), z15), ((79, 2), z14), ((57, 4), z1n), ((86, 3), z1o)]
noncomputable def Γ3 : Ctx := ⟨tyTab, fnTab, tblSum tb3, tblLp lt3⟩
theorem tb3_ok : SumL Try.prog tb3 := SumL.cons z1k (SumL.cons z0l (SumL.cons z19 (SumL.cons z1l (SumL.cons z1t (SumL.cons z1u (SumL.cons z1i (SumL.cons z29 (SumL.cons z1w (SumL.cons z3u (SumL.cons z3b (SumL.cons z39 (SumL.cons z1j (SumL.cons z28 (SumL.cons z0k (SumL.cons z00 (SumL.cons z24 (SumL.cons z1f (SumL.cons z0q (SumL.cons z3l (SumL.cons z2g (SumL.cons z23 (SumL.cons z33 (SumL.cons z2h (SumL.cons z1g (SumL.cons z12 (SumL.cons z37 (SumL.cons z1z (SumL.cons z1d (SumL.cons z1c (SumL.cons z2c (SumL.cons z1y (SumL.nil))))))))))))))))))))))))))))))))
theorem lt3_ok : LpL Try.prog fnTab lt3 := LpL.cons z13 (LpL.cons z0s (LpL.cons z0r (LpL.cons z18 (LpL.cons z17 (LpL.nil)))))
noncomputable def z3j : List PT → Option (Bool × AV × List Blk)
  | [.agg [.row 1 q0w (.fl .f32 q10), .row 1 q0y (.fl .f32 q18), .row 1 q0z (.fl .f32 q1a)]] => some ((zky q0w q10 q0y q18 q0z q1a), ((AV.v (TV.agg [(At.sl 0 0 (zjj q0w q10 q0y q18 q0z q1a) 1), (At.sl 1 0 (zjl q0w q10 q0y q18 q0z q1a) 1), (At.sl 2 0 (zjb q0w q10 q0y q18 q0z q1a) 1)])), [(Blk.mk Bool.true (Body.fl FloatKind.f32 (zjk q0w q10 q0y q18 q0z q1a))), (Blk.mk Bool.true (Body.fl FloatKind.f32 (zjr q0w q10 q0y q18 q0z q1a))), (Blk.mk Bool.true (Body.fl FloatKind.f32 (zjn q0w q10 q0y q18 q0z q1a)))]))
  | _ => none
def znr (q0w : Nat) (q10 : List Nat) (q0y : Nat) (q18 : List Nat) (q0z : Nat) (q1a : List Nat) : Option (Nat × Nat × Nat × (List Nat) × (List Nat) × (List Nat)) → Option (AV × List Blk)
  | some r => some ((AV.v (TV.agg [(At.sl 0 0 r.1 1), (At.sl 1 0 r.2.1 1), (At.sl 2 0 r.2.2.1 1)])), [(Blk.mk Bool.true (Body.fl FloatKind.f32 r.2.2.2.1)), (Blk.mk Bool.true (Body.fl FloatKind.f32 r.2.2.2.2.1)), (Blk.mk Bool.true (Body.fl FloatKind.f32 r.2.2.2.2.2))])
  | none => none
theorem zs1 (q0w : Nat) (q10 : List Nat) (q0y : Nat) (q18 : List Nat) (q0z : Nat) (q1a : List Nat) : evFn Γ3 8 8 16 (impTs 0 [.agg [.row 1 q0w (.fl .f32 q10), .row 1 q0y (.fl .f32 q18), .row 1 q0z (.fl .f32 q1a)]]).1 (impTs 0 [.agg [.row 1 q0w (.fl .f32 q10), .row 1 q0y (.fl .f32 q18), .row 1 q0z (.fl .f32 q1a)]]).2 (expo (impTs 0 [.agg [.row 1 q0w (.fl .f32 q10), .row 1 q0y (.fl .f32 q18), .row 1 q0z (.fl .f32 q1a)]]).2.length) = ze0 q0w q10 q0y q18 q0z q1a (fun c0_ c1_ c2_ c3_ c4_ c5_ => some ((AV.v (TV.agg [(At.sl 0 0 c0_ 1), (At.sl 1 0 c1_ 1), (At.sl 2 0 c2_ 1)])), [(Blk.mk Bool.true (Body.fl FloatKind.f32 c3_)), (Blk.mk Bool.true (Body.fl FloatKind.f32 c4_)), (Blk.mk Bool.true (Body.fl FloatKind.f32 c5_))])) := by kernel_rfl
theorem z2i : SumOne Try.prog 16 z3j := sum_of (Γ := Γ3) (fuel := 8) (d := 8) tyTab_ok (FnL.ok fnTab_ok _ _) (LpL.ok lt3_ok) (SumL.ok tb3_ok _) mixed (by
  intro pts v news hp hc
  clear hc
  unfold z3j at hp
  split at hp
  · rename_i q0w q10 q0y q18 q0z q1a
    exact Eq.trans (Eq.trans (zs1 q0w q10 q0y q18 q0z q1a) (zq5 (znr q0w q10 q0y q18 q0z q1a) rfl q0w q10 q0y q18 q0z q1a (fun c0_ c1_ c2_ c3_ c4_ c5_ => some (c0_, c1_, c2_, c3_, c4_, c5_)))) (fin_out (o := (znr q0w q10 q0y q18 q0z q1a)) (x := z7x q0w q10 q0y q18 q0z q1a) (d := default) (V := fun r => ((AV.v (TV.agg [(At.sl 0 0 r.1 1), (At.sl 1 0 r.2.1 1), (At.sl 2 0 r.2.2.1 1)])), [(Blk.mk Bool.true (Body.fl FloatKind.f32 r.2.2.2.1)), (Blk.mk Bool.true (Body.fl FloatKind.f32 r.2.2.2.2.1)), (Blk.mk Bool.true (Body.fl FloatKind.f32 r.2.2.2.2.2))])) (fun r => rfl) hp)
  · cases hp)
noncomputable def z2e : List PT → Option (Bool × AV × List Blk)
  | [.agg [.row 1 q0w (.fl .f32 q10), .row 1 q0y (.fl .f32 q18), .row 1 q0z (.fl .f32 q1a)], .one (.s (.int .i64 k))] => some ((zgy q0w q10 q0y q18 q0z q1a k), ((AV.v (TV.one (At.int IntKind.i64 (z9w q0w q10 q0y q18 q0z q1a k)))), []))
  | _ => none
def zmm (q0w : Nat) (q10 : List Nat) (q0y : Nat) (q18 : List Nat) (q0z : Nat) (q1a : List Nat) (k : Int) : Option (Int) → Option (AV × List Blk)
  | some r => some ((AV.v (TV.one (At.int IntKind.i64 r))), [])
  | none => none
theorem zqx (q0w : Nat) (q10 : List Nat) (q0y : Nat) (q18 : List Nat) (q0z : Nat) (q1a : List Nat) (k : Int) : evFn Γ3 8 8 36 (impTs 0 [.agg [.row 1 q0w (.fl .f32 q10), .row 1 q0y (.fl .f32 q18), .row 1 q0z (.fl .f32 q1a)], .one (.s (.int .i64 k))]).1 (impTs 0 [.agg [.row 1 q0w (.fl .f32 q10), .row 1 q0y (.fl .f32 q18), .row 1 q0z (.fl .f32 q1a)], .one (.s (.int .i64 k))]).2 (expo (impTs 0 [.agg [.row 1 q0w (.fl .f32 q10), .row 1 q0y (.fl .f32 q18), .row 1 q0z (.fl .f32 q1a)], .one (.s (.int .i64 k))]).2.length) = zc4 q0w q10 q0y q18 q0z q1a k (fun c0_ => some ((AV.v (TV.one (At.int IntKind.i64 c0_))), [])) := by kernel_rfl
theorem z1p : SumOne Try.prog 36 z2e := sum_of (Γ := Γ3) (fuel := 8) (d := 8) tyTab_ok (FnL.ok fnTab_ok _ _) (LpL.ok lt3_ok) (SumL.ok tb3_ok _) mixed (by
  intro pts v news hp hc
  clear hc
  unfold z2e at hp
  split at hp
  · rename_i q0w q10 q0y q18 q0z q1a k
    exact Eq.trans (Eq.trans (zqx q0w q10 q0y q18 q0z q1a k) (zos (zmm q0w q10 q0y q18 q0z q1a k) rfl q0w q10 q0y q18 q0z q1a k (fun c0_ => some c0_))) (fin_out (o := (zmm q0w q10 q0y q18 q0z q1a k)) (x := zca q0w q10 q0y q18 q0z q1a k) (d := default) (V := fun r => ((AV.v (TV.one (At.int IntKind.i64 r))), [])) (fun r => rfl) hp)
  · cases hp)
noncomputable def z32 : List PT → Option (Bool × AV × List Blk)
  | [.one (.row 1 a_n (.fl .f32 a)), .one (.row 1 b_n (.fl .f32 b))] => some ((zcx a_n a b_n b), ((AV.v (TV.one (At.bool (zc6 a_n a b_n b)))), []))
  | _ => none
def zmu (a_n : Nat) (a : List Nat) (b_n : Nat) (b : List Nat) : Option (Bool) → Option (AV × List Blk)
  | some r => some ((AV.v (TV.one (At.bool r))), [])
  | none => none
theorem zrj (a_n : Nat) (a : List Nat) (b_n : Nat) (b : List Nat) : evFn Γ3 8 8 57 (impTs 0 [.one (.row 1 a_n (.fl .f32 a)), .one (.row 1 b_n (.fl .f32 b))]).1 (impTs 0 [.one (.row 1 a_n (.fl .f32 a)), .one (.row 1 b_n (.fl .f32 b))]).2 (expo (impTs 0 [.one (.row 1 a_n (.fl .f32 a)), .one (.row 1 b_n (.fl .f32 b))]).2.length) = zd3 a_n a b_n b (fun c0_ => some ((AV.v (TV.one (At.bool c0_))), [])) := by kernel_rfl
theorem z26 : SumOne Try.prog 57 z32 := sum_of (Γ := Γ3) (fuel := 8) (d := 8) tyTab_ok (FnL.ok fnTab_ok _ _) (LpL.ok lt3_ok) (SumL.ok tb3_ok _) mixed (by
  intro pts v news hp hc
  clear hc
  unfold z32 at hp
  split at hp
  · rename_i a_n a b_n b
    exact Eq.trans (Eq.trans (zrj a_n a b_n b) (zp9 (zmu a_n a b_n b) rfl a_n a b_n b (fun c0_ => some c0_))) (fin_out (o := (zmu a_n a b_n b)) (x := zcw a_n a b_n b) (d := default) (V := fun r => ((AV.v (TV.one (At.bool r))), [])) (fun r => rfl) hp)
  · cases hp)
noncomputable def z31 : List PT → Option (Bool × AV × List Blk)
  | [.one (.row 3 a_n (.fl .f32 a))] => some ((zjm a_n a), ((AV.v (TV.one (At.sl 0 0 (zh4 a_n a) 3))), [(Blk.mk Bool.true (Body.fl FloatKind.f32 (zgx a_n a)))]))
  | _ => none
def zn2 (a_n : Nat) (a : List Nat) : Option (Nat × (List Nat)) → Option (AV × List Blk)
  | some r => some ((AV.v (TV.one (At.sl 0 0 r.1 3))), [(Blk.mk Bool.true (Body.fl FloatKind.f32 r.2))])
  | none => none
theorem zrt (a_n : Nat) (a : List Nat) : evFn Γ3 8 8 86 (impTs 0 [.one (.row 3 a_n (.fl .f32 a))]).1 (impTs 0 [.one (.row 3 a_n (.fl .f32 a))]).2 (expo (impTs 0 [.one (.row 3 a_n (.fl .f32 a))]).2.length) = zdd a_n a (fun c0_ c1_ => some ((AV.v (TV.one (At.sl 0 0 c0_ 3))), [(Blk.mk Bool.true (Body.fl FloatKind.f32 c1_))])) := by kernel_rfl
theorem z25 : SumOne Try.prog 86 z31 := sum_of (Γ := Γ3) (fuel := 8) (d := 8) tyTab_ok (FnL.ok fnTab_ok _ _) (LpL.ok lt3_ok) (SumL.ok tb3_ok _) mixed (by
  intro pts v news hp hc
  clear hc
  unfold z31 at hp
  split at hp
  · rename_i a_n a
    exact Eq.trans (Eq.trans (zrt a_n a) (zp4 (zn2 a_n a) rfl a_n a (fun c0_ c1_ => some (c0_, c1_)))) (fin_out (o := (zn2 a_n a)) (x := zal a_n a) (d := default) (V := fun r => ((AV.v (TV.one (At.sl 0 0 r.1 3))), [(Blk.mk Bool.true (Body.fl FloatKind.f32 r.2))])) (fun r => rfl) hp)
  · cases hp)
noncomputable def zn4 (t3 : Int) (t4 : Int) (b0 : List Nat) (b1 : List Nat) (b2 : List Nat) (q2a : Nat) (q2v : Nat) (q2w : Nat) : Bool × LO := ((zam t3 b0 b1 b2 q2a q2v q2w t4), (LO.two (za7 t3 b0 b1 b2 q2a q2v q2w t4) (LO.one Ex.ret (St.mk [(2, (AV.v (TV.one (At.bool Bool.false))))] [(Blk.mk Bool.false (Body.fl FloatKind.f32 b0)), (Blk.mk Bool.false (Body.fl FloatKind.f32 b1)), (Blk.mk Bool.false (Body.fl FloatKind.f32 b2)), (Blk.mk Bool.false (Body.cells [(At.vw 0 0 q2a 1), (At.vw 1 0 q2v 1), (At.vw 2 0 q2w 1)]))])) (LO.one (Ex.exit 0) (St.mk [(0, (AV.v (TV.one (At.ptr 3 0 3)))), (3, (AV.v (TV.one (At.int IntKind.i64 t3)))), (4, (AV.v (TV.one (At.int IntKind.i64 (zlq t3 b0 b1 b2 q2a q2v q2w t4))))), (36, (AV.v (TV.one (At.bool (zlm t3 b0 b1 b2 q2a q2v q2w t4)))))] [(Blk.mk Bool.false (Body.fl FloatKind.f32 b0)), (Blk.mk Bool.false (Body.fl FloatKind.f32 b1)), (Blk.mk Bool.false (Body.fl FloatKind.f32 b2)), (Blk.mk Bool.false (Body.cells [(At.vw 0 0 q2a 1), (At.vw 1 0 q2v 1), (At.vw 2 0 q2w 1)]))]))))
noncomputable def z43 : Nat → St → Option (Bool × LO) := lpT 4 (pSt [(pTm 0 (pV (pOne (pPtr 3 (liN 0) 3)))), (pTm 3 (pV (pOne (pInt IntKind.i64)))), (pTm 4 (pV (pOne (pInt IntKind.i64))))] [(pBlk Bool.false (pFl FloatKind.f32)), (pBlk Bool.false (pFl FloatKind.f32)), (pBlk Bool.false (pFl FloatKind.f32)), (pBlk Bool.false (pCells [(pVw 0 (liN 0) 1), (pVw 1 (liN 0) 1), (pVw 2 (liN 0) 1)]))]) (fun hs => zn4 (hvI (hGet hs 0)) (hvI (hGet hs 1)) (hvLn (hGet hs 2)) (hvLn (hGet hs 3)) (hvLn (hGet hs 4)) (hvN (hGet hs 5)) (hvN (hGet hs 6)) (hvN (hGet hs 7)))
def zhf (t3 : Int) (b0 : List Nat) (b1 : List Nat) (b2 : List Nat) (q2a : Nat) (q2v : Nat) (q2w : Nat) : Option ((Unit) ⊕ (Int × Bool)) → Option (Ex × St)
  | none => none
  | some (Sum.inl r) => some (Ex.ret, (St.mk [(2, (AV.v (TV.one (At.bool Bool.false))))] [(Blk.mk Bool.false (Body.fl FloatKind.f32 b0)), (Blk.mk Bool.false (Body.fl FloatKind.f32 b1)), (Blk.mk Bool.false (Body.fl FloatKind.f32 b2)), (Blk.mk Bool.false (Body.cells [(At.vw 0 0 q2a 1), (At.vw 1 0 q2v 1), (At.vw 2 0 q2w 1)]))]))
  | some (Sum.inr r) => some ((Ex.exit 0), (St.mk [(0, (AV.v (TV.one (At.ptr 3 0 3)))), (3, (AV.v (TV.one (At.int IntKind.i64 t3)))), (4, (AV.v (TV.one (At.int IntKind.i64 r.1)))), (36, (AV.v (TV.one (At.bool r.2))))] [(Blk.mk Bool.false (Body.fl FloatKind.f32 b0)), (Blk.mk Bool.false (Body.fl FloatKind.f32 b1)), (Blk.mk Bool.false (Body.fl FloatKind.f32 b2)), (Blk.mk Bool.false (Body.cells [(At.vw 0 0 q2a 1), (At.vw 1 0 q2v 1), (At.vw 2 0 q2w 1)]))]))
def zs5 (t3 : Int) (b0 : List Nat) (b1 : List Nat) (b2 : List Nat) (q2a : Nat) (q2v : Nat) (q2w : Nat) (x : Option ((Unit) ⊕ (Int × Bool))) : LO := (LO.two (oL x) (LO.one Ex.ret (St.mk [(2, (AV.v (TV.one (At.bool Bool.false))))] [(Blk.mk Bool.false (Body.fl FloatKind.f32 b0)), (Blk.mk Bool.false (Body.fl FloatKind.f32 b1)), (Blk.mk Bool.false (Body.fl FloatKind.f32 b2)), (Blk.mk Bool.false (Body.cells [(At.vw 0 0 q2a 1), (At.vw 1 0 q2v 1), (At.vw 2 0 q2w 1)]))])) (LO.one (Ex.exit 0) (St.mk [(0, (AV.v (TV.one (At.ptr 3 0 3)))), (3, (AV.v (TV.one (At.int IntKind.i64 t3)))), (4, (AV.v (TV.one (At.int IntKind.i64 ((tR x).getD default).1)))), (36, (AV.v (TV.one (At.bool ((tR x).getD default).2))))] [(Blk.mk Bool.false (Body.fl FloatKind.f32 b0)), (Blk.mk Bool.false (Body.fl FloatKind.f32 b1)), (Blk.mk Bool.false (Body.fl FloatKind.f32 b2)), (Blk.mk Bool.false (Body.cells [(At.vw 0 0 q2a 1), (At.vw 1 0 q2v 1), (At.vw 2 0 q2w 1)]))])))
theorem zsg (t3 : Int) (b0 : List Nat) (b1 : List Nat) (b2 : List Nat) (q2a : Nat) (q2v : Nat) (q2w : Nat) : ∀ x : Option ((Unit) ⊕ (Int × Bool)), x.isSome = true → (zhf t3 b0 b1 b2 q2a q2v q2w) x = some (pick (zs5 t3 b0 b1 b2 q2a q2v q2w x))
  | none, h => by cases h
  | some (Sum.inl r), _ => rfl
  | some (Sum.inr r), _ => rfl
theorem zsr (t3 : Int) (t4 : Int) (b0 : List Nat) (b1 : List Nat) (b2 : List Nat) (q2a : Nat) (q2v : Nat) (q2w : Nat) (K : Ex → St → Option (Ex × St)) : evC (R := Ex × St) Γ3 (evFn Γ3 8 8) 62 4 fi62.nt fi62.live fi62.nl 8 (findL 5 (loopsIn fi62.code)) (St.mk [(0, (AV.v (TV.one (At.ptr 3 0 3)))), (3, (AV.v (TV.one (At.int IntKind.i64 t3)))), (4, (AV.v (TV.one (At.int IntKind.i64 t4))))] [(Blk.mk Bool.false (Body.fl FloatKind.f32 b0)), (Blk.mk Bool.false (Body.fl FloatKind.f32 b1)), (Blk.mk Bool.false (Body.fl FloatKind.f32 b2)), (Blk.mk Bool.false (Body.cells [(At.vw 0 0 q2a 1), (At.vw 1 0 q2v 1), (At.vw 2 0 q2w 1)]))]) K = za1 t3 b0 b1 b2 q2a q2v q2w t4 (fun t4' => K .normal (St.mk [(0, (AV.v (TV.one (At.ptr 3 0 3)))), (3, (AV.v (TV.one (At.int IntKind.i64 t3)))), (4, (AV.v (TV.one (At.int IntKind.i64 t4'))))] [(Blk.mk Bool.false (Body.fl FloatKind.f32 b0)), (Blk.mk Bool.false (Body.fl FloatKind.f32 b1)), (Blk.mk Bool.false (Body.fl FloatKind.f32 b2)), (Blk.mk Bool.false (Body.cells [(At.vw 0 0 q2a 1), (At.vw 1 0 q2v 1), (At.vw 2 0 q2w 1)]))])) (fun _ => K Ex.ret (St.mk [(2, (AV.v (TV.one (At.bool Bool.false))))] [(Blk.mk Bool.false (Body.fl FloatKind.f32 b0)), (Blk.mk Bool.false (Body.fl FloatKind.f32 b1)), (Blk.mk Bool.false (Body.fl FloatKind.f32 b2)), (Blk.mk Bool.false (Body.cells [(At.vw 0 0 q2a 1), (At.vw 1 0 q2v 1), (At.vw 2 0 q2w 1)]))])) (fun c0_ c1_ => K (Ex.exit 0) (St.mk [(0, (AV.v (TV.one (At.ptr 3 0 3)))), (3, (AV.v (TV.one (At.int IntKind.i64 t3)))), (4, (AV.v (TV.one (At.int IntKind.i64 c0_)))), (36, (AV.v (TV.one (At.bool c1_))))] [(Blk.mk Bool.false (Body.fl FloatKind.f32 b0)), (Blk.mk Bool.false (Body.fl FloatKind.f32 b1)), (Blk.mk Bool.false (Body.fl FloatKind.f32 b2)), (Blk.mk Bool.false (Body.cells [(At.vw 0 0 q2a 1), (At.vw 1 0 q2v 1), (At.vw 2 0 q2w 1)]))])) := by kernel_rfl
theorem zsq (t3 : Int) (b0 : List Nat) (b1 : List Nat) (b2 : List Nat) (q2a : Nat) (q2v : Nat) (q2w : Nat) : ∀ (n : Nat) (t4 : Int), iter 62 5 4 (evC (R := Ex × St) Γ3 (evFn Γ3 8 8) 62 4 fi62.nt fi62.live fi62.nl 8 (findL 5 (loopsIn fi62.code))) n (St.mk [(0, (AV.v (TV.one (At.ptr 3 0 3)))), (3, (AV.v (TV.one (At.int IntKind.i64 t3)))), (4, (AV.v (TV.one (At.int IntKind.i64 t4))))] [(Blk.mk Bool.false (Body.fl FloatKind.f32 b0)), (Blk.mk Bool.false (Body.fl FloatKind.f32 b1)), (Blk.mk Bool.false (Body.fl FloatKind.f32 b2)), (Blk.mk Bool.false (Body.cells [(At.vw 0 0 q2a 1), (At.vw 1 0 q2v 1), (At.vw 2 0 q2w 1)]))]) (fun e st => some (e, st)) = (zhf t3 b0 b1 b2 q2a q2v q2w) (z7c t3 b0 b1 b2 q2a q2v q2w n t4) := by
  intro n
  induction n with
  | zero => intros; rfl
  | succ n ih =>
    intro t4
    refine Eq.trans (iter_succ ..) (Eq.trans (zsr t3 t4 b0 b1 b2 q2a q2v q2w (nextK 62 5 4 (evC (R := Ex × St) Γ3 (evFn Γ3 8 8) 62 4 fi62.nt fi62.live fi62.nl 8 (findL 5 (loopsIn fi62.code))) n (fun e st => some (e, st)))) (Eq.trans ?_ (zqs (zhf t3 b0 b1 b2 q2a q2v q2w) rfl t3 b0 b1 b2 q2a q2v q2w t4 (fun t4' => z7c t3 b0 b1 b2 q2a q2v q2w n t4') (fun _ => some (Sum.inl ())) (fun c0_ c1_ => some (Sum.inr (c0_, c1_))))))
    exact congrArg (fun kn_ => za1 t3 b0 b1 b2 q2a q2v q2w t4 kn_ (fun _ => (zhf t3 b0 b1 b2 q2a q2v q2w) (some (Sum.inl ()))) (fun c0_ c1_ => (zhf t3 b0 b1 b2 q2a q2v q2w) (some (Sum.inr (c0_, c1_))))) (funext fun t4' => ih t4')
theorem z34 : LoopOne Try.prog fnTab 62 5 z43 := lp_of (Γ := Γ3) tyTab_ok (FnL.ok fnTab_ok _ _) (LpL.ok lt3_ok) (SumL.ok tb3_ok _) mixed (fi := fi62) (by kernel_rfl) (by kernel_rfl) (by
  intro lo st out hp
  obtain ⟨hs, e1, e2, e3⟩ := lpT_inv hp
  clear hp
  obtain rfl : st = (St.mk [(0, (AV.v (TV.one (At.ptr 3 0 3)))), (3, (AV.v (TV.one (At.int IntKind.i64 (hvI (hGet hs 0)))))), (4, (AV.v (TV.one (At.int IntKind.i64 (hvI (hGet hs 1))))))] [(Blk.mk Bool.false (Body.fl FloatKind.f32 (hvLn (hGet hs 2)))), (Blk.mk Bool.false (Body.fl FloatKind.f32 (hvLn (hGet hs 3)))), (Blk.mk Bool.false (Body.fl FloatKind.f32 (hvLn (hGet hs 4)))), (Blk.mk Bool.false (Body.cells [(At.vw 0 0 (hvN (hGet hs 5)) 1), (At.vw 1 0 (hvN (hGet hs 6)) 1), (At.vw 2 0 (hvN (hGet hs 7)) 1)]))]) := e2.trans (by kernel_rfl)
  clear e2
  subst e1
  unfold zn4 at e3
  injection e3 with h1 h2
  subst h2
  exact ⟨8, 8, big, Eq.trans (zsq (hvI (hGet hs 0)) (hvLn (hGet hs 2)) (hvLn (hGet hs 3)) (hvLn (hGet hs 4)) (hvN (hGet hs 5)) (hvN (hGet hs 6)) (hvN (hGet hs 7)) big (hvI (hGet hs 1))) (zsg (hvI (hGet hs 0)) (hvLn (hGet hs 2)) (hvLn (hGet hs 3)) (hvLn (hGet hs 4)) (hvN (hGet hs 5)) (hvN (hGet hs 6)) (hvN (hGet hs 7)) (z7c (hvI (hGet hs 0)) (hvLn (hGet hs 2)) (hvLn (hGet hs 3)) (hvLn (hGet hs 4)) (hvN (hGet hs 5)) (hvN (hGet hs 6)) (hvN (hGet hs 7)) big (hvI (hGet hs 1))) h1)⟩)
noncomputable def zm3 (an : Nat) (bn : Nat) (i : Int) (b0 : List Nat) (b1 : List Nat) : Bool × LO := ((zco an bn b0 b1 i), (LO.two (zc9 an bn b0 b1 i) (LO.one Ex.ret (St.mk [(4, (AV.v (TV.one (At.bool Bool.false))))] [(Blk.mk Bool.false (Body.fl FloatKind.f32 b0)), (Blk.mk Bool.false (Body.fl FloatKind.f32 b1))])) (LO.one (Ex.exit 0) (St.mk [(0, (AV.v (TV.one (At.vw 0 0 an 3)))), (1, (AV.v (TV.one (At.vw 1 0 bn 3)))), (5, (AV.v (TV.one (At.int IntKind.i64 (zgb an bn b0 b1 i))))), (14, (AV.v (TV.one (At.bool (zgg an bn b0 b1 i)))))] [(Blk.mk Bool.false (Body.fl FloatKind.f32 b0)), (Blk.mk Bool.false (Body.fl FloatKind.f32 b1))]))))
noncomputable def z1x : Nat → St → Option (Bool × LO) := lpT 2 (pSt [(pTm 0 (pV (pOne (pVw 0 (liN 0) 3)))), (pTm 1 (pV (pOne (pVw 1 (liN 0) 3)))), (pTm 5 (pV (pOne (pInt IntKind.i64))))] [(pBlk Bool.false (pFl FloatKind.f32)), (pBlk Bool.false (pFl FloatKind.f32))]) (fun hs => zm3 (hvN (hGet hs 0)) (hvN (hGet hs 1)) (hvI (hGet hs 2)) (hvLn (hGet hs 3)) (hvLn (hGet hs 4)))
def zcr (an : Nat) (bn : Nat) (b0 : List Nat) (b1 : List Nat) : Option ((Unit) ⊕ (Int × Bool)) → Option (Ex × St)
  | none => none
  | some (Sum.inl r) => some (Ex.ret, (St.mk [(4, (AV.v (TV.one (At.bool Bool.false))))] [(Blk.mk Bool.false (Body.fl FloatKind.f32 b0)), (Blk.mk Bool.false (Body.fl FloatKind.f32 b1))]))
  | some (Sum.inr r) => some ((Ex.exit 0), (St.mk [(0, (AV.v (TV.one (At.vw 0 0 an 3)))), (1, (AV.v (TV.one (At.vw 1 0 bn 3)))), (5, (AV.v (TV.one (At.int IntKind.i64 r.1)))), (14, (AV.v (TV.one (At.bool r.2))))] [(Blk.mk Bool.false (Body.fl FloatKind.f32 b0)), (Blk.mk Bool.false (Body.fl FloatKind.f32 b1))]))
def zpc (an : Nat) (bn : Nat) (b0 : List Nat) (b1 : List Nat) (x : Option ((Unit) ⊕ (Int × Bool))) : LO := (LO.two (oL x) (LO.one Ex.ret (St.mk [(4, (AV.v (TV.one (At.bool Bool.false))))] [(Blk.mk Bool.false (Body.fl FloatKind.f32 b0)), (Blk.mk Bool.false (Body.fl FloatKind.f32 b1))])) (LO.one (Ex.exit 0) (St.mk [(0, (AV.v (TV.one (At.vw 0 0 an 3)))), (1, (AV.v (TV.one (At.vw 1 0 bn 3)))), (5, (AV.v (TV.one (At.int IntKind.i64 ((tR x).getD default).1)))), (14, (AV.v (TV.one (At.bool ((tR x).getD default).2))))] [(Blk.mk Bool.false (Body.fl FloatKind.f32 b0)), (Blk.mk Bool.false (Body.fl FloatKind.f32 b1))])))
theorem zq7 (an : Nat) (bn : Nat) (b0 : List Nat) (b1 : List Nat) : ∀ x : Option ((Unit) ⊕ (Int × Bool)), x.isSome = true → (zcr an bn b0 b1) x = some (pick (zpc an bn b0 b1 x))
  | none, h => by cases h
  | some (Sum.inl r), _ => rfl
  | some (Sum.inr r), _ => rfl
theorem zpu (an : Nat) (bn : Nat) (i : Int) (b0 : List Nat) (b1 : List Nat) (K : Ex → St → Option (Ex × St)) : evC (R := Ex × St) Γ3 (evFn Γ3 8 8) 69 2 fi69.nt fi69.live fi69.nl 8 (findL 4 (loopsIn fi69.code)) (St.mk [(0, (AV.v (TV.one (At.vw 0 0 an 3)))), (1, (AV.v (TV.one (At.vw 1 0 bn 3)))), (5, (AV.v (TV.one (At.int IntKind.i64 i))))] [(Blk.mk Bool.false (Body.fl FloatKind.f32 b0)), (Blk.mk Bool.false (Body.fl FloatKind.f32 b1))]) K = z7q an bn b0 b1 i (fun i' => K .normal (St.mk [(0, (AV.v (TV.one (At.vw 0 0 an 3)))), (1, (AV.v (TV.one (At.vw 1 0 bn 3)))), (5, (AV.v (TV.one (At.int IntKind.i64 i'))))] [(Blk.mk Bool.false (Body.fl FloatKind.f32 b0)), (Blk.mk Bool.false (Body.fl FloatKind.f32 b1))])) (fun _ => K Ex.ret (St.mk [(4, (AV.v (TV.one (At.bool Bool.false))))] [(Blk.mk Bool.false (Body.fl FloatKind.f32 b0)), (Blk.mk Bool.false (Body.fl FloatKind.f32 b1))])) (fun c0_ c1_ => K (Ex.exit 0) (St.mk [(0, (AV.v (TV.one (At.vw 0 0 an 3)))), (1, (AV.v (TV.one (At.vw 1 0 bn 3)))), (5, (AV.v (TV.one (At.int IntKind.i64 c0_)))), (14, (AV.v (TV.one (At.bool c1_))))] [(Blk.mk Bool.false (Body.fl FloatKind.f32 b0)), (Blk.mk Bool.false (Body.fl FloatKind.f32 b1))])) := by kernel_rfl
theorem zpz (an : Nat) (bn : Nat) (b0 : List Nat) (b1 : List Nat) : ∀ (n : Nat) (i : Int), iter 69 4 2 (evC (R := Ex × St) Γ3 (evFn Γ3 8 8) 69 2 fi69.nt fi69.live fi69.nl 8 (findL 4 (loopsIn fi69.code))) n (St.mk [(0, (AV.v (TV.one (At.vw 0 0 an 3)))), (1, (AV.v (TV.one (At.vw 1 0 bn 3)))), (5, (AV.v (TV.one (At.int IntKind.i64 i))))] [(Blk.mk Bool.false (Body.fl FloatKind.f32 b0)), (Blk.mk Bool.false (Body.fl FloatKind.f32 b1))]) (fun e st => some (e, st)) = (zcr an bn b0 b1) (z65 an bn b0 b1 n i) := by
  intro n
  induction n with
  | zero => intros; rfl
  | succ n ih =>
    intro i
    refine Eq.trans (iter_succ ..) (Eq.trans (zpu an bn i b0 b1 (nextK 69 4 2 (evC (R := Ex × St) Γ3 (evFn Γ3 8 8) 69 2 fi69.nt fi69.live fi69.nl 8 (findL 4 (loopsIn fi69.code))) n (fun e st => some (e, st)))) (Eq.trans ?_ (znt (zcr an bn b0 b1) rfl an bn b0 b1 i (fun i' => z65 an bn b0 b1 n i') (fun _ => some (Sum.inl ())) (fun c0_ c1_ => some (Sum.inr (c0_, c1_))))))
    exact congrArg (fun kn_ => z7q an bn b0 b1 i kn_ (fun _ => (zcr an bn b0 b1) (some (Sum.inl ()))) (fun c0_ c1_ => (zcr an bn b0 b1) (some (Sum.inr (c0_, c1_))))) (funext fun i' => ih i')
theorem z1b : LoopOne Try.prog fnTab 69 4 z1x := lp_of (Γ := Γ3) tyTab_ok (FnL.ok fnTab_ok _ _) (LpL.ok lt3_ok) (SumL.ok tb3_ok _) mixed (fi := fi69) (by kernel_rfl) (by kernel_rfl) (by
  intro lo st out hp
  obtain ⟨hs, e1, e2, e3⟩ := lpT_inv hp
  clear hp
  obtain rfl : st = (St.mk [(0, (AV.v (TV.one (At.vw 0 0 (hvN (hGet hs 0)) 3)))), (1, (AV.v (TV.one (At.vw 1 0 (hvN (hGet hs 1)) 3)))), (5, (AV.v (TV.one (At.int IntKind.i64 (hvI (hGet hs 2))))))] [(Blk.mk Bool.false (Body.fl FloatKind.f32 (hvLn (hGet hs 3)))), (Blk.mk Bool.false (Body.fl FloatKind.f32 (hvLn (hGet hs 4))))]) := e2.trans (by kernel_rfl)
  clear e2
  subst e1
  unfold zm3 at e3
  injection e3 with h1 h2
  subst h2
  exact ⟨8, 8, big, Eq.trans (zpz (hvN (hGet hs 0)) (hvN (hGet hs 1)) (hvLn (hGet hs 3)) (hvLn (hGet hs 4)) big (hvI (hGet hs 2))) (zq7 (hvN (hGet hs 0)) (hvN (hGet hs 1)) (hvLn (hGet hs 3)) (hvLn (hGet hs 4)) (z65 (hvN (hGet hs 0)) (hvN (hGet hs 1)) (hvLn (hGet hs 3)) (hvLn (hGet hs 4)) big (hvI (hGet hs 2))) h1)⟩)
noncomputable def zb4 (sn : Nat) (t7 : Int) (t8 : Int) (b0 : List Nat) : Bool × LO := ((z5l sn t7 b0 t8), (LO.two (z5h sn t7 b0 t8) (LO.one Ex.ret (St.mk [(4, (AV.v (TV.one (At.int IntKind.i64 (z6m sn t7 b0 t8)))))] [(Blk.mk Bool.false (Body.fl FloatKind.f32 b0))])) (LO.one (Ex.exit 0) (St.mk [(0, (AV.v (TV.one (At.vw 0 0 sn 1)))), (1, (AV.v (TV.one (At.fn 118 [])))), (7, (AV.v (TV.one (At.int IntKind.i64 t7)))), (8, (AV.v (TV.one (At.int IntKind.i64 (z8r sn t7 b0 t8))))), (9, (AV.v (TV.one (At.bool (z8q sn t7 b0 t8)))))] [(Blk.mk Bool.false (Body.fl FloatKind.f32 b0))]))))
noncomputable def z05 : Nat → St → Option (Bool × LO) := lpT 1 (pSt [(pTm 0 (pV (pOne (pVw 0 (liN 0) 1)))), (pTm 1 (pV (pOne (pFn 118 [])))), (pTm 7 (pV (pOne (pInt IntKind.i64)))), (pTm 8 (pV (pOne (pInt IntKind.i64))))] [(pBlk Bool.false (pFl FloatKind.f32))]) (fun hs => zb4 (hvN (hGet hs 0)) (hvI (hGet hs 1)) (hvI (hGet hs 2)) (hvLn (hGet hs 3)))
def z67 (sn : Nat) (t7 : Int) (b0 : List Nat) : Option ((Int) ⊕ (Int × Bool)) → Option (Ex × St)
  | none => none
  | some (Sum.inl r) => some (Ex.ret, (St.mk [(4, (AV.v (TV.one (At.int IntKind.i64 r))))] [(Blk.mk Bool.false (Body.fl FloatKind.f32 b0))]))
  | some (Sum.inr r) => some ((Ex.exit 0), (St.mk [(0, (AV.v (TV.one (At.vw 0 0 sn 1)))), (1, (AV.v (TV.one (At.fn 118 [])))), (7, (AV.v (TV.one (At.int IntKind.i64 t7)))), (8, (AV.v (TV.one (At.int IntKind.i64 r.1)))), (9, (AV.v (TV.one (At.bool r.2))))] [(Blk.mk Bool.false (Body.fl FloatKind.f32 b0))]))
def zj1 (sn : Nat) (t7 : Int) (b0 : List Nat) (x : Option ((Int) ⊕ (Int × Bool))) : LO := (LO.two (oL x) (LO.one Ex.ret (St.mk [(4, (AV.v (TV.one (At.int IntKind.i64 ((tL x).getD default)))))] [(Blk.mk Bool.false (Body.fl FloatKind.f32 b0))])) (LO.one (Ex.exit 0) (St.mk [(0, (AV.v (TV.one (At.vw 0 0 sn 1)))), (1, (AV.v (TV.one (At.fn 118 [])))), (7, (AV.v (TV.one (At.int IntKind.i64 t7)))), (8, (AV.v (TV.one (At.int IntKind.i64 ((tR x).getD default).1)))), (9, (AV.v (TV.one (At.bool ((tR x).getD default).2))))] [(Blk.mk Bool.false (Body.fl FloatKind.f32 b0))])))
theorem zju (sn : Nat) (t7 : Int) (b0 : List Nat) : ∀ x : Option ((Int) ⊕ (Int × Bool)), x.isSome = true → (z67 sn t7 b0) x = some (pick (zj1 sn t7 b0 x))
  | none, h => by cases h
  | some (Sum.inl r), _ => rfl
  | some (Sum.inr r), _ => rfl
theorem zkc (sn : Nat) (t7 : Int) (t8 : Int) (b0 : List Nat) (K : Ex → St → Option (Ex × St)) : evC (R := Ex × St) Γ3 (evFn Γ3 8 8) 99 1 fi99.nt fi99.live fi99.nl 8 (findL 2 (loopsIn fi99.code)) (St.mk [(0, (AV.v (TV.one (At.vw 0 0 sn 1)))), (1, (AV.v (TV.one (At.fn 118 [])))), (7, (AV.v (TV.one (At.int IntKind.i64 t7)))), (8, (AV.v (TV.one (At.int IntKind.i64 t8))))] [(Blk.mk Bool.false (Body.fl FloatKind.f32 b0))]) K = z4p sn t7 b0 t8 (fun t8' => K .normal (St.mk [(0, (AV.v (TV.one (At.vw 0 0 sn 1)))), (1, (AV.v (TV.one (At.fn 118 [])))), (7, (AV.v (TV.one (At.int IntKind.i64 t7)))), (8, (AV.v (TV.one (At.int IntKind.i64 t8'))))] [(Blk.mk Bool.false (Body.fl FloatKind.f32 b0))])) (fun c0_ => K Ex.ret (St.mk [(4, (AV.v (TV.one (At.int IntKind.i64 c0_))))] [(Blk.mk Bool.false (Body.fl FloatKind.f32 b0))])) (fun c0_ c1_ => K (Ex.exit 0) (St.mk [(0, (AV.v (TV.one (At.vw 0 0 sn 1)))), (1, (AV.v (TV.one (At.fn 118 [])))), (7, (AV.v (TV.one (At.int IntKind.i64 t7)))), (8, (AV.v (TV.one (At.int IntKind.i64 c0_)))), (9, (AV.v (TV.one (At.bool c1_))))] [(Blk.mk Bool.false (Body.fl FloatKind.f32 b0))])) := by kernel_rfl
theorem zk1 (sn : Nat) (t7 : Int) (b0 : List Nat) : ∀ (n : Nat) (t8 : Int), iter 99 2 1 (evC (R := Ex × St) Γ3 (evFn Γ3 8 8) 99 1 fi99.nt fi99.live fi99.nl 8 (findL 2 (loopsIn fi99.code))) n (St.mk [(0, (AV.v (TV.one (At.vw 0 0 sn 1)))), (1, (AV.v (TV.one (At.fn 118 [])))), (7, (AV.v (TV.one (At.int IntKind.i64 t7)))), (8, (AV.v (TV.one (At.int IntKind.i64 t8))))] [(Blk.mk Bool.false (Body.fl FloatKind.f32 b0))]) (fun e st => some (e, st)) = (z67 sn t7 b0) (z2f sn t7 b0 n t8) := by
  intro n
  induction n with
  | zero => intros; rfl
  | succ n ih =>
    intro t8
    refine Eq.trans (iter_succ ..) (Eq.trans (zkc sn t7 t8 b0 (nextK 99 2 1 (evC (R := Ex × St) Γ3 (evFn Γ3 8 8) 99 1 fi99.nt fi99.live fi99.nl 8 (findL 2 (loopsIn fi99.code))) n (fun e st => some (e, st)))) (Eq.trans ?_ (zg8 (z67 sn t7 b0) rfl sn t7 b0 t8 (fun t8' => z2f sn t7 b0 n t8') (fun c0_ => some (Sum.inl c0_)) (fun c0_ c1_ => some (Sum.inr (c0_, c1_))))))
    exact congrArg (fun kn_ => z4p sn t7 b0 t8 kn_ (fun c0_ => (z67 sn t7 b0) (some (Sum.inl c0_))) (fun c0_ c1_ => (z67 sn t7 b0) (some (Sum.inr (c0_, c1_))))) (funext fun t8' => ih t8')
theorem z04 : LoopOne Try.prog fnTab 99 2 z05 := lp_of (Γ := Γ3) tyTab_ok (FnL.ok fnTab_ok _ _) (LpL.ok lt3_ok) (SumL.ok tb3_ok _) mixed (fi := fi99) (by kernel_rfl) (by kernel_rfl) (by
  intro lo st out hp
  obtain ⟨hs, e1, e2, e3⟩ := lpT_inv hp
  clear hp
  obtain rfl : st = (St.mk [(0, (AV.v (TV.one (At.vw 0 0 (hvN (hGet hs 0)) 1)))), (1, (AV.v (TV.one (At.fn 118 [])))), (7, (AV.v (TV.one (At.int IntKind.i64 (hvI (hGet hs 1)))))), (8, (AV.v (TV.one (At.int IntKind.i64 (hvI (hGet hs 2))))))] [(Blk.mk Bool.false (Body.fl FloatKind.f32 (hvLn (hGet hs 3))))]) := e2.trans (by kernel_rfl)
  clear e2
  subst e1
  unfold zb4 at e3
  injection e3 with h1 h2
  subst h2
  exact ⟨8, 8, big, Eq.trans (zk1 (hvN (hGet hs 0)) (hvI (hGet hs 1)) (hvLn (hGet hs 3)) big (hvI (hGet hs 2))) (zju (hvN (hGet hs 0)) (hvI (hGet hs 1)) (hvLn (hGet hs 3)) (z2f (hvN (hGet hs 0)) (hvI (hGet hs 1)) (hvLn (hGet hs 3)) big (hvI (hGet hs 2))) h1)⟩)
noncomputable def zaf (sn : Nat) (t7 : Int) (t8 : Int) (b0 : List Nat) : Bool × LO := ((z5d sn t7 b0 t8), (LO.two (z5a sn t7 b0 t8) (LO.one Ex.ret (St.mk [(4, (AV.v (TV.one (At.int IntKind.i64 (z6a sn t7 b0 t8)))))] [(Blk.mk Bool.false (Body.fl FloatKind.f32 b0))])) (LO.one (Ex.exit 0) (St.mk [(0, (AV.v (TV.one (At.vw 0 0 sn 1)))), (1, (AV.v (TV.one (At.fn 122 [])))), (7, (AV.v (TV.one (At.int IntKind.i64 t7)))), (8, (AV.v (TV.one (At.int IntKind.i64 (z81 sn t7 b0 t8))))), (9, (AV.v (TV.one (At.bool (z80 sn t7 b0 t8)))))] [(Blk.mk Bool.false (Body.fl FloatKind.f32 b0))]))))
noncomputable def z03 : Nat → St → Option (Bool × LO) := lpT 1 (pSt [(pTm 0 (pV (pOne (pVw 0 (liN 0) 1)))), (pTm 1 (pV (pOne (pFn 122 [])))), (pTm 7 (pV (pOne (pInt IntKind.i64)))), (pTm 8 (pV (pOne (pInt IntKind.i64))))] [(pBlk Bool.false (pFl FloatKind.f32))]) (fun hs => zaf (hvN (hGet hs 0)) (hvI (hGet hs 1)) (hvI (hGet hs 2)) (hvLn (hGet hs 3)))
def z62 (sn : Nat) (t7 : Int) (b0 : List Nat) : Option ((Int) ⊕ (Int × Bool)) → Option (Ex × St)
  | none => none
  | some (Sum.inl r) => some (Ex.ret, (St.mk [(4, (AV.v (TV.one (At.int IntKind.i64 r))))] [(Blk.mk Bool.false (Body.fl FloatKind.f32 b0))]))
  | some (Sum.inr r) => some ((Ex.exit 0), (St.mk [(0, (AV.v (TV.one (At.vw 0 0 sn 1)))), (1, (AV.v (TV.one (At.fn 122 [])))), (7, (AV.v (TV.one (At.int IntKind.i64 t7)))), (8, (AV.v (TV.one (At.int IntKind.i64 r.1)))), (9, (AV.v (TV.one (At.bool r.2))))] [(Blk.mk Bool.false (Body.fl FloatKind.f32 b0))]))
def zgq (sn : Nat) (t7 : Int) (b0 : List Nat) (x : Option ((Int) ⊕ (Int × Bool))) : LO := (LO.two (oL x) (LO.one Ex.ret (St.mk [(4, (AV.v (TV.one (At.int IntKind.i64 ((tL x).getD default)))))] [(Blk.mk Bool.false (Body.fl FloatKind.f32 b0))])) (LO.one (Ex.exit 0) (St.mk [(0, (AV.v (TV.one (At.vw 0 0 sn 1)))), (1, (AV.v (TV.one (At.fn 122 [])))), (7, (AV.v (TV.one (At.int IntKind.i64 t7)))), (8, (AV.v (TV.one (At.int IntKind.i64 ((tR x).getD default).1)))), (9, (AV.v (TV.one (At.bool ((tR x).getD default).2))))] [(Blk.mk Bool.false (Body.fl FloatKind.f32 b0))])))
theorem zie (sn : Nat) (t7 : Int) (b0 : List Nat) : ∀ x : Option ((Int) ⊕ (Int × Bool)), x.isSome = true → (z62 sn t7 b0) x = some (pick (zgq sn t7 b0 x))
  | none, h => by cases h
  | some (Sum.inl r), _ => rfl
  | some (Sum.inr r), _ => rfl
theorem zij (sn : Nat) (t7 : Int) (t8 : Int) (b0 : List Nat) (K : Ex → St → Option (Ex × St)) : evC (R := Ex × St) Γ3 (evFn Γ3 8 8) 99 1 fi99.nt fi99.live fi99.nl 8 (findL 2 (loopsIn fi99.code)) (St.mk [(0, (AV.v (TV.one (At.vw 0 0 sn 1)))), (1, (AV.v (TV.one (At.fn 122 [])))), (7, (AV.v (TV.one (At.int IntKind.i64 t7)))), (8, (AV.v (TV.one (At.int IntKind.i64 t8))))] [(Blk.mk Bool.false (Body.fl FloatKind.f32 b0))]) K = z4j sn t7 b0 t8 (fun t8' => K .normal (St.mk [(0, (AV.v (TV.one (At.vw 0 0 sn 1)))), (1, (AV.v (TV.one (At.fn 122 [])))), (7, (AV.v (TV.one (At.int IntKind.i64 t7)))), (8, (AV.v (TV.one (At.int IntKind.i64 t8'))))] [(Blk.mk Bool.false (Body.fl FloatKind.f32 b0))])) (fun c0_ => K Ex.ret (St.mk [(4, (AV.v (TV.one (At.int IntKind.i64 c0_))))] [(Blk.mk Bool.false (Body.fl FloatKind.f32 b0))])) (fun c0_ c1_ => K (Ex.exit 0) (St.mk [(0, (AV.v (TV.one (At.vw 0 0 sn 1)))), (1, (AV.v (TV.one (At.fn 122 [])))), (7, (AV.v (TV.one (At.int IntKind.i64 t7)))), (8, (AV.v (TV.one (At.int IntKind.i64 c0_)))), (9, (AV.v (TV.one (At.bool c1_))))] [(Blk.mk Bool.false (Body.fl FloatKind.f32 b0))])) := by kernel_rfl
theorem zic (sn : Nat) (t7 : Int) (b0 : List Nat) : ∀ (n : Nat) (t8 : Int), iter 99 2 1 (evC (R := Ex × St) Γ3 (evFn Γ3 8 8) 99 1 fi99.nt fi99.live fi99.nl 8 (findL 2 (loopsIn fi99.code))) n (St.mk [(0, (AV.v (TV.one (At.vw 0 0 sn 1)))), (1, (AV.v (TV.one (At.fn 122 [])))), (7, (AV.v (TV.one (At.int IntKind.i64 t7)))), (8, (AV.v (TV.one (At.int IntKind.i64 t8))))] [(Blk.mk Bool.false (Body.fl FloatKind.f32 b0))]) (fun e st => some (e, st)) = (z62 sn t7 b0) (z27 sn t7 b0 n t8) := by
  intro n
  induction n with
  | zero => intros; rfl
  | succ n ih =>
    intro t8
    refine Eq.trans (iter_succ ..) (Eq.trans (zij sn t7 t8 b0 (nextK 99 2 1 (evC (R := Ex × St) Γ3 (evFn Γ3 8 8) 99 1 fi99.nt fi99.live fi99.nl 8 (findL 2 (loopsIn fi99.code))) n (fun e st => some (e, st)))) (Eq.trans ?_ (zff (z62 sn t7 b0) rfl sn t7 b0 t8 (fun t8' => z27 sn t7 b0 n t8') (fun c0_ => some (Sum.inl c0_)) (fun c0_ c1_ => some (Sum.inr (c0_, c1_))))))
    exact congrArg (fun kn_ => z4j sn t7 b0 t8 kn_ (fun c0_ => (z62 sn t7 b0) (some (Sum.inl c0_))) (fun c0_ c1_ => (z62 sn t7 b0) (some (Sum.inr (c0_, c1_))))) (funext fun t8' => ih t8')
theorem z02 : LoopOne Try.prog fnTab 99 2 z03 := lp_of (Γ := Γ3) tyTab_ok (FnL.ok fnTab_ok _ _) (LpL.ok lt3_ok) (SumL.ok tb3_ok _) mixed (fi := fi99) (by kernel_rfl) (by kernel_rfl) (by
  intro lo st out hp
  obtain ⟨hs, e1, e2, e3⟩ := lpT_inv hp
  clear hp
  obtain rfl : st = (St.mk [(0, (AV.v (TV.one (At.vw 0 0 (hvN (hGet hs 0)) 1)))), (1, (AV.v (TV.one (At.fn 122 [])))), (7, (AV.v (TV.one (At.int IntKind.i64 (hvI (hGet hs 1)))))), (8, (AV.v (TV.one (At.int IntKind.i64 (hvI (hGet hs 2))))))] [(Blk.mk Bool.false (Body.fl FloatKind.f32 (hvLn (hGet hs 3))))]) := e2.trans (by kernel_rfl)
  clear e2
  subst e1
  unfold zaf at e3
  injection e3 with h1 h2
  subst h2
  exact ⟨8, 8, big, Eq.trans (zic (hvN (hGet hs 0)) (hvI (hGet hs 1)) (hvLn (hGet hs 3)) big (hvI (hGet hs 2))) (zie (hvN (hGet hs 0)) (hvI (hGet hs 1)) (hvLn (hGet hs 3)) (z27 (hvN (hGet hs 0)) (hvI (hGet hs 1)) (hvLn (hGet hs 3)) big (hvI (hGet hs 2))) h1)⟩)
noncomputable def tb4 : List (Nat × (List PT → Option (Bool × AV × List Blk))) := [(125, z2j), (128, z0y), (134, z1m), (137, z2k), (18, z2s), (44, z2q), (48, z2a), (54, z3i), (61, z2t), (63, z4i), (64, z49), (66, z48), (80, z2b), (97, z3h), (104, z0t), (115, z01), (14, z35), (67, z22), (88, z11), (92, z4b), (103, z3o), (105, z36), (111, z40), (114, z3n), (118, z21), (122, z1e), (37, z45), (52, z2o), (72, z1s), (79, z1v), (93, z3a), (119, z2n), (16, z3j), (36, z2e), (57, z32), (86, z31)]
noncomputable def lt4 : List ((Nat × Nat) × (Nat → St → Option (Bool × LO))) := [((52, 3), z1h), ((72, 2), z15), ((79, 2), z14), ((57, 4), z1n), ((86, 3), z1o), ((62, 5), z43), ((69, 4), z1x), ((99, 2), z05), ((99, 2), z03)]
noncomputable def Γ4 : Ctx := ⟨tyTab, fnTab, tblSum tb4, tblLp lt4⟩
theorem tb4_ok : SumL Try.prog tb4 := SumL.cons z1k (SumL.cons z0l (SumL.cons z19 (SumL.cons z1l (SumL.cons z1t (SumL.cons z1u (SumL.cons z1i (SumL.cons z29 (SumL.cons z1w (SumL.cons z3u (SumL.cons z3b (SumL.cons z39 (SumL.cons z1j (SumL.cons z28 (SumL.cons z0k (SumL.cons z00 (SumL.cons z24 (SumL.cons z1f (SumL.cons z0q (SumL.cons z3l (SumL.cons z2g (SumL.cons z23 (SumL.cons z33 (SumL.cons z2h (SumL.cons z1g (SumL.cons z12 (SumL.cons z37 (SumL.cons z1z (SumL.cons z1d (SumL.cons z1c (SumL.cons z2c (SumL.cons z1y (SumL.cons z2i (SumL.cons z1p (SumL.cons z26 (SumL.cons z25 (SumL.nil))))))))))))))))))))))))))))))))))))
theorem lt4_ok : LpL Try.prog fnTab lt4 := LpL.cons z13 (LpL.cons z0s (LpL.cons z0r (LpL.cons z18 (LpL.cons z17 (LpL.cons z34 (LpL.cons z1b (LpL.cons z04 (LpL.cons z02 (LpL.nil)))))))))
noncomputable def z3t : List PT → Option (Bool × AV × List Blk)
  | [.agg [.row 1 q0w (.fl .f32 q10), .row 1 q0y (.fl .f32 q18), .row 1 q0z (.fl .f32 q1a)], .agg [.row 1 q3b (.fl .f32 q3h), .row 1 q3e (.fl .f32 q3l), .row 1 q3d (.fl .f32 q3m)]] => some ((zkw q0w q10 q0y q18 q0z q1a q3b q3h q3e q3l q3d q3m), ((AV.v (TV.one (At.bool (zje q0w q10 q0y q18 q0z q1a q3b q3h q3e q3l q3d q3m)))), []))
  | _ => none
def zna (q0w : Nat) (q10 : List Nat) (q0y : Nat) (q18 : List Nat) (q0z : Nat) (q1a : List Nat) (q3b : Nat) (q3h : List Nat) (q3e : Nat) (q3l : List Nat) (q3d : Nat) (q3m : List Nat) : Option (Bool) → Option (AV × List Blk)
  | some r => some ((AV.v (TV.one (At.bool r))), [])
  | none => none
theorem zsb (q0w : Nat) (q10 : List Nat) (q0y : Nat) (q18 : List Nat) (q0z : Nat) (q1a : List Nat) (q3b : Nat) (q3h : List Nat) (q3e : Nat) (q3l : List Nat) (q3d : Nat) (q3m : List Nat) : evFn Γ4 8 8 19 (impTs 0 [.agg [.row 1 q0w (.fl .f32 q10), .row 1 q0y (.fl .f32 q18), .row 1 q0z (.fl .f32 q1a)], .agg [.row 1 q3b (.fl .f32 q3h), .row 1 q3e (.fl .f32 q3l), .row 1 q3d (.fl .f32 q3m)]]).1 (impTs 0 [.agg [.row 1 q0w (.fl .f32 q10), .row 1 q0y (.fl .f32 q18), .row 1 q0z (.fl .f32 q1a)], .agg [.row 1 q3b (.fl .f32 q3h), .row 1 q3e (.fl .f32 q3l), .row 1 q3d (.fl .f32 q3m)]]).2 (expo (impTs 0 [.agg [.row 1 q0w (.fl .f32 q10), .row 1 q0y (.fl .f32 q18), .row 1 q0z (.fl .f32 q1a)], .agg [.row 1 q3b (.fl .f32 q3h), .row 1 q3e (.fl .f32 q3l), .row 1 q3d (.fl .f32 q3m)]]).2.length) = zds q0w q10 q0y q18 q0z q1a q3b q3h q3e q3l q3d q3m (fun c0_ => some ((AV.v (TV.one (At.bool c0_))), [])) := by kernel_rfl
theorem z2u : SumOne Try.prog 19 z3t := sum_of (Γ := Γ4) (fuel := 8) (d := 8) tyTab_ok (FnL.ok fnTab_ok _ _) (LpL.ok lt4_ok) (SumL.ok tb4_ok _) mixed (by
  intro pts v news hp hc
  clear hc
  unfold z3t at hp
  split at hp
  · rename_i q0w q10 q0y q18 q0z q1a q3b q3h q3e q3l q3d q3m
    exact Eq.trans (Eq.trans (zsb q0w q10 q0y q18 q0z q1a q3b q3h q3e q3l q3d q3m) (zq0 (zna q0w q10 q0y q18 q0z q1a q3b q3h q3e q3l q3d q3m) rfl q0w q10 q0y q18 q0z q1a q3b q3h q3e q3l q3d q3m (fun c0_ => some c0_))) (fin_out (o := (zna q0w q10 q0y q18 q0z q1a q3b q3h q3e q3l q3d q3m)) (x := zdp q0w q10 q0y q18 q0z q1a q3b q3h q3e q3l q3d q3m) (d := default) (V := fun r => ((AV.v (TV.one (At.bool r))), [])) (fun r => rfl) hp)
  · cases hp)
noncomputable def z3r : List PT → Option (Bool × AV × List Blk)
  | [.agg [.row 1 q0m (.fl .f32 q0q), .row 1 q0o (.fl .f32 q0s), .row 1 q0n (.fl .f32 q0r), .row 3 q0v (.fl .f32 q0x), .s (.int .i64 q19), .s (.flt .f32 q26), .s (.flt .f32 q27)], .one (.s (.int .i64 k))] => some ((zku q0m q0q q0o q0s q0n q0r q0v q0x q19 q26 q27 k), ((AV.v (TV.one (At.int IntKind.i64 (zjo q0m q0q q0o q0s q0n q0r q0v q0x q19 q26 q27 k)))), []))
  | _ => none
def zno (q0m : Nat) (q0q : List Nat) (q0o : Nat) (q0s : List Nat) (q0n : Nat) (q0r : List Nat) (q0v : Nat) (q0x : List Nat) (q19 : Int) (q26 : Nat) (q27 : Nat) (k : Int) : Option (Int) → Option (AV × List Blk)
  | some r => some ((AV.v (TV.one (At.int IntKind.i64 r))), [])
  | none => none
theorem zs2 (q0m : Nat) (q0q : List Nat) (q0o : Nat) (q0s : List Nat) (q0n : Nat) (q0r : List Nat) (q0v : Nat) (q0x : List Nat) (q19 : Int) (q26 : Nat) (q27 : Nat) (k : Int) : evFn Γ4 8 8 33 (impTs 0 [.agg [.row 1 q0m (.fl .f32 q0q), .row 1 q0o (.fl .f32 q0s), .row 1 q0n (.fl .f32 q0r), .row 3 q0v (.fl .f32 q0x), .s (.int .i64 q19), .s (.flt .f32 q26), .s (.flt .f32 q27)], .one (.s (.int .i64 k))]).1 (impTs 0 [.agg [.row 1 q0m (.fl .f32 q0q), .row 1 q0o (.fl .f32 q0s), .row 1 q0n (.fl .f32 q0r), .row 3 q0v (.fl .f32 q0x), .s (.int .i64 q19), .s (.flt .f32 q26), .s (.flt .f32 q27)], .one (.s (.int .i64 k))]).2 (expo (impTs 0 [.agg [.row 1 q0m (.fl .f32 q0q), .row 1 q0o (.fl .f32 q0s), .row 1 q0n (.fl .f32 q0r), .row 3 q0v (.fl .f32 q0x), .s (.int .i64 q19), .s (.flt .f32 q26), .s (.flt .f32 q27)], .one (.s (.int .i64 k))]).2.length) = zdx q0m q0q q0o q0s q0n q0r q0v q0x q19 q26 q27 k (fun c0_ => some ((AV.v (TV.one (At.int IntKind.i64 c0_))), [])) := by kernel_rfl
theorem z2r : SumOne Try.prog 33 z3r := sum_of (Γ := Γ4) (fuel := 8) (d := 8) tyTab_ok (FnL.ok fnTab_ok _ _) (LpL.ok lt4_ok) (SumL.ok tb4_ok _) mixed (by
  intro pts v news hp hc
  clear hc
  unfold z3r at hp
  split at hp
  · rename_i q0m q0q q0o q0s q0n q0r q0v q0x q19 q26 q27 k
    exact Eq.trans (Eq.trans (zs2 q0m q0q q0o q0s q0n q0r q0v q0x q19 q26 q27 k) (zpo (zno q0m q0q q0o q0s q0n q0r q0v q0x q19 q26 q27 k) rfl q0m q0q q0o q0s q0n q0r q0v q0x q19 q26 q27 k (fun c0_ => some c0_))) (fin_out (o := (zno q0m q0q q0o q0s q0n q0r q0v q0x q19 q26 q27 k)) (x := zdz q0m q0q q0o q0s q0n q0r q0v q0x q19 q26 q27 k) (d := default) (V := fun r => ((AV.v (TV.one (At.int IntKind.i64 r))), [])) (fun r => rfl) hp)
  · cases hp)
noncomputable def z4d : List PT → Option (Bool × AV × List Blk)
  | [.agg [.row 1 q0m (.fl .f32 q0q), .row 1 q0o (.fl .f32 q0s), .row 1 q0n (.fl .f32 q0r), .row 3 q0v (.fl .f32 q0x), .s (.int .i64 q19), .s (.flt .f32 q26), .s (.flt .f32 q27)]] => some ((zka q0m q0q q0o q0s q0n q0r q0v q0x q19 q26 q27), ((AV.v (TV.agg [(At.sl 0 0 (zhu q0m q0q q0o q0s q0n q0r q0v q0x q19 q26 q27) 1), (At.sl 1 0 (zgv q0m q0q q0o q0s q0n q0r q0v q0x q19 q26 q27) 1), (At.sl 2 0 (zhe q0m q0q q0o q0s q0n q0r q0v q0x q19 q26 q27) 1), (At.sl 3 0 (zgt q0m q0q q0o q0s q0n q0r q0v q0x q19 q26 q27) 3), (At.int IntKind.i64 q19), (At.flt FloatKind.f32 q26), (At.flt FloatKind.f32 q27)])), [(Blk.mk Bool.true (Body.fl FloatKind.f32 (zi3 q0m q0q q0o q0s q0n q0r q0v q0x q19 q26 q27))), (Blk.mk Bool.true (Body.fl FloatKind.f32 (zi8 q0m q0q q0o q0s q0n q0r q0v q0x q19 q26 q27))), (Blk.mk Bool.true (Body.fl FloatKind.f32 (zho q0m q0q q0o q0s q0n q0r q0v q0x q19 q26 q27))), (Blk.mk Bool.true (Body.fl FloatKind.f32 (zh8 q0m q0q q0o q0s q0n q0r q0v q0x q19 q26 q27)))]))
  | _ => none
def zp2 (q0m : Nat) (q0q : List Nat) (q0o : Nat) (q0s : List Nat) (q0n : Nat) (q0r : List Nat) (q0v : Nat) (q0x : List Nat) (q19 : Int) (q26 : Nat) (q27 : Nat) : Option (Nat × Nat × Nat × Nat × (List Nat) × (List Nat) × (List Nat) × (List Nat)) → Option (AV × List Blk)
  | some r => some ((AV.v (TV.agg [(At.sl 0 0 r.1 1), (At.sl 1 0 r.2.1 1), (At.sl 2 0 r.2.2.1 1), (At.sl 3 0 r.2.2.2.1 3), (At.int IntKind.i64 q19), (At.flt FloatKind.f32 q26), (At.flt FloatKind.f32 q27)])), [(Blk.mk Bool.true (Body.fl FloatKind.f32 r.2.2.2.2.1)), (Blk.mk Bool.true (Body.fl FloatKind.f32 r.2.2.2.2.2.1)), (Blk.mk Bool.true (Body.fl FloatKind.f32 r.2.2.2.2.2.2.1)), (Blk.mk Bool.true (Body.fl FloatKind.f32 r.2.2.2.2.2.2.2))])
  | none => none
theorem zst (q0m : Nat) (q0q : List Nat) (q0o : Nat) (q0s : List Nat) (q0n : Nat) (q0r : List Nat) (q0v : Nat) (q0x : List Nat) (q19 : Int) (q26 : Nat) (q27 : Nat) : evFn Γ4 8 8 39 (impTs 0 [.agg [.row 1 q0m (.fl .f32 q0q), .row 1 q0o (.fl .f32 q0s), .row 1 q0n (.fl .f32 q0r), .row 3 q0v (.fl .f32 q0x), .s (.int .i64 q19), .s (.flt .f32 q26), .s (.flt .f32 q27)]]).1 (impTs 0 [.agg [.row 1 q0m (.fl .f32 q0q), .row 1 q0o (.fl .f32 q0s), .row 1 q0n (.fl .f32 q0r), .row 3 q0v (.fl .f32 q0x), .s (.int .i64 q19), .s (.flt .f32 q26), .s (.flt .f32 q27)]]).2 (expo (impTs 0 [.agg [.row 1 q0m (.fl .f32 q0q), .row 1 q0o (.fl .f32 q0s), .row 1 q0n (.fl .f32 q0r), .row 3 q0v (.fl .f32 q0x), .s (.int .i64 q19), .s (.flt .f32 q26), .s (.flt .f32 q27)]]).2.length) = zf3 q0m q0q q0o q0s q0n q0r q0v q0x q19 q26 q27 (fun c0_ c1_ c2_ c3_ c4_ c5_ c6_ c7_ => some ((AV.v (TV.agg [(At.sl 0 0 c0_ 1), (At.sl 1 0 c1_ 1), (At.sl 2 0 c2_ 1), (At.sl 3 0 c3_ 3), (At.int IntKind.i64 q19), (At.flt FloatKind.f32 q26), (At.flt FloatKind.f32 q27)])), [(Blk.mk Bool.true (Body.fl FloatKind.f32 c4_)), (Blk.mk Bool.true (Body.fl FloatKind.f32 c5_)), (Blk.mk Bool.true (Body.fl FloatKind.f32 c6_)), (Blk.mk Bool.true (Body.fl FloatKind.f32 c7_))])) := by kernel_rfl
theorem z3s : SumOne Try.prog 39 z4d := sum_of (Γ := Γ4) (fuel := 8) (d := 8) tyTab_ok (FnL.ok fnTab_ok _ _) (LpL.ok lt4_ok) (SumL.ok tb4_ok _) mixed (by
  intro pts v news hp hc
  clear hc
  unfold z4d at hp
  split at hp
  · rename_i q0m q0q q0o q0s q0n q0r q0v q0x q19 q26 q27
    exact Eq.trans (Eq.trans (zst q0m q0q q0o q0s q0n q0r q0v q0x q19 q26 q27) (zr0 (zp2 q0m q0q q0o q0s q0n q0r q0v q0x q19 q26 q27) rfl q0m q0q q0o q0s q0n q0r q0v q0x q19 q26 q27 (fun c0_ c1_ c2_ c3_ c4_ c5_ c6_ c7_ => some (c0_, c1_, c2_, c3_, c4_, c5_, c6_, c7_)))) (fin_out (o := (zp2 q0m q0q q0o q0s q0n q0r q0v q0x q19 q26 q27)) (x := z7u q0m q0q q0o q0s q0n q0r q0v q0x q19 q26 q27) (d := default) (V := fun r => ((AV.v (TV.agg [(At.sl 0 0 r.1 1), (At.sl 1 0 r.2.1 1), (At.sl 2 0 r.2.2.1 1), (At.sl 3 0 r.2.2.2.1 3), (At.int IntKind.i64 q19), (At.flt FloatKind.f32 q26), (At.flt FloatKind.f32 q27)])), [(Blk.mk Bool.true (Body.fl FloatKind.f32 r.2.2.2.2.1)), (Blk.mk Bool.true (Body.fl FloatKind.f32 r.2.2.2.2.2.1)), (Blk.mk Bool.true (Body.fl FloatKind.f32 r.2.2.2.2.2.2.1)), (Blk.mk Bool.true (Body.fl FloatKind.f32 r.2.2.2.2.2.2.2))])) (fun r => rfl) hp)
  · cases hp)
noncomputable def z4t : List PT → Option (Bool × AV × List Blk)
  | [.ptr [.row 1 q11 (.fl .f32 q1q), .row 1 q1b (.fl .f32 q1t), .row 1 q1c (.fl .f32 q1s)]] => some ((zmc q11 q1q q1b q1t q1c q1s), ((AV.v (TV.one (At.bool (zm9 q11 q1q q1b q1t q1c q1s)))), []))
  | _ => none
def zr9 (q11 : Nat) (q1q : List Nat) (q1b : Nat) (q1t : List Nat) (q1c : Nat) (q1s : List Nat) : Option (Bool) → Option (AV × List Blk)
  | some r => some ((AV.v (TV.one (At.bool r))), [])
  | none => none
theorem zt5 (q11 : Nat) (q1q : List Nat) (q1b : Nat) (q1t : List Nat) (q1c : Nat) (q1s : List Nat) : evFn Γ4 8 8 62 (impTs 0 [.ptr [.row 1 q11 (.fl .f32 q1q), .row 1 q1b (.fl .f32 q1t), .row 1 q1c (.fl .f32 q1s)]]).1 (impTs 0 [.ptr [.row 1 q11 (.fl .f32 q1q), .row 1 q1b (.fl .f32 q1t), .row 1 q1c (.fl .f32 q1s)]]).2 (expo (impTs 0 [.ptr [.row 1 q11 (.fl .f32 q1q), .row 1 q1b (.fl .f32 q1t), .row 1 q1c (.fl .f32 q1s)]]).2.length) = zjw q11 q1q q1b q1t q1c q1s (fun c0_ => some ((AV.v (TV.one (At.bool c0_))), [])) := by kernel_rfl
theorem z4c : SumOne Try.prog 62 z4t := sum_of (Γ := Γ4) (fuel := 8) (d := 8) tyTab_ok (FnL.ok fnTab_ok _ _) (LpL.ok lt4_ok) (SumL.ok tb4_ok _) mixed (by
  intro pts v news hp hc
  clear hc
  unfold z4t at hp
  split at hp
  · rename_i q11 q1q q1b q1t q1c q1s
    exact Eq.trans (Eq.trans (zt5 q11 q1q q1b q1t q1c q1s) (zsa (zr9 q11 q1q q1b q1t q1c q1s) rfl q11 q1q q1b q1t q1c q1s (fun c0_ => some c0_))) (fin_out (o := (zr9 q11 q1q q1b q1t q1c q1s)) (x := zjx q11 q1q q1b q1t q1c q1s) (d := default) (V := fun r => ((AV.v (TV.one (At.bool r))), [])) (fun r => rfl) hp)
  · cases hp)
noncomputable def z38 : List PT → Option (Bool × AV × List Blk)
  | [.one (.row 3 a_n (.fl .f32 a)), .one (.row 3 b_n (.fl .f32 b))] => some ((zjh a_n a b_n b), ((AV.v (TV.one (At.bool (zgp a_n a b_n b)))), []))
  | _ => none
def zmx (a_n : Nat) (a : List Nat) (b_n : Nat) (b : List Nat) : Option (Bool) → Option (AV × List Blk)
  | some r => some ((AV.v (TV.one (At.bool r))), [])
  | none => none
theorem zrf (a_n : Nat) (a : List Nat) (b_n : Nat) (b : List Nat) : evFn Γ4 8 8 69 (impTs 0 [.one (.row 3 a_n (.fl .f32 a)), .one (.row 3 b_n (.fl .f32 b))]).1 (impTs 0 [.one (.row 3 a_n (.fl .f32 a)), .one (.row 3 b_n (.fl .f32 b))]).2 (expo (impTs 0 [.one (.row 3 a_n (.fl .f32 a)), .one (.row 3 b_n (.fl .f32 b))]).2.length) = zdg a_n a b_n b (fun c0_ => some ((AV.v (TV.one (At.bool c0_))), [])) := by kernel_rfl
theorem z2d : SumOne Try.prog 69 z38 := sum_of (Γ := Γ4) (fuel := 8) (d := 8) tyTab_ok (FnL.ok fnTab_ok _ _) (LpL.ok lt4_ok) (SumL.ok tb4_ok _) mixed (by
  intro pts v news hp hc
  clear hc
  unfold z38 at hp
  split at hp
  · rename_i a_n a b_n b
    exact Eq.trans (Eq.trans (zrf a_n a b_n b) (zp7 (zmx a_n a b_n b) rfl a_n a b_n b (fun c0_ => some c0_))) (fin_out (o := (zmx a_n a b_n b)) (x := zcv a_n a b_n b) (d := default) (V := fun r => ((AV.v (TV.one (At.bool r))), [])) (fun r => rfl) hp)
  · cases hp)
noncomputable def z0f : List PT → Option (Bool × AV × List Blk)
  | [.one (.row 1 s_n (.fl .f32 s)), .fn 118 []] => some ((z7w s_n s), ((AV.v (TV.one (At.int IntKind.i64 (z7p s_n s)))), []))
  | _ => none
def zdi (s_n : Nat) (s : List Nat) : Option (Int) → Option (AV × List Blk)
  | some r => some ((AV.v (TV.one (At.int IntKind.i64 r))), [])
  | none => none
theorem zl7 (s_n : Nat) (s : List Nat) : evFn Γ4 8 8 99 (impTs 0 [.one (.row 1 s_n (.fl .f32 s)), .fn 118 []]).1 (impTs 0 [.one (.row 1 s_n (.fl .f32 s)), .fn 118 []]).2 (expo (impTs 0 [.one (.row 1 s_n (.fl .f32 s)), .fn 118 []]).2.length) = z5y s_n s (fun c0_ => some ((AV.v (TV.one (At.int IntKind.i64 c0_))), [])) := by kernel_rfl
theorem z0e : SumOne Try.prog 99 z0f := sum_of (Γ := Γ4) (fuel := 8) (d := 8) tyTab_ok (FnL.ok fnTab_ok _ _) (LpL.ok lt4_ok) (SumL.ok tb4_ok _) mixed (by
  intro pts v news hp hc
  clear hc
  unfold z0f at hp
  split at hp
  · rename_i s_n s
    exact Eq.trans (Eq.trans (zl7 s_n s) (zj4 (zdi s_n s) rfl s_n s (fun c0_ => some c0_))) (fin_out (o := (zdi s_n s)) (x := z5x s_n s) (d := default) (V := fun r => ((AV.v (TV.one (At.int IntKind.i64 r))), [])) (fun r => rfl) hp)
  · cases hp)
noncomputable def z0a : List PT → Option (Bool × AV × List Blk)
  | [.one (.row 1 s_n (.fl .f32 s)), .fn 122 []] => some ((z7m s_n s), ((AV.v (TV.one (At.int IntKind.i64 (z7d s_n s)))), []))
  | _ => none
def zcj (s_n : Nat) (s : List Nat) : Option (Int) → Option (AV × List Blk)
  | some r => some ((AV.v (TV.one (At.int IntKind.i64 r))), [])
  | none => none
theorem zkl (s_n : Nat) (s : List Nat) : evFn Γ4 8 8 99 (impTs 0 [.one (.row 1 s_n (.fl .f32 s)), .fn 122 []]).1 (impTs 0 [.one (.row 1 s_n (.fl .f32 s)), .fn 122 []]).2 (expo (impTs 0 [.one (.row 1 s_n (.fl .f32 s)), .fn 122 []]).2.length) = z5o s_n s (fun c0_ => some ((AV.v (TV.one (At.int IntKind.i64 c0_))), [])) := by kernel_rfl
theorem z08 : SumOne Try.prog 99 z0a := sum_of (Γ := Γ4) (fuel := 8) (d := 8) tyTab_ok (FnL.ok fnTab_ok _ _) (LpL.ok lt4_ok) (SumL.ok tb4_ok _) mixed (by
  intro pts v news hp hc
  clear hc
  unfold z0a at hp
  split at hp
  · rename_i s_n s
    exact Eq.trans (Eq.trans (zkl s_n s) (zhp (zcj s_n s) rfl s_n s (fun c0_ => some c0_))) (fin_out (o := (zcj s_n s)) (x := z5q s_n s) (d := default) (V := fun r => ((AV.v (TV.one (At.int IntKind.i64 r))), [])) (fun r => rfl) hp)
  · cases hp)
noncomputable def zby (sn : Nat) (t7 : Int) (t8 : Int) (b0 : List Nat) : Bool × LO := ((z5r sn t7 b0 t8), (LO.two (z5k sn t7 b0 t8) (LO.one Ex.ret (St.mk [(4, (AV.v (TV.one (At.int IntKind.i64 (z6s sn t7 b0 t8)))))] [(Blk.mk Bool.false (Body.fl FloatKind.f32 b0))])) (LO.one (Ex.exit 0) (St.mk [(0, (AV.v (TV.one (At.vw 0 0 sn 1)))), (1, (AV.v (TV.one (At.fn 119 [])))), (7, (AV.v (TV.one (At.int IntKind.i64 t7)))), (8, (AV.v (TV.one (At.int IntKind.i64 (z8x sn t7 b0 t8))))), (9, (AV.v (TV.one (At.bool (z8w sn t7 b0 t8)))))] [(Blk.mk Bool.false (Body.fl FloatKind.f32 b0))]))))
noncomputable def z0b : Nat → St → Option (Bool × LO) := lpT 1 (pSt [(pTm 0 (pV (pOne (pVw 0 (liN 0) 1)))), (pTm 1 (pV (pOne (pFn 119 [])))), (pTm 7 (pV (pOne (pInt IntKind.i64)))), (pTm 8 (pV (pOne (pInt IntKind.i64))))] [(pBlk Bool.false (pFl FloatKind.f32))]) (fun hs => zby (hvN (hGet hs 0)) (hvI (hGet hs 1)) (hvI (hGet hs 2)) (hvLn (hGet hs 3)))
def z68 (sn : Nat) (t7 : Int) (b0 : List Nat) : Option ((Int) ⊕ (Int × Bool)) → Option (Ex × St)
  | none => none
  | some (Sum.inl r) => some (Ex.ret, (St.mk [(4, (AV.v (TV.one (At.int IntKind.i64 r))))] [(Blk.mk Bool.false (Body.fl FloatKind.f32 b0))]))
  | some (Sum.inr r) => some ((Ex.exit 0), (St.mk [(0, (AV.v (TV.one (At.vw 0 0 sn 1)))), (1, (AV.v (TV.one (At.fn 119 [])))), (7, (AV.v (TV.one (At.int IntKind.i64 t7)))), (8, (AV.v (TV.one (At.int IntKind.i64 r.1)))), (9, (AV.v (TV.one (At.bool r.2))))] [(Blk.mk Bool.false (Body.fl FloatKind.f32 b0))]))
def zk8 (sn : Nat) (t7 : Int) (b0 : List Nat) (x : Option ((Int) ⊕ (Int × Bool))) : LO := (LO.two (oL x) (LO.one Ex.ret (St.mk [(4, (AV.v (TV.one (At.int IntKind.i64 ((tL x).getD default)))))] [(Blk.mk Bool.false (Body.fl FloatKind.f32 b0))])) (LO.one (Ex.exit 0) (St.mk [(0, (AV.v (TV.one (At.vw 0 0 sn 1)))), (1, (AV.v (TV.one (At.fn 119 [])))), (7, (AV.v (TV.one (At.int IntKind.i64 t7)))), (8, (AV.v (TV.one (At.int IntKind.i64 ((tR x).getD default).1)))), (9, (AV.v (TV.one (At.bool ((tR x).getD default).2))))] [(Blk.mk Bool.false (Body.fl FloatKind.f32 b0))])))
theorem zkn (sn : Nat) (t7 : Int) (b0 : List Nat) : ∀ x : Option ((Int) ⊕ (Int × Bool)), x.isSome = true → (z68 sn t7 b0) x = some (pick (zk8 sn t7 b0 x))
  | none, h => by cases h
  | some (Sum.inl r), _ => rfl
  | some (Sum.inr r), _ => rfl
theorem zki (sn : Nat) (t7 : Int) (t8 : Int) (b0 : List Nat) (K : Ex → St → Option (Ex × St)) : evC (R := Ex × St) Γ4 (evFn Γ4 8 8) 99 1 fi99.nt fi99.live fi99.nl 8 (findL 2 (loopsIn fi99.code)) (St.mk [(0, (AV.v (TV.one (At.vw 0 0 sn 1)))), (1, (AV.v (TV.one (At.fn 119 [])))), (7, (AV.v (TV.one (At.int IntKind.i64 t7)))), (8, (AV.v (TV.one (At.int IntKind.i64 t8))))] [(Blk.mk Bool.false (Body.fl FloatKind.f32 b0))]) K = z4s sn t7 b0 t8 (fun t8' => K .normal (St.mk [(0, (AV.v (TV.one (At.vw 0 0 sn 1)))), (1, (AV.v (TV.one (At.fn 119 [])))), (7, (AV.v (TV.one (At.int IntKind.i64 t7)))), (8, (AV.v (TV.one (At.int IntKind.i64 t8'))))] [(Blk.mk Bool.false (Body.fl FloatKind.f32 b0))])) (fun c0_ => K Ex.ret (St.mk [(4, (AV.v (TV.one (At.int IntKind.i64 c0_))))] [(Blk.mk Bool.false (Body.fl FloatKind.f32 b0))])) (fun c0_ c1_ => K (Ex.exit 0) (St.mk [(0, (AV.v (TV.one (At.vw 0 0 sn 1)))), (1, (AV.v (TV.one (At.fn 119 [])))), (7, (AV.v (TV.one (At.int IntKind.i64 t7)))), (8, (AV.v (TV.one (At.int IntKind.i64 c0_)))), (9, (AV.v (TV.one (At.bool c1_))))] [(Blk.mk Bool.false (Body.fl FloatKind.f32 b0))])) := by kernel_rfl
theorem zko (sn : Nat) (t7 : Int) (b0 : List Nat) : ∀ (n : Nat) (t8 : Int), iter 99 2 1 (evC (R := Ex × St) Γ4 (evFn Γ4 8 8) 99 1 fi99.nt fi99.live fi99.nl 8 (findL 2 (loopsIn fi99.code))) n (St.mk [(0, (AV.v (TV.one (At.vw 0 0 sn 1)))), (1, (AV.v (TV.one (At.fn 119 [])))), (7, (AV.v (TV.one (At.int IntKind.i64 t7)))), (8, (AV.v (TV.one (At.int IntKind.i64 t8))))] [(Blk.mk Bool.false (Body.fl FloatKind.f32 b0))]) (fun e st => some (e, st)) = (z68 sn t7 b0) (z2m sn t7 b0 n t8) := by
  intro n
  induction n with
  | zero => intros; rfl
  | succ n ih =>
    intro t8
    refine Eq.trans (iter_succ ..) (Eq.trans (zki sn t7 t8 b0 (nextK 99 2 1 (evC (R := Ex × St) Γ4 (evFn Γ4 8 8) 99 1 fi99.nt fi99.live fi99.nl 8 (findL 2 (loopsIn fi99.code))) n (fun e st => some (e, st)))) (Eq.trans ?_ (zhg (z68 sn t7 b0) rfl sn t7 b0 t8 (fun t8' => z2m sn t7 b0 n t8') (fun c0_ => some (Sum.inl c0_)) (fun c0_ c1_ => some (Sum.inr (c0_, c1_))))))
    exact congrArg (fun kn_ => z4s sn t7 b0 t8 kn_ (fun c0_ => (z68 sn t7 b0) (some (Sum.inl c0_))) (fun c0_ c1_ => (z68 sn t7 b0) (some (Sum.inr (c0_, c1_))))) (funext fun t8' => ih t8')
theorem z09 : LoopOne Try.prog fnTab 99 2 z0b := lp_of (Γ := Γ4) tyTab_ok (FnL.ok fnTab_ok _ _) (LpL.ok lt4_ok) (SumL.ok tb4_ok _) mixed (fi := fi99) (by kernel_rfl) (by kernel_rfl) (by
  intro lo st out hp
  obtain ⟨hs, e1, e2, e3⟩ := lpT_inv hp
  clear hp
  obtain rfl : st = (St.mk [(0, (AV.v (TV.one (At.vw 0 0 (hvN (hGet hs 0)) 1)))), (1, (AV.v (TV.one (At.fn 119 [])))), (7, (AV.v (TV.one (At.int IntKind.i64 (hvI (hGet hs 1)))))), (8, (AV.v (TV.one (At.int IntKind.i64 (hvI (hGet hs 2))))))] [(Blk.mk Bool.false (Body.fl FloatKind.f32 (hvLn (hGet hs 3))))]) := e2.trans (by kernel_rfl)
  clear e2
  subst e1
  unfold zby at e3
  injection e3 with h1 h2
  subst h2
  exact ⟨8, 8, big, Eq.trans (zko (hvN (hGet hs 0)) (hvI (hGet hs 1)) (hvLn (hGet hs 3)) big (hvI (hGet hs 2))) (zkn (hvN (hGet hs 0)) (hvI (hGet hs 1)) (hvLn (hGet hs 3)) (z2m (hvN (hGet hs 0)) (hvI (hGet hs 1)) (hvLn (hGet hs 3)) big (hvI (hGet hs 2))) h1)⟩)
noncomputable def tb5 : List (Nat × (List PT → Option (Bool × AV × List Blk))) := [(125, z2j), (128, z0y), (134, z1m), (137, z2k), (18, z2s), (44, z2q), (48, z2a), (54, z3i), (61, z2t), (63, z4i), (64, z49), (66, z48), (80, z2b), (97, z3h), (104, z0t), (115, z01), (14, z35), (67, z22), (88, z11), (92, z4b), (103, z3o), (105, z36), (111, z40), (114, z3n), (118, z21), (122, z1e), (37, z45), (52, z2o), (72, z1s), (79, z1v), (93, z3a), (119, z2n), (16, z3j), (36, z2e), (57, z32), (86, z31), (19, z3t), (33, z3r), (39, z4d), (62, z4t), (69, z38), (99, z0f), (99, z0a)]
noncomputable def lt5 : List ((Nat × Nat) × (Nat → St → Option (Bool × LO))) := [((52, 3), z1h), ((72, 2), z15), ((79, 2), z14), ((57, 4), z1n), ((86, 3), z1o), ((62, 5), z43), ((69, 4), z1x), ((99, 2), z05), ((99, 2), z03), ((99, 2), z0b)]
noncomputable def Γ5 : Ctx := ⟨tyTab, fnTab, tblSum tb5, tblLp lt5⟩
theorem tb5_ok : SumL Try.prog tb5 := SumL.cons z1k (SumL.cons z0l (SumL.cons z19 (SumL.cons z1l (SumL.cons z1t (SumL.cons z1u (SumL.cons z1i (SumL.cons z29 (SumL.cons z1w (SumL.cons z3u (SumL.cons z3b (SumL.cons z39 (SumL.cons z1j (SumL.cons z28 (SumL.cons z0k (SumL.cons z00 (SumL.cons z24 (SumL.cons z1f (SumL.cons z0q (SumL.cons z3l (SumL.cons z2g (SumL.cons z23 (SumL.cons z33 (SumL.cons z2h (SumL.cons z1g (SumL.cons z12 (SumL.cons z37 (SumL.cons z1z (SumL.cons z1d (SumL.cons z1c (SumL.cons z2c (SumL.cons z1y (SumL.cons z2i (SumL.cons z1p (SumL.cons z26 (SumL.cons z25 (SumL.cons z2u (SumL.cons z2r (SumL.cons z3s (SumL.cons z4c (SumL.cons z2d (SumL.cons z0e (SumL.cons z08 (SumL.nil)))))))))))))))))))))))))))))))))))))))))))
theorem lt5_ok : LpL Try.prog fnTab lt5 := LpL.cons z13 (LpL.cons z0s (LpL.cons z0r (LpL.cons z18 (LpL.cons z17 (LpL.cons z34 (LpL.cons z1b (LpL.cons z04 (LpL.cons z02 (LpL.cons z09 (LpL.nil))))))))))
noncomputable def z4g : List PT → Option (Bool × AV × List Blk)
  | [.agg [.row 1 q0m (.fl .f32 q0q), .row 1 q0o (.fl .f32 q0s), .row 1 q0n (.fl .f32 q0r), .row 3 q0v (.fl .f32 q0x), .s (.int .i64 q19), .s (.flt .f32 q26), .s (.flt .f32 q27)], .agg [.row 1 q2i (.fl .f32 q2m), .row 1 q2k (.fl .f32 q2o), .row 1 q2j (.fl .f32 q2n), .row 3 q2z (.fl .f32 q3c), .s (.int .i64 q3n), .s (.flt .f32 q3p), .s (.flt .f32 q3o)]] => some ((zf6 q0m q0q q0o q0s q0n q0r q0v q0x q19 q26 q27 q2i q2m q2k q2o q2j q2n q2z q3c q3n q3p q3o), ((AV.v (TV.one (At.bool (zed q0m q0q q0o q0s q0n q0r q0v q0x q19 q26 q27 q2i q2m q2k q2o q2j q2n q2z q3c q3n q3p q3o)))), []))
  | _ => none
def zoz (q0m : Nat) (q0q : List Nat) (q0o : Nat) (q0s : List Nat) (q0n : Nat) (q0r : List Nat) (q0v : Nat) (q0x : List Nat) (q19 : Int) (q26 : Nat) (q27 : Nat) (q2i : Nat) (q2m : List Nat) (q2k : Nat) (q2o : List Nat) (q2j : Nat) (q2n : List Nat) (q2z : Nat) (q3c : List Nat) (q3n : Int) (q3p : Nat) (q3o : Nat) : Option (Bool) → Option (AV × List Blk)
  | some r => some ((AV.v (TV.one (At.bool r))), [])
  | none => none
theorem zsv (q0m : Nat) (q0q : List Nat) (q0o : Nat) (q0s : List Nat) (q0n : Nat) (q0r : List Nat) (q0v : Nat) (q0x : List Nat) (q19 : Int) (q26 : Nat) (q27 : Nat) (q2i : Nat) (q2m : List Nat) (q2k : Nat) (q2o : List Nat) (q2j : Nat) (q2n : List Nat) (q2z : Nat) (q3c : List Nat) (q3n : Int) (q3p : Nat) (q3o : Nat) : evFn Γ5 8 8 30 (impTs 0 [.agg [.row 1 q0m (.fl .f32 q0q), .row 1 q0o (.fl .f32 q0s), .row 1 q0n (.fl .f32 q0r), .row 3 q0v (.fl .f32 q0x), .s (.int .i64 q19), .s (.flt .f32 q26), .s (.flt .f32 q27)], .agg [.row 1 q2i (.fl .f32 q2m), .row 1 q2k (.fl .f32 q2o), .row 1 q2j (.fl .f32 q2n), .row 3 q2z (.fl .f32 q3c), .s (.int .i64 q3n), .s (.flt .f32 q3p), .s (.flt .f32 q3o)]]).1 (impTs 0 [.agg [.row 1 q0m (.fl .f32 q0q), .row 1 q0o (.fl .f32 q0s), .row 1 q0n (.fl .f32 q0r), .row 3 q0v (.fl .f32 q0x), .s (.int .i64 q19), .s (.flt .f32 q26), .s (.flt .f32 q27)], .agg [.row 1 q2i (.fl .f32 q2m), .row 1 q2k (.fl .f32 q2o), .row 1 q2j (.fl .f32 q2n), .row 3 q2z (.fl .f32 q3c), .s (.int .i64 q3n), .s (.flt .f32 q3p), .s (.flt .f32 q3o)]]).2 (expo (impTs 0 [.agg [.row 1 q0m (.fl .f32 q0q), .row 1 q0o (.fl .f32 q0s), .row 1 q0n (.fl .f32 q0r), .row 3 q0v (.fl .f32 q0x), .s (.int .i64 q19), .s (.flt .f32 q26), .s (.flt .f32 q27)], .agg [.row 1 q2i (.fl .f32 q2m), .row 1 q2k (.fl .f32 q2o), .row 1 q2j (.fl .f32 q2n), .row 3 q2z (.fl .f32 q3c), .s (.int .i64 q3n), .s (.flt .f32 q3p), .s (.flt .f32 q3o)]]).2.length) = ze2 q0m q0q q0o q0s q0n q0r q0v q0x q19 q26 q27 q2i q2m q2k q2o q2j q2n q2z q3c q3n q3p q3o (fun c0_ => some ((AV.v (TV.one (At.bool c0_))), [])) := by kernel_rfl
theorem z3y : SumOne Try.prog 30 z4g := sum_of (Γ := Γ5) (fuel := 8) (d := 8) tyTab_ok (FnL.ok fnTab_ok _ _) (LpL.ok lt5_ok) (SumL.ok tb5_ok _) mixed (by
  intro pts v news hp hc
  clear hc
  unfold z4g at hp
  split at hp
  · rename_i q0m q0q q0o q0s q0n q0r q0v q0x q19 q26 q27 q2i q2m q2k q2o q2j q2n q2z q3c q3n q3p q3o
    exact Eq.trans (Eq.trans (zsv q0m q0q q0o q0s q0n q0r q0v q0x q19 q26 q27 q2i q2m q2k q2o q2j q2n q2z q3c q3n q3p q3o) (zqv (zoz q0m q0q q0o q0s q0n q0r q0v q0x q19 q26 q27 q2i q2m q2k q2o q2j q2n q2z q3c q3n q3p q3o) rfl q0m q0q q0o q0s q0n q0r q0v q0x q19 q26 q27 q2i q2m q2k q2o q2j q2n q2z q3c q3n q3p q3o (fun c0_ => some c0_))) (fin_out (o := (zoz q0m q0q q0o q0s q0n q0r q0v q0x q19 q26 q27 q2i q2m q2k q2o q2j q2n q2z q3c q3n q3p q3o)) (x := zce q0m q0q q0o q0s q0n q0r q0v q0x q19 q26 q27 q2i q2m q2k q2o q2j q2n q2z q3c q3n q3p q3o) (d := default) (V := fun r => ((AV.v (TV.one (At.bool r))), [])) (fun r => rfl) hp)
  · cases hp)
noncomputable def z0j : List PT → Option (Bool × AV × List Blk)
  | [.one (.row 1 s_n (.fl .f32 s)), .fn 119 []] => some ((z7z s_n s), ((AV.v (TV.one (At.int IntKind.i64 (z7v s_n s)))), []))
  | _ => none
def zdn (s_n : Nat) (s : List Nat) : Option (Int) → Option (AV × List Blk)
  | some r => some ((AV.v (TV.one (At.int IntKind.i64 r))), [])
  | none => none
theorem zl9 (s_n : Nat) (s : List Nat) : evFn Γ5 8 8 99 (impTs 0 [.one (.row 1 s_n (.fl .f32 s)), .fn 119 []]).1 (impTs 0 [.one (.row 1 s_n (.fl .f32 s)), .fn 119 []]).2 (expo (impTs 0 [.one (.row 1 s_n (.fl .f32 s)), .fn 119 []]).2.length) = z61 s_n s (fun c0_ => some ((AV.v (TV.one (At.int IntKind.i64 c0_))), [])) := by kernel_rfl
theorem z0i : SumOne Try.prog 99 z0j := sum_of (Γ := Γ5) (fuel := 8) (d := 8) tyTab_ok (FnL.ok fnTab_ok _ _) (LpL.ok lt5_ok) (SumL.ok tb5_ok _) mixed (by
  intro pts v news hp hc
  clear hc
  unfold z0j at hp
  split at hp
  · rename_i s_n s
    exact Eq.trans (Eq.trans (zl9 s_n s) (zk2 (zdn s_n s) rfl s_n s (fun c0_ => some c0_))) (fin_out (o := (zdn s_n s)) (x := z60 s_n s) (d := default) (V := fun r => ((AV.v (TV.one (At.int IntKind.i64 r))), [])) (fun r => rfl) hp)
  · cases hp)
noncomputable def tb6 : List (Nat × (List PT → Option (Bool × AV × List Blk))) := [(125, z2j), (128, z0y), (134, z1m), (137, z2k), (18, z2s), (44, z2q), (48, z2a), (54, z3i), (61, z2t), (63, z4i), (64, z49), (66, z48), (80, z2b), (97, z3h), (104, z0t), (115, z01), (14, z35), (67, z22), (88, z11), (92, z4b), (103, z3o), (105, z36), (111, z40), (114, z3n), (118, z21), (122, z1e), (37, z45), (52, z2o), (72, z1s), (79, z1v), (93, z3a), (119, z2n), (16, z3j), (36, z2e), (57, z32), (86, z31), (19, z3t), (33, z3r), (39, z4d), (62, z4t), (69, z38), (99, z0f), (99, z0a), (30, z4g), (99, z0j)]
noncomputable def lt6 : List ((Nat × Nat) × (Nat → St → Option (Bool × LO))) := [((52, 3), z1h), ((72, 2), z15), ((79, 2), z14), ((57, 4), z1n), ((86, 3), z1o), ((62, 5), z43), ((69, 4), z1x), ((99, 2), z05), ((99, 2), z03), ((99, 2), z0b)]
noncomputable def Γ6 : Ctx := ⟨tyTab, fnTab, tblSum tb6, tblLp lt6⟩
theorem tb6_ok : SumL Try.prog tb6 := SumL.cons z1k (SumL.cons z0l (SumL.cons z19 (SumL.cons z1l (SumL.cons z1t (SumL.cons z1u (SumL.cons z1i (SumL.cons z29 (SumL.cons z1w (SumL.cons z3u (SumL.cons z3b (SumL.cons z39 (SumL.cons z1j (SumL.cons z28 (SumL.cons z0k (SumL.cons z00 (SumL.cons z24 (SumL.cons z1f (SumL.cons z0q (SumL.cons z3l (SumL.cons z2g (SumL.cons z23 (SumL.cons z33 (SumL.cons z2h (SumL.cons z1g (SumL.cons z12 (SumL.cons z37 (SumL.cons z1z (SumL.cons z1d (SumL.cons z1c (SumL.cons z2c (SumL.cons z1y (SumL.cons z2i (SumL.cons z1p (SumL.cons z26 (SumL.cons z25 (SumL.cons z2u (SumL.cons z2r (SumL.cons z3s (SumL.cons z4c (SumL.cons z2d (SumL.cons z0e (SumL.cons z08 (SumL.cons z3y (SumL.cons z0i (SumL.nil)))))))))))))))))))))))))))))))))))))))))))))
theorem lt6_ok : LpL Try.prog fnTab lt6 := LpL.cons z13 (LpL.cons z0s (LpL.cons z0r (LpL.cons z18 (LpL.cons z17 (LpL.cons z34 (LpL.cons z1b (LpL.cons z04 (LpL.cons z02 (LpL.cons z09 (LpL.nil))))))))))
noncomputable def z0d : List PT → Option (Bool × AV × List Blk)
  | [.one (.row 1 s_n (.fl .f32 s)), .fn 118 []] => some ((z7e s_n s), ((AV.v (TV.one (At.bool (z77 s_n s)))), []))
  | _ => none
def zcc (s_n : Nat) (s : List Nat) : Option (Bool) → Option (AV × List Blk)
  | some r => some ((AV.v (TV.one (At.bool r))), [])
  | none => none
theorem zk7 (s_n : Nat) (s : List Nat) : evFn Γ6 8 8 117 (impTs 0 [.one (.row 1 s_n (.fl .f32 s)), .fn 118 []]).1 (impTs 0 [.one (.row 1 s_n (.fl .f32 s)), .fn 118 []]).2 (expo (impTs 0 [.one (.row 1 s_n (.fl .f32 s)), .fn 118 []]).2.length) = z5i s_n s (fun c0_ => some ((AV.v (TV.one (At.bool c0_))), [])) := by kernel_rfl
theorem z0c : SumOne Try.prog 117 z0d := sum_of (Γ := Γ6) (fuel := 8) (d := 8) tyTab_ok (FnL.ok fnTab_ok _ _) (LpL.ok lt6_ok) (SumL.ok tb6_ok _) mixed (by
  intro pts v news hp hc
  clear hc
  unfold z0d at hp
  split at hp
  · rename_i s_n s
    exact Eq.trans (Eq.trans (zk7 s_n s) (zg6 (zcc s_n s) rfl s_n s (fun c0_ => some c0_))) (fin_out (o := (zcc s_n s)) (x := z5j s_n s) (d := default) (V := fun r => ((AV.v (TV.one (At.bool r))), [])) (fun r => rfl) hp)
  · cases hp)
noncomputable def z0h : List PT → Option (Bool × AV × List Blk)
  | [.one (.row 1 s_n (.fl .f32 s)), .fn 119 []] => some ((z7k s_n s), ((AV.v (TV.one (At.bool (z7b s_n s)))), []))
  | _ => none
def zck (s_n : Nat) (s : List Nat) : Option (Bool) → Option (AV × List Blk)
  | some r => some ((AV.v (TV.one (At.bool r))), [])
  | none => none
theorem zke (s_n : Nat) (s : List Nat) : evFn Γ6 8 8 117 (impTs 0 [.one (.row 1 s_n (.fl .f32 s)), .fn 119 []]).1 (impTs 0 [.one (.row 1 s_n (.fl .f32 s)), .fn 119 []]).2 (expo (impTs 0 [.one (.row 1 s_n (.fl .f32 s)), .fn 119 []]).2.length) = z5p s_n s (fun c0_ => some ((AV.v (TV.one (At.bool c0_))), [])) := by kernel_rfl
theorem z0g : SumOne Try.prog 117 z0h := sum_of (Γ := Γ6) (fuel := 8) (d := 8) tyTab_ok (FnL.ok fnTab_ok _ _) (LpL.ok lt6_ok) (SumL.ok tb6_ok _) mixed (by
  intro pts v news hp hc
  clear hc
  unfold z0h at hp
  split at hp
  · rename_i s_n s
    exact Eq.trans (Eq.trans (zke s_n s) (zhv (zck s_n s) rfl s_n s (fun c0_ => some c0_))) (fin_out (o := (zck s_n s)) (x := z5s s_n s) (d := default) (V := fun r => ((AV.v (TV.one (At.bool r))), [])) (fun r => rfl) hp)
  · cases hp)
noncomputable def z07 : List PT → Option (Bool × AV × List Blk)
  | [.one (.row 1 s_n (.fl .f32 s)), .fn 122 []] => some ((z6p s_n s), ((AV.v (TV.one (At.bool (z6n s_n s)))), []))
  | _ => none
def zb2 (s_n : Nat) (s : List Nat) : Option (Bool) → Option (AV × List Blk)
  | some r => some ((AV.v (TV.one (At.bool r))), [])
  | none => none
theorem zig (s_n : Nat) (s : List Nat) : evFn Γ6 8 8 117 (impTs 0 [.one (.row 1 s_n (.fl .f32 s)), .fn 122 []]).1 (impTs 0 [.one (.row 1 s_n (.fl .f32 s)), .fn 122 []]).2 (expo (impTs 0 [.one (.row 1 s_n (.fl .f32 s)), .fn 122 []]).2.length) = z5b s_n s (fun c0_ => some ((AV.v (TV.one (At.bool c0_))), [])) := by kernel_rfl
theorem z06 : SumOne Try.prog 117 z07 := sum_of (Γ := Γ6) (fuel := 8) (d := 8) tyTab_ok (FnL.ok fnTab_ok _ _) (LpL.ok lt6_ok) (SumL.ok tb6_ok _) mixed (by
  intro pts v news hp hc
  clear hc
  unfold z07 at hp
  split at hp
  · rename_i s_n s
    exact Eq.trans (Eq.trans (zig s_n s) (zfa (zb2 s_n s) rfl s_n s (fun c0_ => some c0_))) (fin_out (o := (zb2 s_n s)) (x := z5c s_n s) (d := default) (V := fun r => ((AV.v (TV.one (At.bool r))), [])) (fun r => rfl) hp)
  · cases hp)
noncomputable def zn3 (t4 : Nat) (t57 : Int) (t58 : Int) (b0 : List Nat) (b1 : List Nat) (b2 : List Nat) (b3 : List Nat) (q1e : Nat) (q1f : Nat) (q1d : Nat) (q13 : Nat) (q1v : Int) (q1u : Nat) (q14 : Nat) : Bool × LO := ((zcp t57 b3 q13 q14 t4 t58), (LO.two (zc0 t57 b3 q13 q14 t4 t58) (LO.one Ex.ret (St.mk [(2, (AV.v (TV.one (At.bool Bool.false))))] [(Blk.mk Bool.false (Body.fl FloatKind.f32 b0)), (Blk.mk Bool.false (Body.fl FloatKind.f32 b1)), (Blk.mk Bool.false (Body.fl FloatKind.f32 b2)), (Blk.mk Bool.false (Body.fl FloatKind.f32 b3)), (Blk.mk Bool.false (Body.cells [(At.vw 0 0 q1e 1), (At.vw 1 0 q1f 1), (At.vw 2 0 q1d 1), (At.vw 3 0 q13 3), (At.int IntKind.i64 q1v), (At.flt FloatKind.f32 q1u), (At.flt FloatKind.f32 q14)]))])) (LO.one (Ex.exit 0) (St.mk [(0, (AV.v (TV.one (At.ptr 4 0 7)))), (4, (AV.v (TV.one (At.flt FloatKind.f32 (zlj t57 b3 q13 q14 t4 t58))))), (57, (AV.v (TV.one (At.int IntKind.i64 t57)))), (58, (AV.v (TV.one (At.int IntKind.i64 (zlk t57 b3 q13 q14 t4 t58))))), (59, (AV.v (TV.one (At.bool (zln t57 b3 q13 q14 t4 t58)))))] [(Blk.mk Bool.false (Body.fl FloatKind.f32 b0)), (Blk.mk Bool.false (Body.fl FloatKind.f32 b1)), (Blk.mk Bool.false (Body.fl FloatKind.f32 b2)), (Blk.mk Bool.false (Body.fl FloatKind.f32 b3)), (Blk.mk Bool.false (Body.cells [(At.vw 0 0 q1e 1), (At.vw 1 0 q1f 1), (At.vw 2 0 q1d 1), (At.vw 3 0 q13 3), (At.int IntKind.i64 q1v), (At.flt FloatKind.f32 q1u), (At.flt FloatKind.f32 q14)]))]))))
noncomputable def z4e : Nat → St → Option (Bool × LO) := lpT 5 (pSt [(pTm 0 (pV (pOne (pPtr 4 (liN 0) 7)))), (pTm 4 (pV (pOne (pFlt FloatKind.f32)))), (pTm 57 (pV (pOne (pInt IntKind.i64)))), (pTm 58 (pV (pOne (pInt IntKind.i64))))] [(pBlk Bool.false (pFl FloatKind.f32)), (pBlk Bool.false (pFl FloatKind.f32)), (pBlk Bool.false (pFl FloatKind.f32)), (pBlk Bool.false (pFl FloatKind.f32)), (pBlk Bool.false (pCells [(pVw 0 (liN 0) 1), (pVw 1 (liN 0) 1), (pVw 2 (liN 0) 1), (pVw 3 (liN 0) 3), (pInt IntKind.i64), (pFlt FloatKind.f32), (pFlt FloatKind.f32)]))]) (fun hs => zn3 (hvN (hGet hs 0)) (hvI (hGet hs 1)) (hvI (hGet hs 2)) (hvLn (hGet hs 3)) (hvLn (hGet hs 4)) (hvLn (hGet hs 5)) (hvLn (hGet hs 6)) (hvN (hGet hs 7)) (hvN (hGet hs 8)) (hvN (hGet hs 9)) (hvN (hGet hs 10)) (hvI (hGet hs 11)) (hvN (hGet hs 12)) (hvN (hGet hs 13)))
def zgz (t57 : Int) (b0 : List Nat) (b1 : List Nat) (b2 : List Nat) (b3 : List Nat) (q1e : Nat) (q1f : Nat) (q1d : Nat) (q13 : Nat) (q1v : Int) (q1u : Nat) (q14 : Nat) : Option ((Unit) ⊕ (Nat × Int × Bool)) → Option (Ex × St)
  | none => none
  | some (Sum.inl r) => some (Ex.ret, (St.mk [(2, (AV.v (TV.one (At.bool Bool.false))))] [(Blk.mk Bool.false (Body.fl FloatKind.f32 b0)), (Blk.mk Bool.false (Body.fl FloatKind.f32 b1)), (Blk.mk Bool.false (Body.fl FloatKind.f32 b2)), (Blk.mk Bool.false (Body.fl FloatKind.f32 b3)), (Blk.mk Bool.false (Body.cells [(At.vw 0 0 q1e 1), (At.vw 1 0 q1f 1), (At.vw 2 0 q1d 1), (At.vw 3 0 q13 3), (At.int IntKind.i64 q1v), (At.flt FloatKind.f32 q1u), (At.flt FloatKind.f32 q14)]))]))
  | some (Sum.inr r) => some ((Ex.exit 0), (St.mk [(0, (AV.v (TV.one (At.ptr 4 0 7)))), (4, (AV.v (TV.one (At.flt FloatKind.f32 r.1)))), (57, (AV.v (TV.one (At.int IntKind.i64 t57)))), (58, (AV.v (TV.one (At.int IntKind.i64 r.2.1)))), (59, (AV.v (TV.one (At.bool r.2.2))))] [(Blk.mk Bool.false (Body.fl FloatKind.f32 b0)), (Blk.mk Bool.false (Body.fl FloatKind.f32 b1)), (Blk.mk Bool.false (Body.fl FloatKind.f32 b2)), (Blk.mk Bool.false (Body.fl FloatKind.f32 b3)), (Blk.mk Bool.false (Body.cells [(At.vw 0 0 q1e 1), (At.vw 1 0 q1f 1), (At.vw 2 0 q1d 1), (At.vw 3 0 q13 3), (At.int IntKind.i64 q1v), (At.flt FloatKind.f32 q1u), (At.flt FloatKind.f32 q14)]))]))
def zse (t57 : Int) (b0 : List Nat) (b1 : List Nat) (b2 : List Nat) (b3 : List Nat) (q1e : Nat) (q1f : Nat) (q1d : Nat) (q13 : Nat) (q1v : Int) (q1u : Nat) (q14 : Nat) (x : Option ((Unit) ⊕ (Nat × Int × Bool))) : LO := (LO.two (oL x) (LO.one Ex.ret (St.mk [(2, (AV.v (TV.one (At.bool Bool.false))))] [(Blk.mk Bool.false (Body.fl FloatKind.f32 b0)), (Blk.mk Bool.false (Body.fl FloatKind.f32 b1)), (Blk.mk Bool.false (Body.fl FloatKind.f32 b2)), (Blk.mk Bool.false (Body.fl FloatKind.f32 b3)), (Blk.mk Bool.false (Body.cells [(At.vw 0 0 q1e 1), (At.vw 1 0 q1f 1), (At.vw 2 0 q1d 1), (At.vw 3 0 q13 3), (At.int IntKind.i64 q1v), (At.flt FloatKind.f32 q1u), (At.flt FloatKind.f32 q14)]))])) (LO.one (Ex.exit 0) (St.mk [(0, (AV.v (TV.one (At.ptr 4 0 7)))), (4, (AV.v (TV.one (At.flt FloatKind.f32 ((tR x).getD default).1)))), (57, (AV.v (TV.one (At.int IntKind.i64 t57)))), (58, (AV.v (TV.one (At.int IntKind.i64 ((tR x).getD default).2.1)))), (59, (AV.v (TV.one (At.bool ((tR x).getD default).2.2))))] [(Blk.mk Bool.false (Body.fl FloatKind.f32 b0)), (Blk.mk Bool.false (Body.fl FloatKind.f32 b1)), (Blk.mk Bool.false (Body.fl FloatKind.f32 b2)), (Blk.mk Bool.false (Body.fl FloatKind.f32 b3)), (Blk.mk Bool.false (Body.cells [(At.vw 0 0 q1e 1), (At.vw 1 0 q1f 1), (At.vw 2 0 q1d 1), (At.vw 3 0 q13 3), (At.int IntKind.i64 q1v), (At.flt FloatKind.f32 q1u), (At.flt FloatKind.f32 q14)]))])))
theorem zsp (t57 : Int) (b0 : List Nat) (b1 : List Nat) (b2 : List Nat) (b3 : List Nat) (q1e : Nat) (q1f : Nat) (q1d : Nat) (q13 : Nat) (q1v : Int) (q1u : Nat) (q14 : Nat) : ∀ x : Option ((Unit) ⊕ (Nat × Int × Bool)), x.isSome = true → (zgz t57 b0 b1 b2 b3 q1e q1f q1d q13 q1v q1u q14) x = some (pick (zse t57 b0 b1 b2 b3 q1e q1f q1d q13 q1v q1u q14 x))
  | none, h => by cases h
  | some (Sum.inl r), _ => rfl
  | some (Sum.inr r), _ => rfl
theorem zss (t4 : Nat) (t57 : Int) (t58 : Int) (b0 : List Nat) (b1 : List Nat) (b2 : List Nat) (b3 : List Nat) (q1e : Nat) (q1f : Nat) (q1d : Nat) (q13 : Nat) (q1v : Int) (q1u : Nat) (q14 : Nat) (K : Ex → St → Option (Ex × St)) : evC (R := Ex × St) Γ6 (evFn Γ6 8 8) 91 5 fi91.nt fi91.live fi91.nl 8 (findL 6 (loopsIn fi91.code)) (St.mk [(0, (AV.v (TV.one (At.ptr 4 0 7)))), (4, (AV.v (TV.one (At.flt FloatKind.f32 t4)))), (57, (AV.v (TV.one (At.int IntKind.i64 t57)))), (58, (AV.v (TV.one (At.int IntKind.i64 t58))))] [(Blk.mk Bool.false (Body.fl FloatKind.f32 b0)), (Blk.mk Bool.false (Body.fl FloatKind.f32 b1)), (Blk.mk Bool.false (Body.fl FloatKind.f32 b2)), (Blk.mk Bool.false (Body.fl FloatKind.f32 b3)), (Blk.mk Bool.false (Body.cells [(At.vw 0 0 q1e 1), (At.vw 1 0 q1f 1), (At.vw 2 0 q1d 1), (At.vw 3 0 q13 3), (At.int IntKind.i64 q1v), (At.flt FloatKind.f32 q1u), (At.flt FloatKind.f32 q14)]))]) K = za2 t57 b3 q13 q14 t4 t58 (fun t4' t58' => K .normal (St.mk [(0, (AV.v (TV.one (At.ptr 4 0 7)))), (4, (AV.v (TV.one (At.flt FloatKind.f32 t4')))), (57, (AV.v (TV.one (At.int IntKind.i64 t57)))), (58, (AV.v (TV.one (At.int IntKind.i64 t58'))))] [(Blk.mk Bool.false (Body.fl FloatKind.f32 b0)), (Blk.mk Bool.false (Body.fl FloatKind.f32 b1)), (Blk.mk Bool.false (Body.fl FloatKind.f32 b2)), (Blk.mk Bool.false (Body.fl FloatKind.f32 b3)), (Blk.mk Bool.false (Body.cells [(At.vw 0 0 q1e 1), (At.vw 1 0 q1f 1), (At.vw 2 0 q1d 1), (At.vw 3 0 q13 3), (At.int IntKind.i64 q1v), (At.flt FloatKind.f32 q1u), (At.flt FloatKind.f32 q14)]))])) (fun _ => K Ex.ret (St.mk [(2, (AV.v (TV.one (At.bool Bool.false))))] [(Blk.mk Bool.false (Body.fl FloatKind.f32 b0)), (Blk.mk Bool.false (Body.fl FloatKind.f32 b1)), (Blk.mk Bool.false (Body.fl FloatKind.f32 b2)), (Blk.mk Bool.false (Body.fl FloatKind.f32 b3)), (Blk.mk Bool.false (Body.cells [(At.vw 0 0 q1e 1), (At.vw 1 0 q1f 1), (At.vw 2 0 q1d 1), (At.vw 3 0 q13 3), (At.int IntKind.i64 q1v), (At.flt FloatKind.f32 q1u), (At.flt FloatKind.f32 q14)]))])) (fun c0_ c1_ c2_ => K (Ex.exit 0) (St.mk [(0, (AV.v (TV.one (At.ptr 4 0 7)))), (4, (AV.v (TV.one (At.flt FloatKind.f32 c0_)))), (57, (AV.v (TV.one (At.int IntKind.i64 t57)))), (58, (AV.v (TV.one (At.int IntKind.i64 c1_)))), (59, (AV.v (TV.one (At.bool c2_))))] [(Blk.mk Bool.false (Body.fl FloatKind.f32 b0)), (Blk.mk Bool.false (Body.fl FloatKind.f32 b1)), (Blk.mk Bool.false (Body.fl FloatKind.f32 b2)), (Blk.mk Bool.false (Body.fl FloatKind.f32 b3)), (Blk.mk Bool.false (Body.cells [(At.vw 0 0 q1e 1), (At.vw 1 0 q1f 1), (At.vw 2 0 q1d 1), (At.vw 3 0 q13 3), (At.int IntKind.i64 q1v), (At.flt FloatKind.f32 q1u), (At.flt FloatKind.f32 q14)]))])) := by kernel_rfl
theorem zso (t57 : Int) (b0 : List Nat) (b1 : List Nat) (b2 : List Nat) (b3 : List Nat) (q1e : Nat) (q1f : Nat) (q1d : Nat) (q13 : Nat) (q1v : Int) (q1u : Nat) (q14 : Nat) : ∀ (n : Nat) (t4 : Nat) (t58 : Int), iter 91 6 5 (evC (R := Ex × St) Γ6 (evFn Γ6 8 8) 91 5 fi91.nt fi91.live fi91.nl 8 (findL 6 (loopsIn fi91.code))) n (St.mk [(0, (AV.v (TV.one (At.ptr 4 0 7)))), (4, (AV.v (TV.one (At.flt FloatKind.f32 t4)))), (57, (AV.v (TV.one (At.int IntKind.i64 t57)))), (58, (AV.v (TV.one (At.int IntKind.i64 t58))))] [(Blk.mk Bool.false (Body.fl FloatKind.f32 b0)), (Blk.mk Bool.false (Body.fl FloatKind.f32 b1)), (Blk.mk Bool.false (Body.fl FloatKind.f32 b2)), (Blk.mk Bool.false (Body.fl FloatKind.f32 b3)), (Blk.mk Bool.false (Body.cells [(At.vw 0 0 q1e 1), (At.vw 1 0 q1f 1), (At.vw 2 0 q1d 1), (At.vw 3 0 q13 3), (At.int IntKind.i64 q1v), (At.flt FloatKind.f32 q1u), (At.flt FloatKind.f32 q14)]))]) (fun e st => some (e, st)) = (zgz t57 b0 b1 b2 b3 q1e q1f q1d q13 q1v q1u q14) (z5z t57 b3 q13 q14 n t4 t58) := by
  intro n
  induction n with
  | zero => intros; rfl
  | succ n ih =>
    intro t4 t58
    refine Eq.trans (iter_succ ..) (Eq.trans (zss t4 t57 t58 b0 b1 b2 b3 q1e q1f q1d q13 q1v q1u q14 (nextK 91 6 5 (evC (R := Ex × St) Γ6 (evFn Γ6 8 8) 91 5 fi91.nt fi91.live fi91.nl 8 (findL 6 (loopsIn fi91.code))) n (fun e st => some (e, st)))) (Eq.trans ?_ (zqk (zgz t57 b0 b1 b2 b3 q1e q1f q1d q13 q1v q1u q14) rfl t57 b3 q13 q14 t4 t58 (fun t4' t58' => z5z t57 b3 q13 q14 n t4' t58') (fun _ => some (Sum.inl ())) (fun c0_ c1_ c2_ => some (Sum.inr (c0_, c1_, c2_))))))
    exact congrArg (fun kn_ => za2 t57 b3 q13 q14 t4 t58 kn_ (fun _ => (zgz t57 b0 b1 b2 b3 q1e q1f q1d q13 q1v q1u q14) (some (Sum.inl ()))) (fun c0_ c1_ c2_ => (zgz t57 b0 b1 b2 b3 q1e q1f q1d q13 q1v q1u q14) (some (Sum.inr (c0_, c1_, c2_))))) (funext fun t4' => funext fun t58' => ih t4' t58')
theorem z3v : LoopOne Try.prog fnTab 91 6 z4e := lp_of (Γ := Γ6) tyTab_ok (FnL.ok fnTab_ok _ _) (LpL.ok lt6_ok) (SumL.ok tb6_ok _) mixed (fi := fi91) (by kernel_rfl) (by kernel_rfl) (by
  intro lo st out hp
  obtain ⟨hs, e1, e2, e3⟩ := lpT_inv hp
  clear hp
  obtain rfl : st = (St.mk [(0, (AV.v (TV.one (At.ptr 4 0 7)))), (4, (AV.v (TV.one (At.flt FloatKind.f32 (hvN (hGet hs 0)))))), (57, (AV.v (TV.one (At.int IntKind.i64 (hvI (hGet hs 1)))))), (58, (AV.v (TV.one (At.int IntKind.i64 (hvI (hGet hs 2))))))] [(Blk.mk Bool.false (Body.fl FloatKind.f32 (hvLn (hGet hs 3)))), (Blk.mk Bool.false (Body.fl FloatKind.f32 (hvLn (hGet hs 4)))), (Blk.mk Bool.false (Body.fl FloatKind.f32 (hvLn (hGet hs 5)))), (Blk.mk Bool.false (Body.fl FloatKind.f32 (hvLn (hGet hs 6)))), (Blk.mk Bool.false (Body.cells [(At.vw 0 0 (hvN (hGet hs 7)) 1), (At.vw 1 0 (hvN (hGet hs 8)) 1), (At.vw 2 0 (hvN (hGet hs 9)) 1), (At.vw 3 0 (hvN (hGet hs 10)) 3), (At.int IntKind.i64 (hvI (hGet hs 11))), (At.flt FloatKind.f32 (hvN (hGet hs 12))), (At.flt FloatKind.f32 (hvN (hGet hs 13)))]))]) := e2.trans (by kernel_rfl)
  clear e2
  subst e1
  unfold zn3 at e3
  injection e3 with h1 h2
  subst h2
  exact ⟨8, 8, big, Eq.trans (zso (hvI (hGet hs 1)) (hvLn (hGet hs 3)) (hvLn (hGet hs 4)) (hvLn (hGet hs 5)) (hvLn (hGet hs 6)) (hvN (hGet hs 7)) (hvN (hGet hs 8)) (hvN (hGet hs 9)) (hvN (hGet hs 10)) (hvI (hGet hs 11)) (hvN (hGet hs 12)) (hvN (hGet hs 13)) big (hvN (hGet hs 0)) (hvI (hGet hs 2))) (zsp (hvI (hGet hs 1)) (hvLn (hGet hs 3)) (hvLn (hGet hs 4)) (hvLn (hGet hs 5)) (hvLn (hGet hs 6)) (hvN (hGet hs 7)) (hvN (hGet hs 8)) (hvN (hGet hs 9)) (hvN (hGet hs 10)) (hvI (hGet hs 11)) (hvN (hGet hs 12)) (hvN (hGet hs 13)) (z5z (hvI (hGet hs 1)) (hvLn (hGet hs 6)) (hvN (hGet hs 10)) (hvN (hGet hs 13)) big (hvN (hGet hs 0)) (hvI (hGet hs 2))) h1)⟩)
noncomputable def tb7 : List (Nat × (List PT → Option (Bool × AV × List Blk))) := [(125, z2j), (128, z0y), (134, z1m), (137, z2k), (18, z2s), (44, z2q), (48, z2a), (54, z3i), (61, z2t), (63, z4i), (64, z49), (66, z48), (80, z2b), (97, z3h), (104, z0t), (115, z01), (14, z35), (67, z22), (88, z11), (92, z4b), (103, z3o), (105, z36), (111, z40), (114, z3n), (118, z21), (122, z1e), (37, z45), (52, z2o), (72, z1s), (79, z1v), (93, z3a), (119, z2n), (16, z3j), (36, z2e), (57, z32), (86, z31), (19, z3t), (33, z3r), (39, z4d), (62, z4t), (69, z38), (99, z0f), (99, z0a), (30, z4g), (99, z0j), (117, z0d), (117, z0h), (117, z07)]
noncomputable def lt7 : List ((Nat × Nat) × (Nat → St → Option (Bool × LO))) := [((52, 3), z1h), ((72, 2), z15), ((79, 2), z14), ((57, 4), z1n), ((86, 3), z1o), ((62, 5), z43), ((69, 4), z1x), ((99, 2), z05), ((99, 2), z03), ((99, 2), z0b), ((91, 6), z4e)]
noncomputable def Γ7 : Ctx := ⟨tyTab, fnTab, tblSum tb7, tblLp lt7⟩
theorem tb7_ok : SumL Try.prog tb7 := SumL.cons z1k (SumL.cons z0l (SumL.cons z19 (SumL.cons z1l (SumL.cons z1t (SumL.cons z1u (SumL.cons z1i (SumL.cons z29 (SumL.cons z1w (SumL.cons z3u (SumL.cons z3b (SumL.cons z39 (SumL.cons z1j (SumL.cons z28 (SumL.cons z0k (SumL.cons z00 (SumL.cons z24 (SumL.cons z1f (SumL.cons z0q (SumL.cons z3l (SumL.cons z2g (SumL.cons z23 (SumL.cons z33 (SumL.cons z2h (SumL.cons z1g (SumL.cons z12 (SumL.cons z37 (SumL.cons z1z (SumL.cons z1d (SumL.cons z1c (SumL.cons z2c (SumL.cons z1y (SumL.cons z2i (SumL.cons z1p (SumL.cons z26 (SumL.cons z25 (SumL.cons z2u (SumL.cons z2r (SumL.cons z3s (SumL.cons z4c (SumL.cons z2d (SumL.cons z0e (SumL.cons z08 (SumL.cons z3y (SumL.cons z0i (SumL.cons z0c (SumL.cons z0g (SumL.cons z06 (SumL.nil))))))))))))))))))))))))))))))))))))))))))))))))
theorem lt7_ok : LpL Try.prog fnTab lt7 := LpL.cons z13 (LpL.cons z0s (LpL.cons z0r (LpL.cons z18 (LpL.cons z17 (LpL.cons z34 (LpL.cons z1b (LpL.cons z04 (LpL.cons z02 (LpL.cons z09 (LpL.cons z3v (LpL.nil)))))))))))
noncomputable def z4x : List PT → Option (Bool × AV × List Blk)
  | [.ptr [.row 1 q00 (.fl .f32 q03), .row 1 q02 (.fl .f32 q04), .row 1 q01 (.fl .f32 q05), .row 3 q06 (.fl .f32 q07), .s (.int .i64 q0b), .s (.flt .f32 q0c), .s (.flt .f32 q0d)]] => some ((zls q00 q03 q02 q04 q01 q05 q06 q07 q0b q0c q0d), ((AV.v (TV.one (At.bool (zl5 q00 q03 q02 q04 q01 q05 q06 q07 q0b q0c q0d)))), []))
  | _ => none
def zr7 (q00 : Nat) (q03 : List Nat) (q02 : Nat) (q04 : List Nat) (q01 : Nat) (q05 : List Nat) (q06 : Nat) (q07 : List Nat) (q0b : Int) (q0c : Nat) (q0d : Nat) : Option (Bool) → Option (AV × List Blk)
  | some r => some ((AV.v (TV.one (At.bool r))), [])
  | none => none
theorem zt3 (q00 : Nat) (q03 : List Nat) (q02 : Nat) (q04 : List Nat) (q01 : Nat) (q05 : List Nat) (q06 : Nat) (q07 : List Nat) (q0b : Int) (q0c : Nat) (q0d : Nat) : evFn Γ7 8 8 91 (impTs 0 [.ptr [.row 1 q00 (.fl .f32 q03), .row 1 q02 (.fl .f32 q04), .row 1 q01 (.fl .f32 q05), .row 3 q06 (.fl .f32 q07), .s (.int .i64 q0b), .s (.flt .f32 q0c), .s (.flt .f32 q0d)]]).1 (impTs 0 [.ptr [.row 1 q00 (.fl .f32 q03), .row 1 q02 (.fl .f32 q04), .row 1 q01 (.fl .f32 q05), .row 3 q06 (.fl .f32 q07), .s (.int .i64 q0b), .s (.flt .f32 q0c), .s (.flt .f32 q0d)]]).2 (expo (impTs 0 [.ptr [.row 1 q00 (.fl .f32 q03), .row 1 q02 (.fl .f32 q04), .row 1 q01 (.fl .f32 q05), .row 3 q06 (.fl .f32 q07), .s (.int .i64 q0b), .s (.flt .f32 q0c), .s (.flt .f32 q0d)]]).2.length) = zk6 q00 q03 q02 q04 q01 q05 q06 q07 q0b q0c q0d (fun c0_ => some ((AV.v (TV.one (At.bool c0_))), [])) := by kernel_rfl
theorem z4k : SumOne Try.prog 91 z4x := sum_of (Γ := Γ7) (fuel := 8) (d := 8) tyTab_ok (FnL.ok fnTab_ok _ _) (LpL.ok lt7_ok) (SumL.ok tb7_ok _) mixed (by
  intro pts v news hp hc
  clear hc
  unfold z4x at hp
  split at hp
  · rename_i q00 q03 q02 q04 q01 q05 q06 q07 q0b q0c q0d
    exact Eq.trans (Eq.trans (zt3 q00 q03 q02 q04 q01 q05 q06 q07 q0b q0c q0d) (zs0 (zr7 q00 q03 q02 q04 q01 q05 q06 q07 q0b q0c q0d) rfl q00 q03 q02 q04 q01 q05 q06 q07 q0b q0c q0d (fun c0_ => some c0_))) (fin_out (o := (zr7 q00 q03 q02 q04 q01 q05 q06 q07 q0b q0c q0d)) (x := zk0 q00 q03 q02 q04 q01 q05 q06 q07 q0b q0c q0d) (d := default) (V := fun r => ((AV.v (TV.one (At.bool r))), [])) (fun r => rfl) hp)
  · cases hp)
noncomputable def z47 : List PT → Option (Bool × AV × List Blk)
  | [.one (.row 1 q2h (.fl .f32 q33))] => some ((zkx q2h q33), ((AV.v (TV.one (At.bool (zjg q2h q33)))), []))
  | _ => none
def znc (q2h : Nat) (q33 : List Nat) : Option (Bool) → Option (AV × List Blk)
  | some r => some ((AV.v (TV.one (At.bool r))), [])
  | none => none
theorem zs9 (q2h : Nat) (q33 : List Nat) : evFn Γ7 8 8 95 (impTs 0 [.one (.row 1 q2h (.fl .f32 q33))]).1 (impTs 0 [.one (.row 1 q2h (.fl .f32 q33))]).2 (expo (impTs 0 [.one (.row 1 q2h (.fl .f32 q33))]).2.length) = zdr q2h q33 (fun c0_ => some ((AV.v (TV.one (At.bool c0_))), [])) := by kernel_rfl
theorem z3q : SumOne Try.prog 95 z47 := sum_of (Γ := Γ7) (fuel := 8) (d := 8) tyTab_ok (FnL.ok fnTab_ok _ _) (LpL.ok lt7_ok) (SumL.ok tb7_ok _) mixed (by
  intro pts v news hp hc
  clear hc
  unfold z47 at hp
  split at hp
  · rename_i q2h q33
    exact Eq.trans (Eq.trans (zs9 q2h q33) (zpi (znc q2h q33) rfl q2h q33 (fun c0_ => some c0_))) (fin_out (o := (znc q2h q33)) (x := zdv q2h q33) (d := default) (V := fun r => ((AV.v (TV.one (At.bool r))), [])) (fun r => rfl) hp)
  · cases hp)
noncomputable def z4f : List PT → Option (Bool × AV × List Blk)
  | [.one (.row 1 q2h (.fl .f32 q33))] => some ((zld q2h q33), ((AV.v (TV.one (At.bool (zkt q2h q33)))), []))
  | _ => none
def zo8 (q2h : Nat) (q33 : List Nat) : Option (Bool) → Option (AV × List Blk)
  | some r => some ((AV.v (TV.one (At.bool r))), [])
  | none => none
theorem zsh (q2h : Nat) (q33 : List Nat) : evFn Γ7 8 8 96 (impTs 0 [.one (.row 1 q2h (.fl .f32 q33))]).1 (impTs 0 [.one (.row 1 q2h (.fl .f32 q33))]).2 (expo (impTs 0 [.one (.row 1 q2h (.fl .f32 q33))]).2.length) = zek q2h q33 (fun c0_ => some ((AV.v (TV.one (At.bool c0_))), [])) := by kernel_rfl
theorem z3z : SumOne Try.prog 96 z4f := sum_of (Γ := Γ7) (fuel := 8) (d := 8) tyTab_ok (FnL.ok fnTab_ok _ _) (LpL.ok lt7_ok) (SumL.ok tb7_ok _) mixed (by
  intro pts v news hp hc
  clear hc
  unfold z4f at hp
  split at hp
  · rename_i q2h q33
    exact Eq.trans (Eq.trans (zsh q2h q33) (zqp (zo8 q2h q33) rfl q2h q33 (fun c0_ => some c0_))) (fin_out (o := (zo8 q2h q33)) (x := zej q2h q33) (d := default) (V := fun r => ((AV.v (TV.one (At.bool r))), [])) (fun r => rfl) hp)
  · cases hp)
noncomputable def z3m : List PT → Option (Bool × AV × List Blk)
  | [.one (.row 1 q2h (.fl .f32 q33))] => some ((ze7 q2h q33), ((AV.v (TV.one (At.bool (zdm q2h q33)))), []))
  | _ => none
def zmj (q2h : Nat) (q33 : List Nat) : Option (Bool) → Option (AV × List Blk)
  | some r => some ((AV.v (TV.one (At.bool r))), [])
  | none => none
theorem zr4 (q2h : Nat) (q33 : List Nat) : evFn Γ7 8 8 112 (impTs 0 [.one (.row 1 q2h (.fl .f32 q33))]).1 (impTs 0 [.one (.row 1 q2h (.fl .f32 q33))]).2 (expo (impTs 0 [.one (.row 1 q2h (.fl .f32 q33))]).2.length) = zcb q2h q33 (fun c0_ => some ((AV.v (TV.one (At.bool c0_))), [])) := by kernel_rfl
theorem z2p : SumOne Try.prog 112 z3m := sum_of (Γ := Γ7) (fuel := 8) (d := 8) tyTab_ok (FnL.ok fnTab_ok _ _) (LpL.ok lt7_ok) (SumL.ok tb7_ok _) mixed (by
  intro pts v news hp hc
  clear hc
  unfold z3m at hp
  split at hp
  · rename_i q2h q33
    exact Eq.trans (Eq.trans (zr4 q2h q33) (zor (zmj q2h q33) rfl q2h q33 (fun c0_ => some c0_))) (fin_out (o := (zmj q2h q33)) (x := za5 q2h q33) (d := default) (V := fun r => ((AV.v (TV.one (At.bool r))), [])) (fun r => rfl) hp)
  · cases hp)
noncomputable def tb8 : List (Nat × (List PT → Option (Bool × AV × List Blk))) := [(125, z2j), (128, z0y), (134, z1m), (137, z2k), (18, z2s), (44, z2q), (48, z2a), (54, z3i), (61, z2t), (63, z4i), (64, z49), (66, z48), (80, z2b), (97, z3h), (104, z0t), (115, z01), (14, z35), (67, z22), (88, z11), (92, z4b), (103, z3o), (105, z36), (111, z40), (114, z3n), (118, z21), (122, z1e), (37, z45), (52, z2o), (72, z1s), (79, z1v), (93, z3a), (119, z2n), (16, z3j), (36, z2e), (57, z32), (86, z31), (19, z3t), (33, z3r), (39, z4d), (62, z4t), (69, z38), (99, z0f), (99, z0a), (30, z4g), (99, z0j), (117, z0d), (117, z0h), (117, z07), (91, z4x), (95, z47), (96, z4f), (112, z3m)]
noncomputable def lt8 : List ((Nat × Nat) × (Nat → St → Option (Bool × LO))) := [((52, 3), z1h), ((72, 2), z15), ((79, 2), z14), ((57, 4), z1n), ((86, 3), z1o), ((62, 5), z43), ((69, 4), z1x), ((99, 2), z05), ((99, 2), z03), ((99, 2), z0b), ((91, 6), z4e)]
noncomputable def Γ8 : Ctx := ⟨tyTab, fnTab, tblSum tb8, tblLp lt8⟩
theorem tb8_ok : SumL Try.prog tb8 := SumL.cons z1k (SumL.cons z0l (SumL.cons z19 (SumL.cons z1l (SumL.cons z1t (SumL.cons z1u (SumL.cons z1i (SumL.cons z29 (SumL.cons z1w (SumL.cons z3u (SumL.cons z3b (SumL.cons z39 (SumL.cons z1j (SumL.cons z28 (SumL.cons z0k (SumL.cons z00 (SumL.cons z24 (SumL.cons z1f (SumL.cons z0q (SumL.cons z3l (SumL.cons z2g (SumL.cons z23 (SumL.cons z33 (SumL.cons z2h (SumL.cons z1g (SumL.cons z12 (SumL.cons z37 (SumL.cons z1z (SumL.cons z1d (SumL.cons z1c (SumL.cons z2c (SumL.cons z1y (SumL.cons z2i (SumL.cons z1p (SumL.cons z26 (SumL.cons z25 (SumL.cons z2u (SumL.cons z2r (SumL.cons z3s (SumL.cons z4c (SumL.cons z2d (SumL.cons z0e (SumL.cons z08 (SumL.cons z3y (SumL.cons z0i (SumL.cons z0c (SumL.cons z0g (SumL.cons z06 (SumL.cons z4k (SumL.cons z3q (SumL.cons z3z (SumL.cons z2p (SumL.nil))))))))))))))))))))))))))))))))))))))))))))))))))))
theorem lt8_ok : LpL Try.prog fnTab lt8 := LpL.cons z13 (LpL.cons z0s (LpL.cons z0r (LpL.cons z18 (LpL.cons z17 (LpL.cons z34 (LpL.cons z1b (LpL.cons z04 (LpL.cons z02 (LpL.cons z09 (LpL.cons z3v (LpL.nil)))))))))))
noncomputable def z42 : List PT → Option (Bool × AV × List Blk)
  | [.ptr [.row 1 q08 (.fl .f32 q0e), .row 1 q09 (.fl .f32 q0g), .row 1 q0a (.fl .f32 q0f), .row 3 q0h (.fl .f32 q0l), .s (.int .i64 q0p), .s (.flt .f32 q0u), .s (.flt .f32 q0t)], .one (.s (.int .i64 i))] => some ((zji q08 q0e q09 q0g q0a q0f q0h q0l q0p q0u q0t i), ((AV.v (TV.one (At.bool (zgw q08 q0e q09 q0g q0a q0f q0h q0l q0p q0u q0t i)))), []))
  | _ => none
def zn0 (q08 : Nat) (q0e : List Nat) (q09 : Nat) (q0g : List Nat) (q0a : Nat) (q0f : List Nat) (q0h : Nat) (q0l : List Nat) (q0p : Int) (q0u : Nat) (q0t : Nat) (i : Int) : Option (Bool) → Option (AV × List Blk)
  | some r => some ((AV.v (TV.one (At.bool r))), [])
  | none => none
theorem zrx (q08 : Nat) (q0e : List Nat) (q09 : Nat) (q0g : List Nat) (q0a : Nat) (q0f : List Nat) (q0h : Nat) (q0l : List Nat) (q0p : Int) (q0u : Nat) (q0t : Nat) (i : Int) : evFn Γ8 8 8 81 (impTs 0 [.ptr [.row 1 q08 (.fl .f32 q0e), .row 1 q09 (.fl .f32 q0g), .row 1 q0a (.fl .f32 q0f), .row 3 q0h (.fl .f32 q0l), .s (.int .i64 q0p), .s (.flt .f32 q0u), .s (.flt .f32 q0t)], .one (.s (.int .i64 i))]).1 (impTs 0 [.ptr [.row 1 q08 (.fl .f32 q0e), .row 1 q09 (.fl .f32 q0g), .row 1 q0a (.fl .f32 q0f), .row 3 q0h (.fl .f32 q0l), .s (.int .i64 q0p), .s (.flt .f32 q0u), .s (.flt .f32 q0t)], .one (.s (.int .i64 i))]).2 (expo (impTs 0 [.ptr [.row 1 q08 (.fl .f32 q0e), .row 1 q09 (.fl .f32 q0g), .row 1 q0a (.fl .f32 q0f), .row 3 q0h (.fl .f32 q0l), .s (.int .i64 q0p), .s (.flt .f32 q0u), .s (.flt .f32 q0t)], .one (.s (.int .i64 i))]).2.length) = zcu q08 q0e q09 q0g q0a q0f q0h q0l q0p q0u q0t i (fun c0_ => some ((AV.v (TV.one (At.bool c0_))), [])) := by kernel_rfl
theorem z3k : SumOne Try.prog 81 z42 := sum_of (Γ := Γ8) (fuel := 8) (d := 8) tyTab_ok (FnL.ok fnTab_ok _ _) (LpL.ok lt8_ok) (SumL.ok tb8_ok _) mixed (by
  intro pts v news hp hc
  clear hc
  unfold z42 at hp
  split at hp
  · rename_i q08 q0e q09 q0g q0a q0f q0h q0l q0p q0u q0t i
    exact Eq.trans (Eq.trans (zrx q08 q0e q09 q0g q0a q0f q0h q0l q0p q0u q0t i) (zox (zn0 q08 q0e q09 q0g q0a q0f q0h q0l q0p q0u q0t i) rfl q08 q0e q09 q0g q0a q0f q0h q0l q0p q0u q0t i (fun c0_ => some c0_))) (fin_out (o := (zn0 q08 q0e q09 q0g q0a q0f q0h q0l q0p q0u q0t i)) (x := zd1 q08 q0e q09 q0g q0a q0f q0h q0l q0p q0u q0t i) (d := default) (V := fun r => ((AV.v (TV.one (At.bool r))), [])) (fun r => rfl) hp)
  · cases hp)
noncomputable def tb9 : List (Nat × (List PT → Option (Bool × AV × List Blk))) := [(125, z2j), (128, z0y), (134, z1m), (137, z2k), (18, z2s), (44, z2q), (48, z2a), (54, z3i), (61, z2t), (63, z4i), (64, z49), (66, z48), (80, z2b), (97, z3h), (104, z0t), (115, z01), (14, z35), (67, z22), (88, z11), (92, z4b), (103, z3o), (105, z36), (111, z40), (114, z3n), (118, z21), (122, z1e), (37, z45), (52, z2o), (72, z1s), (79, z1v), (93, z3a), (119, z2n), (16, z3j), (36, z2e), (57, z32), (86, z31), (19, z3t), (33, z3r), (39, z4d), (62, z4t), (69, z38), (99, z0f), (99, z0a), (30, z4g), (99, z0j), (117, z0d), (117, z0h), (117, z07), (91, z4x), (95, z47), (96, z4f), (112, z3m), (81, z42)]
noncomputable def lt9 : List ((Nat × Nat) × (Nat → St → Option (Bool × LO))) := [((52, 3), z1h), ((72, 2), z15), ((79, 2), z14), ((57, 4), z1n), ((86, 3), z1o), ((62, 5), z43), ((69, 4), z1x), ((99, 2), z05), ((99, 2), z03), ((99, 2), z0b), ((91, 6), z4e)]
noncomputable def Γ9 : Ctx := ⟨tyTab, fnTab, tblSum tb9, tblLp lt9⟩
theorem tb9_ok : SumL Try.prog tb9 := SumL.cons z1k (SumL.cons z0l (SumL.cons z19 (SumL.cons z1l (SumL.cons z1t (SumL.cons z1u (SumL.cons z1i (SumL.cons z29 (SumL.cons z1w (SumL.cons z3u (SumL.cons z3b (SumL.cons z39 (SumL.cons z1j (SumL.cons z28 (SumL.cons z0k (SumL.cons z00 (SumL.cons z24 (SumL.cons z1f (SumL.cons z0q (SumL.cons z3l (SumL.cons z2g (SumL.cons z23 (SumL.cons z33 (SumL.cons z2h (SumL.cons z1g (SumL.cons z12 (SumL.cons z37 (SumL.cons z1z (SumL.cons z1d (SumL.cons z1c (SumL.cons z2c (SumL.cons z1y (SumL.cons z2i (SumL.cons z1p (SumL.cons z26 (SumL.cons z25 (SumL.cons z2u (SumL.cons z2r (SumL.cons z3s (SumL.cons z4c (SumL.cons z2d (SumL.cons z0e (SumL.cons z08 (SumL.cons z3y (SumL.cons z0i (SumL.cons z0c (SumL.cons z0g (SumL.cons z06 (SumL.cons z4k (SumL.cons z3q (SumL.cons z3z (SumL.cons z2p (SumL.cons z3k (SumL.nil)))))))))))))))))))))))))))))))))))))))))))))))))))))
theorem lt9_ok : LpL Try.prog fnTab lt9 := LpL.cons z13 (LpL.cons z0s (LpL.cons z0r (LpL.cons z18 (LpL.cons z17 (LpL.cons z34 (LpL.cons z1b (LpL.cons z04 (LpL.cons z02 (LpL.cons z09 (LpL.cons z3v (LpL.nil)))))))))))
noncomputable def z4a : List PT → Option (Bool × AV × List Blk)
  | [.agg [.row 1 q08 (.fl .f32 q0e), .row 1 q09 (.fl .f32 q0g), .row 1 q0a (.fl .f32 q0f), .row 3 q0h (.fl .f32 q0l), .s (.int .i64 q0p), .s (.flt .f32 q0u), .s (.flt .f32 q0t)], .one (.s (.int .i64 i)), .agg [.s (.flt .f32 q12), .s (.flt .f32 q16), .s (.flt .f32 q17)]] => some ((zjf q08 q0e q09 q0g q0a q0f q0h q0l q0p q0u q0t i q12 q16 q17), ((AV.tup [(TV.agg [(At.sl 0 0 (zhj q08 q0e q09 q0g q0a q0f q0h q0l q0p q0u q0t i q12 q16 q17) 1), (At.sl 1 0 (zi5 q08 q0e q09 q0g q0a q0f q0h q0l q0p q0u q0t i q12 q16 q17) 1), (At.sl 2 0 (zi2 q08 q0e q09 q0g q0a q0f q0h q0l q0p q0u q0t i q12 q16 q17) 1), (At.sl 3 0 (zi6 q08 q0e q09 q0g q0a q0f q0h q0l q0p q0u q0t i q12 q16 q17) 3), (At.int IntKind.i64 (zht q08 q0e q09 q0g q0a q0f q0h q0l q0p q0u q0t i q12 q16 q17)), (At.flt FloatKind.f32 (zi0 q08 q0e q09 q0g q0a q0f q0h q0l q0p q0u q0t i q12 q16 q17)), (At.flt FloatKind.f32 (zh5 q08 q0e q09 q0g q0a q0f q0h q0l q0p q0u q0t i q12 q16 q17))]), (TV.one (At.bool (zhw q08 q0e q09 q0g q0a q0f q0h q0l q0p q0u q0t i q12 q16 q17)))]), [(Blk.mk Bool.true (Body.fl FloatKind.f32 (zhc q08 q0e q09 q0g q0a q0f q0h q0l q0p q0u q0t i q12 q16 q17))), (Blk.mk Bool.true (Body.fl FloatKind.f32 (zhi q08 q0e q09 q0g q0a q0f q0h q0l q0p q0u q0t i q12 q16 q17))), (Blk.mk Bool.true (Body.fl FloatKind.f32 (zfx q08 q0e q09 q0g q0a q0f q0h q0l q0p q0u q0t i q12 q16 q17))), (Blk.mk Bool.true (Body.fl FloatKind.f32 (zft q08 q0e q09 q0g q0a q0f q0h q0l q0p q0u q0t i q12 q16 q17)))]))
  | _ => none
def zn7 (q08 : Nat) (q0e : List Nat) (q09 : Nat) (q0g : List Nat) (q0a : Nat) (q0f : List Nat) (q0h : Nat) (q0l : List Nat) (q0p : Int) (q0u : Nat) (q0t : Nat) (i : Int) (q12 : Nat) (q16 : Nat) (q17 : Nat) : Option (Nat × Nat × Nat × Nat × Int × Nat × Nat × Bool × (List Nat) × (List Nat) × (List Nat) × (List Nat)) → Option (AV × List Blk)
  | some r => some ((AV.tup [(TV.agg [(At.sl 0 0 r.1 1), (At.sl 1 0 r.2.1 1), (At.sl 2 0 r.2.2.1 1), (At.sl 3 0 r.2.2.2.1 3), (At.int IntKind.i64 r.2.2.2.2.1), (At.flt FloatKind.f32 r.2.2.2.2.2.1), (At.flt FloatKind.f32 r.2.2.2.2.2.2.1)]), (TV.one (At.bool r.2.2.2.2.2.2.2.1))]), [(Blk.mk Bool.true (Body.fl FloatKind.f32 r.2.2.2.2.2.2.2.2.1)), (Blk.mk Bool.true (Body.fl FloatKind.f32 r.2.2.2.2.2.2.2.2.2.1)), (Blk.mk Bool.true (Body.fl FloatKind.f32 r.2.2.2.2.2.2.2.2.2.2.1)), (Blk.mk Bool.true (Body.fl FloatKind.f32 r.2.2.2.2.2.2.2.2.2.2.2))])
  | none => none
theorem zri (q08 : Nat) (q0e : List Nat) (q09 : Nat) (q0g : List Nat) (q0a : Nat) (q0f : List Nat) (q0h : Nat) (q0l : List Nat) (q0p : Int) (q0u : Nat) (q0t : Nat) (i : Int) (q12 : Nat) (q16 : Nat) (q17 : Nat) : evFn Γ9 8 8 43 (impTs 0 [.agg [.row 1 q08 (.fl .f32 q0e), .row 1 q09 (.fl .f32 q0g), .row 1 q0a (.fl .f32 q0f), .row 3 q0h (.fl .f32 q0l), .s (.int .i64 q0p), .s (.flt .f32 q0u), .s (.flt .f32 q0t)], .one (.s (.int .i64 i)), .agg [.s (.flt .f32 q12), .s (.flt .f32 q16), .s (.flt .f32 q17)]]).1 (impTs 0 [.agg [.row 1 q08 (.fl .f32 q0e), .row 1 q09 (.fl .f32 q0g), .row 1 q0a (.fl .f32 q0f), .row 3 q0h (.fl .f32 q0l), .s (.int .i64 q0p), .s (.flt .f32 q0u), .s (.flt .f32 q0t)], .one (.s (.int .i64 i)), .agg [.s (.flt .f32 q12), .s (.flt .f32 q16), .s (.flt .f32 q17)]]).2 (expo (impTs 0 [.agg [.row 1 q08 (.fl .f32 q0e), .row 1 q09 (.fl .f32 q0g), .row 1 q0a (.fl .f32 q0f), .row 3 q0h (.fl .f32 q0l), .s (.int .i64 q0p), .s (.flt .f32 q0u), .s (.flt .f32 q0t)], .one (.s (.int .i64 i)), .agg [.s (.flt .f32 q12), .s (.flt .f32 q16), .s (.flt .f32 q17)]]).2.length) = zct q08 q0e q09 q0g q0a q0f q0h q0l q0p q0u q0t i q12 q16 q17 (fun c0_ c1_ c2_ c3_ c4_ c5_ c6_ c7_ c8_ c9_ c10_ c11_ => some ((AV.tup [(TV.agg [(At.sl 0 0 c0_ 1), (At.sl 1 0 c1_ 1), (At.sl 2 0 c2_ 1), (At.sl 3 0 c3_ 3), (At.int IntKind.i64 c4_), (At.flt FloatKind.f32 c5_), (At.flt FloatKind.f32 c6_)]), (TV.one (At.bool c7_))]), [(Blk.mk Bool.true (Body.fl FloatKind.f32 c8_)), (Blk.mk Bool.true (Body.fl FloatKind.f32 c9_)), (Blk.mk Bool.true (Body.fl FloatKind.f32 c10_)), (Blk.mk Bool.true (Body.fl FloatKind.f32 c11_))])) := by kernel_rfl
theorem z3w : SumOne Try.prog 43 z4a := sum_of (Γ := Γ9) (fuel := 8) (d := 8) tyTab_ok (FnL.ok fnTab_ok _ _) (LpL.ok lt9_ok) (SumL.ok tb9_ok _) mixed (by
  intro pts v news hp hc
  clear hc
  unfold z4a at hp
  split at hp
  · rename_i q08 q0e q09 q0g q0a q0f q0h q0l q0p q0u q0t i q12 q16 q17
    exact Eq.trans (Eq.trans (zri q08 q0e q09 q0g q0a q0f q0h q0l q0p q0u q0t i q12 q16 q17) (zp6 (zn7 q08 q0e q09 q0g q0a q0f q0h q0l q0p q0u q0t i q12 q16 q17) rfl q08 q0e q09 q0g q0a q0f q0h q0l q0p q0u q0t i q12 q16 q17 (fun c0_ c1_ c2_ c3_ c4_ c5_ c6_ c7_ c8_ c9_ c10_ c11_ => some (c0_, c1_, c2_, c3_, c4_, c5_, c6_, c7_, c8_, c9_, c10_, c11_)))) (fin_out (o := (zn7 q08 q0e q09 q0g q0a q0f q0h q0l q0p q0u q0t i q12 q16 q17)) (x := z5g q08 q0e q09 q0g q0a q0f q0h q0l q0p q0u q0t i q12 q16 q17) (d := default) (V := fun r => ((AV.tup [(TV.agg [(At.sl 0 0 r.1 1), (At.sl 1 0 r.2.1 1), (At.sl 2 0 r.2.2.1 1), (At.sl 3 0 r.2.2.2.1 3), (At.int IntKind.i64 r.2.2.2.2.1), (At.flt FloatKind.f32 r.2.2.2.2.2.1), (At.flt FloatKind.f32 r.2.2.2.2.2.2.1)]), (TV.one (At.bool r.2.2.2.2.2.2.2.1))]), [(Blk.mk Bool.true (Body.fl FloatKind.f32 r.2.2.2.2.2.2.2.2.1)), (Blk.mk Bool.true (Body.fl FloatKind.f32 r.2.2.2.2.2.2.2.2.2.1)), (Blk.mk Bool.true (Body.fl FloatKind.f32 r.2.2.2.2.2.2.2.2.2.2.1)), (Blk.mk Bool.true (Body.fl FloatKind.f32 r.2.2.2.2.2.2.2.2.2.2.2))])) (fun r => rfl) hp)
  · cases hp)
noncomputable def zlp (q3i : Nat) (t43 : Int) (t44 : Int) (b0 : List Nat) (b1 : List Nat) (b2 : List Nat) (q2a : Nat) (q2v : Nat) (q2w : Nat) : Bool × LO := ((z8v q3i t43 b0 q2a t44), (LO.two (z8c q3i t43 b0 q2a t44) (LO.one Ex.ret (St.mk [(2, (AV.v (TV.one (At.bool Bool.false))))] [(Blk.mk Bool.false (Body.fl FloatKind.f32 b0)), (Blk.mk Bool.false (Body.fl FloatKind.f32 b1)), (Blk.mk Bool.false (Body.fl FloatKind.f32 b2))])) (LO.one (Ex.exit 0) (St.mk [(1, (AV.v (TV.one (At.ptr 3 0 3)))), (42, (AV.v (TV.one (At.vw 0 0 q3i 1)))), (43, (AV.v (TV.one (At.int IntKind.i64 t43)))), (44, (AV.v (TV.one (At.int IntKind.i64 (zes q3i t43 b0 q2a t44))))), (45, (AV.v (TV.one (At.bool (zey q3i t43 b0 q2a t44)))))] [(Blk.mk Bool.false (Body.fl FloatKind.f32 b0)), (Blk.mk Bool.false (Body.fl FloatKind.f32 b1)), (Blk.mk Bool.false (Body.fl FloatKind.f32 b2)), (Blk.mk Bool.true (Body.cells [(At.vw 0 0 q2a 1), (At.vw 1 0 q2v 1), (At.vw 2 0 q2w 1)]))]))))
noncomputable def z2l : Nat → St → Option (Bool × LO) := lpT 3 (pSt [(pTm 1 (pV (pOne (pPtr 3 (liN 0) 3)))), (pTm 42 (pV (pOne (pVw 0 (liN 0) 1)))), (pTm 43 (pV (pOne (pInt IntKind.i64)))), (pTm 44 (pV (pOne (pInt IntKind.i64))))] [(pBlk Bool.false (pFl FloatKind.f32)), (pBlk Bool.false (pFl FloatKind.f32)), (pBlk Bool.false (pFl FloatKind.f32)), (pBlk Bool.true (pCells [(pVw 0 (liN 0) 1), (pVw 1 (liN 0) 1), (pVw 2 (liN 0) 1)]))]) (fun hs => zlp (hvN (hGet hs 0)) (hvI (hGet hs 1)) (hvI (hGet hs 2)) (hvLn (hGet hs 3)) (hvLn (hGet hs 4)) (hvLn (hGet hs 5)) (hvN (hGet hs 6)) (hvN (hGet hs 7)) (hvN (hGet hs 8)))
def zb6 (q3i : Nat) (t43 : Int) (b0 : List Nat) (b1 : List Nat) (b2 : List Nat) (q2a : Nat) (q2v : Nat) (q2w : Nat) : Option ((Unit) ⊕ (Int × Bool)) → Option (Ex × St)
  | none => none
  | some (Sum.inl r) => some (Ex.ret, (St.mk [(2, (AV.v (TV.one (At.bool Bool.false))))] [(Blk.mk Bool.false (Body.fl FloatKind.f32 b0)), (Blk.mk Bool.false (Body.fl FloatKind.f32 b1)), (Blk.mk Bool.false (Body.fl FloatKind.f32 b2))]))
  | some (Sum.inr r) => some ((Ex.exit 0), (St.mk [(1, (AV.v (TV.one (At.ptr 3 0 3)))), (42, (AV.v (TV.one (At.vw 0 0 q3i 1)))), (43, (AV.v (TV.one (At.int IntKind.i64 t43)))), (44, (AV.v (TV.one (At.int IntKind.i64 r.1)))), (45, (AV.v (TV.one (At.bool r.2))))] [(Blk.mk Bool.false (Body.fl FloatKind.f32 b0)), (Blk.mk Bool.false (Body.fl FloatKind.f32 b1)), (Blk.mk Bool.false (Body.fl FloatKind.f32 b2)), (Blk.mk Bool.true (Body.cells [(At.vw 0 0 q2a 1), (At.vw 1 0 q2v 1), (At.vw 2 0 q2w 1)]))]))
def zny (q3i : Nat) (t43 : Int) (b0 : List Nat) (b1 : List Nat) (b2 : List Nat) (q2a : Nat) (q2v : Nat) (q2w : Nat) (x : Option ((Unit) ⊕ (Int × Bool))) : LO := (LO.two (oL x) (LO.one Ex.ret (St.mk [(2, (AV.v (TV.one (At.bool Bool.false))))] [(Blk.mk Bool.false (Body.fl FloatKind.f32 b0)), (Blk.mk Bool.false (Body.fl FloatKind.f32 b1)), (Blk.mk Bool.false (Body.fl FloatKind.f32 b2))])) (LO.one (Ex.exit 0) (St.mk [(1, (AV.v (TV.one (At.ptr 3 0 3)))), (42, (AV.v (TV.one (At.vw 0 0 q3i 1)))), (43, (AV.v (TV.one (At.int IntKind.i64 t43)))), (44, (AV.v (TV.one (At.int IntKind.i64 ((tR x).getD default).1)))), (45, (AV.v (TV.one (At.bool ((tR x).getD default).2))))] [(Blk.mk Bool.false (Body.fl FloatKind.f32 b0)), (Blk.mk Bool.false (Body.fl FloatKind.f32 b1)), (Blk.mk Bool.false (Body.fl FloatKind.f32 b2)), (Blk.mk Bool.true (Body.cells [(At.vw 0 0 q2a 1), (At.vw 1 0 q2v 1), (At.vw 2 0 q2w 1)]))])))
theorem zog (q3i : Nat) (t43 : Int) (b0 : List Nat) (b1 : List Nat) (b2 : List Nat) (q2a : Nat) (q2v : Nat) (q2w : Nat) : ∀ x : Option ((Unit) ⊕ (Int × Bool)), x.isSome = true → (zb6 q3i t43 b0 b1 b2 q2a q2v q2w) x = some (pick (zny q3i t43 b0 b1 b2 q2a q2v q2w x))
  | none, h => by cases h
  | some (Sum.inl r), _ => rfl
  | some (Sum.inr r), _ => rfl
theorem zom (q3i : Nat) (t43 : Int) (t44 : Int) (b0 : List Nat) (b1 : List Nat) (b2 : List Nat) (q2a : Nat) (q2v : Nat) (q2w : Nat) (K : Ex → St → Option (Ex × St)) : evC (R := Ex × St) Γ9 (evFn Γ9 8 8) 53 3 fi53.nt fi53.live fi53.nl 8 (findL 5 (loopsIn fi53.code)) (St.mk [(1, (AV.v (TV.one (At.ptr 3 0 3)))), (42, (AV.v (TV.one (At.vw 0 0 q3i 1)))), (43, (AV.v (TV.one (At.int IntKind.i64 t43)))), (44, (AV.v (TV.one (At.int IntKind.i64 t44))))] [(Blk.mk Bool.false (Body.fl FloatKind.f32 b0)), (Blk.mk Bool.false (Body.fl FloatKind.f32 b1)), (Blk.mk Bool.false (Body.fl FloatKind.f32 b2)), (Blk.mk Bool.true (Body.cells [(At.vw 0 0 q2a 1), (At.vw 1 0 q2v 1), (At.vw 2 0 q2w 1)]))]) K = z6r q3i t43 b0 q2a t44 (fun t44' => K .normal (St.mk [(1, (AV.v (TV.one (At.ptr 3 0 3)))), (42, (AV.v (TV.one (At.vw 0 0 q3i 1)))), (43, (AV.v (TV.one (At.int IntKind.i64 t43)))), (44, (AV.v (TV.one (At.int IntKind.i64 t44'))))] [(Blk.mk Bool.false (Body.fl FloatKind.f32 b0)), (Blk.mk Bool.false (Body.fl FloatKind.f32 b1)), (Blk.mk Bool.false (Body.fl FloatKind.f32 b2)), (Blk.mk Bool.true (Body.cells [(At.vw 0 0 q2a 1), (At.vw 1 0 q2v 1), (At.vw 2 0 q2w 1)]))])) (fun _ => K Ex.ret (St.mk [(2, (AV.v (TV.one (At.bool Bool.false))))] [(Blk.mk Bool.false (Body.fl FloatKind.f32 b0)), (Blk.mk Bool.false (Body.fl FloatKind.f32 b1)), (Blk.mk Bool.false (Body.fl FloatKind.f32 b2))])) (fun c0_ c1_ => K (Ex.exit 0) (St.mk [(1, (AV.v (TV.one (At.ptr 3 0 3)))), (42, (AV.v (TV.one (At.vw 0 0 q3i 1)))), (43, (AV.v (TV.one (At.int IntKind.i64 t43)))), (44, (AV.v (TV.one (At.int IntKind.i64 c0_)))), (45, (AV.v (TV.one (At.bool c1_))))] [(Blk.mk Bool.false (Body.fl FloatKind.f32 b0)), (Blk.mk Bool.false (Body.fl FloatKind.f32 b1)), (Blk.mk Bool.false (Body.fl FloatKind.f32 b2)), (Blk.mk Bool.true (Body.cells [(At.vw 0 0 q2a 1), (At.vw 1 0 q2v 1), (At.vw 2 0 q2w 1)]))])) := by kernel_rfl
theorem zol (q3i : Nat) (t43 : Int) (b0 : List Nat) (b1 : List Nat) (b2 : List Nat) (q2a : Nat) (q2v : Nat) (q2w : Nat) : ∀ (n : Nat) (t44 : Int), iter 53 5 3 (evC (R := Ex × St) Γ9 (evFn Γ9 8 8) 53 3 fi53.nt fi53.live fi53.nl 8 (findL 5 (loopsIn fi53.code))) n (St.mk [(1, (AV.v (TV.one (At.ptr 3 0 3)))), (42, (AV.v (TV.one (At.vw 0 0 q3i 1)))), (43, (AV.v (TV.one (At.int IntKind.i64 t43)))), (44, (AV.v (TV.one (At.int IntKind.i64 t44))))] [(Blk.mk Bool.false (Body.fl FloatKind.f32 b0)), (Blk.mk Bool.false (Body.fl FloatKind.f32 b1)), (Blk.mk Bool.false (Body.fl FloatKind.f32 b2)), (Blk.mk Bool.true (Body.cells [(At.vw 0 0 q2a 1), (At.vw 1 0 q2v 1), (At.vw 2 0 q2w 1)]))]) (fun e st => some (e, st)) = (zb6 q3i t43 b0 b1 b2 q2a q2v q2w) (z5e q3i t43 b0 q2a n t44) := by
  intro n
  induction n with
  | zero => intros; rfl
  | succ n ih =>
    intro t44
    refine Eq.trans (iter_succ ..) (Eq.trans (zom q3i t43 t44 b0 b1 b2 q2a q2v q2w (nextK 53 5 3 (evC (R := Ex × St) Γ9 (evFn Γ9 8 8) 53 3 fi53.nt fi53.live fi53.nl 8 (findL 5 (loopsIn fi53.code))) n (fun e st => some (e, st)))) (Eq.trans ?_ (zmr (zb6 q3i t43 b0 b1 b2 q2a q2v q2w) rfl q3i t43 b0 q2a t44 (fun t44' => z5e q3i t43 b0 q2a n t44') (fun _ => some (Sum.inl ())) (fun c0_ c1_ => some (Sum.inr (c0_, c1_))))))
    exact congrArg (fun kn_ => z6r q3i t43 b0 q2a t44 kn_ (fun _ => (zb6 q3i t43 b0 b1 b2 q2a q2v q2w) (some (Sum.inl ()))) (fun c0_ c1_ => (zb6 q3i t43 b0 b1 b2 q2a q2v q2w) (some (Sum.inr (c0_, c1_))))) (funext fun t44' => ih t44')
theorem z20 : LoopOne Try.prog fnTab 53 5 z2l := lp_of (Γ := Γ9) tyTab_ok (FnL.ok fnTab_ok _ _) (LpL.ok lt9_ok) (SumL.ok tb9_ok _) mixed (fi := fi53) (by kernel_rfl) (by kernel_rfl) (by
  intro lo st out hp
  obtain ⟨hs, e1, e2, e3⟩ := lpT_inv hp
  clear hp
  obtain rfl : st = (St.mk [(1, (AV.v (TV.one (At.ptr 3 0 3)))), (42, (AV.v (TV.one (At.vw 0 0 (hvN (hGet hs 0)) 1)))), (43, (AV.v (TV.one (At.int IntKind.i64 (hvI (hGet hs 1)))))), (44, (AV.v (TV.one (At.int IntKind.i64 (hvI (hGet hs 2))))))] [(Blk.mk Bool.false (Body.fl FloatKind.f32 (hvLn (hGet hs 3)))), (Blk.mk Bool.false (Body.fl FloatKind.f32 (hvLn (hGet hs 4)))), (Blk.mk Bool.false (Body.fl FloatKind.f32 (hvLn (hGet hs 5)))), (Blk.mk Bool.true (Body.cells [(At.vw 0 0 (hvN (hGet hs 6)) 1), (At.vw 1 0 (hvN (hGet hs 7)) 1), (At.vw 2 0 (hvN (hGet hs 8)) 1)]))]) := e2.trans (by kernel_rfl)
  clear e2
  subst e1
  unfold zlp at e3
  injection e3 with h1 h2
  subst h2
  exact ⟨8, 8, big, Eq.trans (zol (hvN (hGet hs 0)) (hvI (hGet hs 1)) (hvLn (hGet hs 3)) (hvLn (hGet hs 4)) (hvLn (hGet hs 5)) (hvN (hGet hs 6)) (hvN (hGet hs 7)) (hvN (hGet hs 8)) big (hvI (hGet hs 2))) (zog (hvN (hGet hs 0)) (hvI (hGet hs 1)) (hvLn (hGet hs 3)) (hvLn (hGet hs 4)) (hvLn (hGet hs 5)) (hvN (hGet hs 6)) (hvN (hGet hs 7)) (hvN (hGet hs 8)) (z5e (hvN (hGet hs 0)) (hvI (hGet hs 1)) (hvLn (hGet hs 3)) (hvN (hGet hs 6)) big (hvI (hGet hs 2))) h1)⟩)
noncomputable def tb10 : List (Nat × (List PT → Option (Bool × AV × List Blk))) := [(125, z2j), (128, z0y), (134, z1m), (137, z2k), (18, z2s), (44, z2q), (48, z2a), (54, z3i), (61, z2t), (63, z4i), (64, z49), (66, z48), (80, z2b), (97, z3h), (104, z0t), (115, z01), (14, z35), (67, z22), (88, z11), (92, z4b), (103, z3o), (105, z36), (111, z40), (114, z3n), (118, z21), (122, z1e), (37, z45), (52, z2o), (72, z1s), (79, z1v), (93, z3a), (119, z2n), (16, z3j), (36, z2e), (57, z32), (86, z31), (19, z3t), (33, z3r), (39, z4d), (62, z4t), (69, z38), (99, z0f), (99, z0a), (30, z4g), (99, z0j), (117, z0d), (117, z0h), (117, z07), (91, z4x), (95, z47), (96, z4f), (112, z3m), (81, z42), (43, z4a)]
noncomputable def lt10 : List ((Nat × Nat) × (Nat → St → Option (Bool × LO))) := [((52, 3), z1h), ((72, 2), z15), ((79, 2), z14), ((57, 4), z1n), ((86, 3), z1o), ((62, 5), z43), ((69, 4), z1x), ((99, 2), z05), ((99, 2), z03), ((99, 2), z0b), ((91, 6), z4e), ((53, 5), z2l)]
noncomputable def Γ10 : Ctx := ⟨tyTab, fnTab, tblSum tb10, tblLp lt10⟩
theorem tb10_ok : SumL Try.prog tb10 := SumL.cons z1k (SumL.cons z0l (SumL.cons z19 (SumL.cons z1l (SumL.cons z1t (SumL.cons z1u (SumL.cons z1i (SumL.cons z29 (SumL.cons z1w (SumL.cons z3u (SumL.cons z3b (SumL.cons z39 (SumL.cons z1j (SumL.cons z28 (SumL.cons z0k (SumL.cons z00 (SumL.cons z24 (SumL.cons z1f (SumL.cons z0q (SumL.cons z3l (SumL.cons z2g (SumL.cons z23 (SumL.cons z33 (SumL.cons z2h (SumL.cons z1g (SumL.cons z12 (SumL.cons z37 (SumL.cons z1z (SumL.cons z1d (SumL.cons z1c (SumL.cons z2c (SumL.cons z1y (SumL.cons z2i (SumL.cons z1p (SumL.cons z26 (SumL.cons z25 (SumL.cons z2u (SumL.cons z2r (SumL.cons z3s (SumL.cons z4c (SumL.cons z2d (SumL.cons z0e (SumL.cons z08 (SumL.cons z3y (SumL.cons z0i (SumL.cons z0c (SumL.cons z0g (SumL.cons z06 (SumL.cons z4k (SumL.cons z3q (SumL.cons z3z (SumL.cons z2p (SumL.cons z3k (SumL.cons z3w (SumL.nil))))))))))))))))))))))))))))))))))))))))))))))))))))))
theorem lt10_ok : LpL Try.prog fnTab lt10 := LpL.cons z13 (LpL.cons z0s (LpL.cons z0r (LpL.cons z18 (LpL.cons z17 (LpL.cons z34 (LpL.cons z1b (LpL.cons z04 (LpL.cons z02 (LpL.cons z09 (LpL.cons z3v (LpL.cons z20 (LpL.nil))))))))))))
noncomputable def z3x : List PT → Option (Bool × AV × List Blk)
  | [.agg [.row 1 q11 (.fl .f32 q1q), .row 1 q1b (.fl .f32 q1t), .row 1 q1c (.fl .f32 q1s)]] => some ((zfv q11 q1q q1b q1t q1c q1s), ((AV.v (TV.one (At.bool (zeu q11 q1q q1b q1t q1c q1s)))), []))
  | _ => none
def zmg (q11 : Nat) (q1q : List Nat) (q1b : Nat) (q1t : List Nat) (q1c : Nat) (q1s : List Nat) : Option (Bool) → Option (AV × List Blk)
  | some r => some ((AV.v (TV.one (At.bool r))), [])
  | none => none
theorem zqq (q11 : Nat) (q1q : List Nat) (q1b : Nat) (q1t : List Nat) (q1c : Nat) (q1s : List Nat) : evFn Γ10 8 8 53 (impTs 0 [.agg [.row 1 q11 (.fl .f32 q1q), .row 1 q1b (.fl .f32 q1t), .row 1 q1c (.fl .f32 q1s)]]).1 (impTs 0 [.agg [.row 1 q11 (.fl .f32 q1q), .row 1 q1b (.fl .f32 q1t), .row 1 q1c (.fl .f32 q1s)]]).2 (expo (impTs 0 [.agg [.row 1 q11 (.fl .f32 q1q), .row 1 q1b (.fl .f32 q1t), .row 1 q1c (.fl .f32 q1s)]]).2.length) = zaz q11 q1q q1b q1t q1c q1s (fun c0_ => some ((AV.v (TV.one (At.bool c0_))), [])) := by kernel_rfl
theorem z3f : SumOne Try.prog 53 z3x := sum_of (Γ := Γ10) (fuel := 8) (d := 8) tyTab_ok (FnL.ok fnTab_ok _ _) (LpL.ok lt10_ok) (SumL.ok tb10_ok _) mixed (by
  intro pts v news hp hc
  clear hc
  unfold z3x at hp
  split at hp
  · rename_i q11 q1q q1b q1t q1c q1s
    exact Eq.trans (Eq.trans (zqq q11 q1q q1b q1t q1c q1s) (zo0 (zmg q11 q1q q1b q1t q1c q1s) rfl q11 q1q q1b q1t q1c q1s (fun c0_ => some c0_))) (fin_out (o := (zmg q11 q1q q1b q1t q1c q1s)) (x := zb1 q11 q1q q1b q1t q1c q1s) (d := default) (V := fun r => ((AV.v (TV.one (At.bool r))), [])) (fun r => rfl) hp)
  · cases hp)
noncomputable def tb11 : List (Nat × (List PT → Option (Bool × AV × List Blk))) := [(125, z2j), (128, z0y), (134, z1m), (137, z2k), (18, z2s), (44, z2q), (48, z2a), (54, z3i), (61, z2t), (63, z4i), (64, z49), (66, z48), (80, z2b), (97, z3h), (104, z0t), (115, z01), (14, z35), (67, z22), (88, z11), (92, z4b), (103, z3o), (105, z36), (111, z40), (114, z3n), (118, z21), (122, z1e), (37, z45), (52, z2o), (72, z1s), (79, z1v), (93, z3a), (119, z2n), (16, z3j), (36, z2e), (57, z32), (86, z31), (19, z3t), (33, z3r), (39, z4d), (62, z4t), (69, z38), (99, z0f), (99, z0a), (30, z4g), (99, z0j), (117, z0d), (117, z0h), (117, z07), (91, z4x), (95, z47), (96, z4f), (112, z3m), (81, z42), (43, z4a), (53, z3x)]
noncomputable def lt11 : List ((Nat × Nat) × (Nat → St → Option (Bool × LO))) := [((52, 3), z1h), ((72, 2), z15), ((79, 2), z14), ((57, 4), z1n), ((86, 3), z1o), ((62, 5), z43), ((69, 4), z1x), ((99, 2), z05), ((99, 2), z03), ((99, 2), z0b), ((91, 6), z4e), ((53, 5), z2l)]
noncomputable def Γ11 : Ctx := ⟨tyTab, fnTab, tblSum tb11, tblLp lt11⟩
theorem tb11_ok : SumL Try.prog tb11 := SumL.cons z1k (SumL.cons z0l (SumL.cons z19 (SumL.cons z1l (SumL.cons z1t (SumL.cons z1u (SumL.cons z1i (SumL.cons z29 (SumL.cons z1w (SumL.cons z3u (SumL.cons z3b (SumL.cons z39 (SumL.cons z1j (SumL.cons z28 (SumL.cons z0k (SumL.cons z00 (SumL.cons z24 (SumL.cons z1f (SumL.cons z0q (SumL.cons z3l (SumL.cons z2g (SumL.cons z23 (SumL.cons z33 (SumL.cons z2h (SumL.cons z1g (SumL.cons z12 (SumL.cons z37 (SumL.cons z1z (SumL.cons z1d (SumL.cons z1c (SumL.cons z2c (SumL.cons z1y (SumL.cons z2i (SumL.cons z1p (SumL.cons z26 (SumL.cons z25 (SumL.cons z2u (SumL.cons z2r (SumL.cons z3s (SumL.cons z4c (SumL.cons z2d (SumL.cons z0e (SumL.cons z08 (SumL.cons z3y (SumL.cons z0i (SumL.cons z0c (SumL.cons z0g (SumL.cons z06 (SumL.cons z4k (SumL.cons z3q (SumL.cons z3z (SumL.cons z2p (SumL.cons z3k (SumL.cons z3w (SumL.cons z3f (SumL.nil)))))))))))))))))))))))))))))))))))))))))))))))))))))))
theorem lt11_ok : LpL Try.prog fnTab lt11 := LpL.cons z13 (LpL.cons z0s (LpL.cons z0r (LpL.cons z18 (LpL.cons z17 (LpL.cons z34 (LpL.cons z1b (LpL.cons z04 (LpL.cons z02 (LpL.cons z09 (LpL.cons z3v (LpL.cons z20 (LpL.nil))))))))))))
noncomputable def tb12 : List (Nat × (List PT → Option (Bool × AV × List Blk))) := [(125, z2j), (128, z0y), (134, z1m), (137, z2k), (18, z2s), (44, z2q), (48, z2a), (54, z3i), (61, z2t), (63, z4i), (64, z49), (66, z48), (80, z2b), (97, z3h), (104, z0t), (115, z01), (14, z35), (67, z22), (88, z11), (92, z4b), (103, z3o), (105, z36), (111, z40), (114, z3n), (118, z21), (122, z1e), (37, z45), (52, z2o), (72, z1s), (79, z1v), (93, z3a), (119, z2n), (16, z3j), (36, z2e), (57, z32), (86, z31), (19, z3t), (33, z3r), (39, z4d), (62, z4t), (69, z38), (99, z0f), (99, z0a), (30, z4g), (99, z0j), (117, z0d), (117, z0h), (117, z07), (91, z4x), (95, z47), (96, z4f), (112, z3m), (81, z42), (43, z4a), (53, z3x)]
noncomputable def lt12 : List ((Nat × Nat) × (Nat → St → Option (Bool × LO))) := [((52, 3), z1h), ((72, 2), z15), ((79, 2), z14), ((57, 4), z1n), ((86, 3), z1o), ((62, 5), z43), ((69, 4), z1x), ((99, 2), z05), ((99, 2), z03), ((99, 2), z0b), ((91, 6), z4e), ((53, 5), z2l)]
noncomputable def Γ12 : Ctx := ⟨tyTab, fnTab, tblSum tb12, tblLp lt12⟩
theorem tb12_ok : SumL Try.prog tb12 := SumL.cons z1k (SumL.cons z0l (SumL.cons z19 (SumL.cons z1l (SumL.cons z1t (SumL.cons z1u (SumL.cons z1i (SumL.cons z29 (SumL.cons z1w (SumL.cons z3u (SumL.cons z3b (SumL.cons z39 (SumL.cons z1j (SumL.cons z28 (SumL.cons z0k (SumL.cons z00 (SumL.cons z24 (SumL.cons z1f (SumL.cons z0q (SumL.cons z3l (SumL.cons z2g (SumL.cons z23 (SumL.cons z33 (SumL.cons z2h (SumL.cons z1g (SumL.cons z12 (SumL.cons z37 (SumL.cons z1z (SumL.cons z1d (SumL.cons z1c (SumL.cons z2c (SumL.cons z1y (SumL.cons z2i (SumL.cons z1p (SumL.cons z26 (SumL.cons z25 (SumL.cons z2u (SumL.cons z2r (SumL.cons z3s (SumL.cons z4c (SumL.cons z2d (SumL.cons z0e (SumL.cons z08 (SumL.cons z3y (SumL.cons z0i (SumL.cons z0c (SumL.cons z0g (SumL.cons z06 (SumL.cons z4k (SumL.cons z3q (SumL.cons z3z (SumL.cons z2p (SumL.cons z3k (SumL.cons z3w (SumL.cons z3f (SumL.nil)))))))))))))))))))))))))))))))))))))))))))))))))))))))
theorem lt12_ok : LpL Try.prog fnTab lt12 := LpL.cons z13 (LpL.cons z0s (LpL.cons z0r (LpL.cons z18 (LpL.cons z17 (LpL.cons z34 (LpL.cons z1b (LpL.cons z04 (LpL.cons z02 (LpL.cons z09 (LpL.cons z3v (LpL.cons z20 (LpL.nil))))))))))))
noncomputable def zm2 (t4 : Nat) (q3f : Nat) (t44 : Int) (t45 : Int) (b0 : List Nat) (b1 : List Nat) (b2 : List Nat) (b3 : List Nat) (q1e : Nat) (q1f : Nat) (q1d : Nat) (q13 : Nat) (q1v : Int) (q1u : Nat) (q14 : Nat) : Bool × LO := ((z9d q3f t44 b3 q14 t4 t45), (LO.two (z98 q3f t44 b3 q14 t4 t45) (LO.one Ex.ret (St.mk [(2, (AV.v (TV.one (At.bool Bool.false))))] [(Blk.mk Bool.false (Body.fl FloatKind.f32 b0)), (Blk.mk Bool.false (Body.fl FloatKind.f32 b1)), (Blk.mk Bool.false (Body.fl FloatKind.f32 b2)), (Blk.mk Bool.false (Body.fl FloatKind.f32 b3))])) (LO.one (Ex.exit 0) (St.mk [(1, (AV.v (TV.one (At.ptr 4 0 7)))), (4, (AV.v (TV.one (At.flt FloatKind.f32 (zg5 q3f t44 b3 q14 t4 t45))))), (43, (AV.v (TV.one (At.vw 3 0 q3f 3)))), (44, (AV.v (TV.one (At.int IntKind.i64 t44)))), (45, (AV.v (TV.one (At.int IntKind.i64 (zg7 q3f t44 b3 q14 t4 t45))))), (46, (AV.v (TV.one (At.bool (zgj q3f t44 b3 q14 t4 t45)))))] [(Blk.mk Bool.false (Body.fl FloatKind.f32 b0)), (Blk.mk Bool.false (Body.fl FloatKind.f32 b1)), (Blk.mk Bool.false (Body.fl FloatKind.f32 b2)), (Blk.mk Bool.false (Body.fl FloatKind.f32 b3)), (Blk.mk Bool.true (Body.cells [(At.vw 0 0 q1e 1), (At.vw 1 0 q1f 1), (At.vw 2 0 q1d 1), (At.vw 3 0 q13 3), (At.int IntKind.i64 q1v), (At.flt FloatKind.f32 q1u), (At.flt FloatKind.f32 q14)]))]))))
noncomputable def z46 : Nat → St → Option (Bool × LO) := lpT 4 (pSt [(pTm 1 (pV (pOne (pPtr 4 (liN 0) 7)))), (pTm 4 (pV (pOne (pFlt FloatKind.f32)))), (pTm 43 (pV (pOne (pVw 3 (liN 0) 3)))), (pTm 44 (pV (pOne (pInt IntKind.i64)))), (pTm 45 (pV (pOne (pInt IntKind.i64))))] [(pBlk Bool.false (pFl FloatKind.f32)), (pBlk Bool.false (pFl FloatKind.f32)), (pBlk Bool.false (pFl FloatKind.f32)), (pBlk Bool.false (pFl FloatKind.f32)), (pBlk Bool.true (pCells [(pVw 0 (liN 0) 1), (pVw 1 (liN 0) 1), (pVw 2 (liN 0) 1), (pVw 3 (liN 0) 3), (pInt IntKind.i64), (pFlt FloatKind.f32), (pFlt FloatKind.f32)]))]) (fun hs => zm2 (hvN (hGet hs 0)) (hvN (hGet hs 1)) (hvI (hGet hs 2)) (hvI (hGet hs 3)) (hvLn (hGet hs 4)) (hvLn (hGet hs 5)) (hvLn (hGet hs 6)) (hvLn (hGet hs 7)) (hvN (hGet hs 8)) (hvN (hGet hs 9)) (hvN (hGet hs 10)) (hvN (hGet hs 11)) (hvI (hGet hs 12)) (hvN (hGet hs 13)) (hvN (hGet hs 14)))
def zcl (q3f : Nat) (t44 : Int) (b0 : List Nat) (b1 : List Nat) (b2 : List Nat) (b3 : List Nat) (q1e : Nat) (q1f : Nat) (q1d : Nat) (q13 : Nat) (q1v : Int) (q1u : Nat) (q14 : Nat) : Option ((Unit) ⊕ (Nat × Int × Bool)) → Option (Ex × St)
  | none => none
  | some (Sum.inl r) => some (Ex.ret, (St.mk [(2, (AV.v (TV.one (At.bool Bool.false))))] [(Blk.mk Bool.false (Body.fl FloatKind.f32 b0)), (Blk.mk Bool.false (Body.fl FloatKind.f32 b1)), (Blk.mk Bool.false (Body.fl FloatKind.f32 b2)), (Blk.mk Bool.false (Body.fl FloatKind.f32 b3))]))
  | some (Sum.inr r) => some ((Ex.exit 0), (St.mk [(1, (AV.v (TV.one (At.ptr 4 0 7)))), (4, (AV.v (TV.one (At.flt FloatKind.f32 r.1)))), (43, (AV.v (TV.one (At.vw 3 0 q3f 3)))), (44, (AV.v (TV.one (At.int IntKind.i64 t44)))), (45, (AV.v (TV.one (At.int IntKind.i64 r.2.1)))), (46, (AV.v (TV.one (At.bool r.2.2))))] [(Blk.mk Bool.false (Body.fl FloatKind.f32 b0)), (Blk.mk Bool.false (Body.fl FloatKind.f32 b1)), (Blk.mk Bool.false (Body.fl FloatKind.f32 b2)), (Blk.mk Bool.false (Body.fl FloatKind.f32 b3)), (Blk.mk Bool.true (Body.cells [(At.vw 0 0 q1e 1), (At.vw 1 0 q1f 1), (At.vw 2 0 q1d 1), (At.vw 3 0 q13 3), (At.int IntKind.i64 q1v), (At.flt FloatKind.f32 q1u), (At.flt FloatKind.f32 q14)]))]))
def zpe (q3f : Nat) (t44 : Int) (b0 : List Nat) (b1 : List Nat) (b2 : List Nat) (b3 : List Nat) (q1e : Nat) (q1f : Nat) (q1d : Nat) (q13 : Nat) (q1v : Int) (q1u : Nat) (q14 : Nat) (x : Option ((Unit) ⊕ (Nat × Int × Bool))) : LO := (LO.two (oL x) (LO.one Ex.ret (St.mk [(2, (AV.v (TV.one (At.bool Bool.false))))] [(Blk.mk Bool.false (Body.fl FloatKind.f32 b0)), (Blk.mk Bool.false (Body.fl FloatKind.f32 b1)), (Blk.mk Bool.false (Body.fl FloatKind.f32 b2)), (Blk.mk Bool.false (Body.fl FloatKind.f32 b3))])) (LO.one (Ex.exit 0) (St.mk [(1, (AV.v (TV.one (At.ptr 4 0 7)))), (4, (AV.v (TV.one (At.flt FloatKind.f32 ((tR x).getD default).1)))), (43, (AV.v (TV.one (At.vw 3 0 q3f 3)))), (44, (AV.v (TV.one (At.int IntKind.i64 t44)))), (45, (AV.v (TV.one (At.int IntKind.i64 ((tR x).getD default).2.1)))), (46, (AV.v (TV.one (At.bool ((tR x).getD default).2.2))))] [(Blk.mk Bool.false (Body.fl FloatKind.f32 b0)), (Blk.mk Bool.false (Body.fl FloatKind.f32 b1)), (Blk.mk Bool.false (Body.fl FloatKind.f32 b2)), (Blk.mk Bool.false (Body.fl FloatKind.f32 b3)), (Blk.mk Bool.true (Body.cells [(At.vw 0 0 q1e 1), (At.vw 1 0 q1f 1), (At.vw 2 0 q1d 1), (At.vw 3 0 q13 3), (At.int IntKind.i64 q1v), (At.flt FloatKind.f32 q1u), (At.flt FloatKind.f32 q14)]))])))
theorem zq9 (q3f : Nat) (t44 : Int) (b0 : List Nat) (b1 : List Nat) (b2 : List Nat) (b3 : List Nat) (q1e : Nat) (q1f : Nat) (q1d : Nat) (q13 : Nat) (q1v : Int) (q1u : Nat) (q14 : Nat) : ∀ x : Option ((Unit) ⊕ (Nat × Int × Bool)), x.isSome = true → (zcl q3f t44 b0 b1 b2 b3 q1e q1f q1d q13 q1v q1u q14) x = some (pick (zpe q3f t44 b0 b1 b2 b3 q1e q1f q1d q13 q1v q1u q14 x))
  | none, h => by cases h
  | some (Sum.inl r), _ => rfl
  | some (Sum.inr r), _ => rfl
theorem zpk (t4 : Nat) (q3f : Nat) (t44 : Int) (t45 : Int) (b0 : List Nat) (b1 : List Nat) (b2 : List Nat) (b3 : List Nat) (q1e : Nat) (q1f : Nat) (q1d : Nat) (q13 : Nat) (q1v : Int) (q1u : Nat) (q14 : Nat) (K : Ex → St → Option (Ex × St)) : evC (R := Ex × St) Γ12 (evFn Γ12 8 8) 87 4 fi87.nt fi87.live fi87.nl 8 (findL 6 (loopsIn fi87.code)) (St.mk [(1, (AV.v (TV.one (At.ptr 4 0 7)))), (4, (AV.v (TV.one (At.flt FloatKind.f32 t4)))), (43, (AV.v (TV.one (At.vw 3 0 q3f 3)))), (44, (AV.v (TV.one (At.int IntKind.i64 t44)))), (45, (AV.v (TV.one (At.int IntKind.i64 t45))))] [(Blk.mk Bool.false (Body.fl FloatKind.f32 b0)), (Blk.mk Bool.false (Body.fl FloatKind.f32 b1)), (Blk.mk Bool.false (Body.fl FloatKind.f32 b2)), (Blk.mk Bool.false (Body.fl FloatKind.f32 b3)), (Blk.mk Bool.true (Body.cells [(At.vw 0 0 q1e 1), (At.vw 1 0 q1f 1), (At.vw 2 0 q1d 1), (At.vw 3 0 q13 3), (At.int IntKind.i64 q1v), (At.flt FloatKind.f32 q1u), (At.flt FloatKind.f32 q14)]))]) K = z7r q3f t44 b3 q14 t4 t45 (fun t4' t45' => K .normal (St.mk [(1, (AV.v (TV.one (At.ptr 4 0 7)))), (4, (AV.v (TV.one (At.flt FloatKind.f32 t4')))), (43, (AV.v (TV.one (At.vw 3 0 q3f 3)))), (44, (AV.v (TV.one (At.int IntKind.i64 t44)))), (45, (AV.v (TV.one (At.int IntKind.i64 t45'))))] [(Blk.mk Bool.false (Body.fl FloatKind.f32 b0)), (Blk.mk Bool.false (Body.fl FloatKind.f32 b1)), (Blk.mk Bool.false (Body.fl FloatKind.f32 b2)), (Blk.mk Bool.false (Body.fl FloatKind.f32 b3)), (Blk.mk Bool.true (Body.cells [(At.vw 0 0 q1e 1), (At.vw 1 0 q1f 1), (At.vw 2 0 q1d 1), (At.vw 3 0 q13 3), (At.int IntKind.i64 q1v), (At.flt FloatKind.f32 q1u), (At.flt FloatKind.f32 q14)]))])) (fun _ => K Ex.ret (St.mk [(2, (AV.v (TV.one (At.bool Bool.false))))] [(Blk.mk Bool.false (Body.fl FloatKind.f32 b0)), (Blk.mk Bool.false (Body.fl FloatKind.f32 b1)), (Blk.mk Bool.false (Body.fl FloatKind.f32 b2)), (Blk.mk Bool.false (Body.fl FloatKind.f32 b3))])) (fun c0_ c1_ c2_ => K (Ex.exit 0) (St.mk [(1, (AV.v (TV.one (At.ptr 4 0 7)))), (4, (AV.v (TV.one (At.flt FloatKind.f32 c0_)))), (43, (AV.v (TV.one (At.vw 3 0 q3f 3)))), (44, (AV.v (TV.one (At.int IntKind.i64 t44)))), (45, (AV.v (TV.one (At.int IntKind.i64 c1_)))), (46, (AV.v (TV.one (At.bool c2_))))] [(Blk.mk Bool.false (Body.fl FloatKind.f32 b0)), (Blk.mk Bool.false (Body.fl FloatKind.f32 b1)), (Blk.mk Bool.false (Body.fl FloatKind.f32 b2)), (Blk.mk Bool.false (Body.fl FloatKind.f32 b3)), (Blk.mk Bool.true (Body.cells [(At.vw 0 0 q1e 1), (At.vw 1 0 q1f 1), (At.vw 2 0 q1d 1), (At.vw 3 0 q13 3), (At.int IntKind.i64 q1v), (At.flt FloatKind.f32 q1u), (At.flt FloatKind.f32 q14)]))])) := by kernel_rfl
end Go.Proofs.Ytihlcjjbenkokaa
