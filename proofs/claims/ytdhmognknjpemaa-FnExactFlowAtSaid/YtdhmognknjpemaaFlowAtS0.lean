/-
  What functions answer: that the evaluator answers so. Printed by a program.
-/
import Derived.Test.YtdhmognknjpemaaFlowAtC
set_option linter.unusedVariables false
set_option linter.unusedSimpArgs false
set_option maxRecDepth 100000
set_option maxHeartbeats 4000000
namespace Go.Proofs.Ytdhmognknjpemaa
open Go Go.Rf
def z0s : List PT → Option (Bool × AV × List Blk)
  | [.one (.s (.int .u64 x))] => some (okU .f64 x, A1 (.flt .f64 (cnI .f64 x)), [])
  | _ => none
theorem z0r : SumOne Try.prog 156 z0s := by
  intro pts v news hp w vals hv
  unfold z0s at hp
  split at hp
  · rename_i x
    injection hp with hp
    injection hp with h1 hp
    injection hp with h2 h3
    subst h2
    subst h3
    obtain ⟨l, hl⟩ : ∃ l, l = vals.toList := ⟨_, rfl⟩
    rw [← hl] at hv
    cases hv with
    | cons a1 a2 =>
      cases a2
      have hb1 : _ = Value.int .u64 x := a1
      subst hb1
      rename_i hx
      have hvals : vals = #[.int .u64 x] := by rw [← Array.toList_inj, ← hl]
      subst hvals
      have hw := okU_lt h1
      refine .inl ⟨_, w, by (simp only [callFunc, Sem.run_bind, run_program, Result.andThen_ok, Try.func156]; rfl), NoB, ⟨⟨(fun t b' h => by cases t <;> cases h), (fun t t' b1 b2 x x' _ h => by cases t <;> cases h)⟩, (fun t x h => by cases h), Fr.refl _ w⟩, ⟨_, rfl, hw, rfl⟩⟩
  · cases hp
def z1a : List PT → Option (Bool × AV × List Blk)
  | [.one (.s (.flt .f64 x))] => some (bnot (nanQ .f64 x), A1 (.int .u64 x), [])
  | _ => none
theorem z11 : SumOne Try.prog 181 z1a := by
  intro pts v news hp w vals hv
  unfold z1a at hp
  split at hp
  · rename_i x
    injection hp with hp
    injection hp with h1 hp
    injection hp with h2 h3
    subst h2
    subst h3
    obtain ⟨l, hl⟩ : ∃ l, l = vals.toList := ⟨_, rfl⟩
    rw [← hl] at hv
    cases hv with
    | cons a1 a2 =>
      cases a2
      obtain ⟨b, hb1, hb2, hb3⟩ := a1
      subst hb1
      rename_i hx
      have hvals : vals = #[.float .f64 b] := by rw [← Array.toList_inj, ← hl]
      subst hvals
      have hn : nanB .f64 b = false := by rw [← nanB_cn, hb3]; simpa [bnot, nanQ] using h1
      rw [cn_of_not hn] at hb3
      subst hb3
      refine .inl ⟨_, w, by (simp only [callFunc, Sem.run_bind, run_program, Result.andThen_ok, Try.func181]; rfl), NoB, ⟨⟨(fun t b' h => by cases t <;> cases h), (fun t t' b1 b2 x x' _ h => by cases t <;> cases h)⟩, (fun t x h => by cases h), Fr.refl _ w⟩, rfl⟩
  · cases hp
def z22 : List PT → Option (Bool × AV × List Blk)
  | [.one (.s (.flt .f64 x))] => some (bnot (nanQ .f64 x), A1 (.flt .f64 (fint .zero x)), [])
  | _ => none
theorem z1i : SumOne Try.prog 182 z22 := by
  intro pts v news hp w vals hv
  unfold z22 at hp
  split at hp
  · rename_i x
    injection hp with hp
    injection hp with h1 hp
    injection hp with h2 h3
    subst h2
    subst h3
    obtain ⟨l, hl⟩ : ∃ l, l = vals.toList := ⟨_, rfl⟩
    rw [← hl] at hv
    cases hv with
    | cons a1 a2 =>
      cases a2
      obtain ⟨b, hb1, hb2, hb3⟩ := a1
      subst hb1
      rename_i hx
      have hvals : vals = #[.float .f64 b] := by rw [← Array.toList_inj, ← hl]
      subst hvals
      have hn : nanB .f64 b = false := by rw [← nanB_cn, hb3]; simpa [bnot, nanQ] using h1
      rw [cn_of_not hn] at hb3
      subst hb3
      refine .inl ⟨_, w, by (simp only [callFunc, Sem.run_bind, run_program, Result.andThen_ok, Try.func182]; change (do let v ← Extern.MathFloor.toIntegral "math.archTrunc" .zero #[.float .f64 b]; pure (.value v) : Sem Next).run Try.prog w = _; rw [Sem.run_bind, run_fint hn]; rfl), NoB, ⟨⟨(fun t b' h => by cases t <;> cases h), (fun t t' b1 b2 x x' _ h => by cases t <;> cases h)⟩, (fun t x h => by cases h), Fr.refl _ w⟩, fint_rel hn⟩
  · cases hp
def z21 : List PT → Option (Bool × AV × List Blk)
  | [.one (.s (.flt .f64 x))] => some (bnot (nanQ .f64 x), A1 (.flt .f64 (fint .down x)), [])
  | _ => none
theorem z1j : SumOne Try.prog 189 z21 := by
  intro pts v news hp w vals hv
  unfold z21 at hp
  split at hp
  · rename_i x
    injection hp with hp
    injection hp with h1 hp
    injection hp with h2 h3
    subst h2
    subst h3
    obtain ⟨l, hl⟩ : ∃ l, l = vals.toList := ⟨_, rfl⟩
    rw [← hl] at hv
    cases hv with
    | cons a1 a2 =>
      cases a2
      obtain ⟨b, hb1, hb2, hb3⟩ := a1
      subst hb1
      rename_i hx
      have hvals : vals = #[.float .f64 b] := by rw [← Array.toList_inj, ← hl]
      subst hvals
      have hn : nanB .f64 b = false := by rw [← nanB_cn, hb3]; simpa [bnot, nanQ] using h1
      rw [cn_of_not hn] at hb3
      subst hb3
      refine .inl ⟨_, w, by (simp only [callFunc, Sem.run_bind, run_program, Result.andThen_ok, Try.func189]; change (do let v ← Extern.MathFloor.toIntegral "math.archFloor" .down #[.float .f64 b]; pure (.value v) : Sem Next).run Try.prog w = _; rw [Sem.run_bind, run_fint hn]; rfl), NoB, ⟨⟨(fun t b' h => by cases t <;> cases h), (fun t t' b1 b2 x x' _ h => by cases t <;> cases h)⟩, (fun t x h => by cases h), Fr.refl _ w⟩, fint_rel hn⟩
  · cases hp
noncomputable def tb0 : List (Nat × (List PT → Option (Bool × AV × List Blk))) := [(156, z0s), (181, z1a), (182, z22), (189, z21)]
noncomputable def lt0 : List ((Nat × Nat) × (Nat → St → Option (Bool × LO))) := []
noncomputable def Γ0 : Ctx := ⟨tyTab, fnTab, tblSum tb0, tblLp lt0⟩
theorem tb0_ok : SumL Try.prog tb0 := SumL.cons z0r (SumL.cons z11 (SumL.cons z1i (SumL.cons z1j (SumL.nil))))
theorem lt0_ok : LpL Try.prog fnTab lt0 := LpL.nil
noncomputable def z2r : List PT → Option (Bool × AV × List Blk)
  | [.one (.s (.flt .f32 x))] => some ((z6r x), ((AV.v (TV.one (At.bool (z6h x)))), []))
  | _ => none
def zne (x : Nat) : Option (Bool) → Option (AV × List Blk)
  | some r => some ((AV.v (TV.one (At.bool r))), [])
  | none => none
theorem ztx (x : Nat) : evFn Γ0 8 8 26 (impTs 0 [.one (.s (.flt .f32 x))]).1 (impTs 0 [.one (.s (.flt .f32 x))]).2 (expo (impTs 0 [.one (.s (.flt .f32 x))]).2.length) = zfr x (fun c0_ => some ((AV.v (TV.one (At.bool c0_))), [])) := by kernel_rfl
theorem z26 : SumOne Try.prog 26 z2r := sum_of (Γ := Γ0) (fuel := 8) (d := 8) tyTab_ok (FnL.ok fnTab_ok _ _) (LpL.ok lt0_ok) (SumL.ok tb0_ok _) mixed (by
  intro pts v news hp hc
  clear hc
  unfold z2r at hp
  split at hp
  · rename_i x
    exact Eq.trans (Eq.trans (ztx x) (zqg (zne x) rfl x (fun c0_ => some c0_))) (fin_out (o := (zne x)) (x := zfo x) (d := default) (V := fun r => ((AV.v (TV.one (At.bool r))), [])) (fun r => rfl) hp)
  · cases hp)
noncomputable def z29 : List PT → Option (Bool × AV × List Blk)
  | [.one (.s (.flt .f64 a)), .one (.s (.flt .f64 b))] => some ((z84 a b), ((AV.v (TV.one (At.bool (z7p a b)))), []))
  | _ => none
def zmo (a : Nat) (b : Nat) : Option (Bool) → Option (AV × List Blk)
  | some r => some ((AV.v (TV.one (At.bool r))), [])
  | none => none
theorem ztn (a : Nat) (b : Nat) : evFn Γ0 8 8 55 (impTs 0 [.one (.s (.flt .f64 a)), .one (.s (.flt .f64 b))]).1 (impTs 0 [.one (.s (.flt .f64 a)), .one (.s (.flt .f64 b))]).2 (expo (impTs 0 [.one (.s (.flt .f64 a)), .one (.s (.flt .f64 b))]).2.length) = zce a b (fun c0_ => some ((AV.v (TV.one (At.bool c0_))), [])) := by kernel_rfl
theorem z1u : SumOne Try.prog 55 z29 := sum_of (Γ := Γ0) (fuel := 8) (d := 8) tyTab_ok (FnL.ok fnTab_ok _ _) (LpL.ok lt0_ok) (SumL.ok tb0_ok _) mixed (by
  intro pts v news hp hc
  clear hc
  unfold z29 at hp
  split at hp
  · rename_i a b
    exact Eq.trans (Eq.trans (ztn a b) (zpg (zmo a b) rfl a b (fun c0_ => some c0_))) (fin_out (o := (zmo a b)) (x := zby a b) (d := default) (V := fun r => ((AV.v (TV.one (At.bool r))), [])) (fun r => rfl) hp)
  · cases hp)
noncomputable def z0x : List PT → Option (Bool × AV × List Blk)
  | [.agg [.row 1 q00 (.fl .f32 q03), .row 1 q02 (.fl .f32 q05), .row 1 q01 (.fl .f32 q04), .row 3 q06 (.fl .f32 q08), .s (.int .i64 q0d), .s (.flt .f32 q0g), .s (.flt .f32 q0f)], .one (.s (.int .i64 i))] => some ((zct q00 q03 q02 q05 q01 q04 q06 q08 q0d q0g q0f i), ((AV.v (TV.one (At.flt FloatKind.f32 (za3 q00 q03 q02 q05 q01 q04 q06 q08 q0d q0g q0f i)))), []))
  | _ => none
def zkx (q00 : Nat) (q03 : List Nat) (q02 : Nat) (q05 : List Nat) (q01 : Nat) (q04 : List Nat) (q06 : Nat) (q08 : List Nat) (q0d : Int) (q0g : Nat) (q0f : Nat) (i : Int) : Option (Nat) → Option (AV × List Blk)
  | some r => some ((AV.v (TV.one (At.flt FloatKind.f32 r))), [])
  | none => none
theorem zon (q00 : Nat) (q03 : List Nat) (q02 : Nat) (q05 : List Nat) (q01 : Nat) (q04 : List Nat) (q06 : Nat) (q08 : List Nat) (q0d : Int) (q0g : Nat) (q0f : Nat) (i : Int) : evFn Γ0 8 8 84 (impTs 0 [.agg [.row 1 q00 (.fl .f32 q03), .row 1 q02 (.fl .f32 q05), .row 1 q01 (.fl .f32 q04), .row 3 q06 (.fl .f32 q08), .s (.int .i64 q0d), .s (.flt .f32 q0g), .s (.flt .f32 q0f)], .one (.s (.int .i64 i))]).1 (impTs 0 [.agg [.row 1 q00 (.fl .f32 q03), .row 1 q02 (.fl .f32 q05), .row 1 q01 (.fl .f32 q04), .row 3 q06 (.fl .f32 q08), .s (.int .i64 q0d), .s (.flt .f32 q0g), .s (.flt .f32 q0f)], .one (.s (.int .i64 i))]).2 (expo (impTs 0 [.agg [.row 1 q00 (.fl .f32 q03), .row 1 q02 (.fl .f32 q05), .row 1 q01 (.fl .f32 q04), .row 3 q06 (.fl .f32 q08), .s (.int .i64 q0d), .s (.flt .f32 q0g), .s (.flt .f32 q0f)], .one (.s (.int .i64 i))]).2.length) = z8y q00 q03 q02 q05 q01 q04 q06 q08 q0d q0g q0f i (fun c0_ => some ((AV.v (TV.one (At.flt FloatKind.f32 c0_))), [])) := by kernel_rfl
theorem z0t : SumOne Try.prog 84 z0x := sum_of (Γ := Γ0) (fuel := 8) (d := 8) tyTab_ok (FnL.ok fnTab_ok _ _) (LpL.ok lt0_ok) (SumL.ok tb0_ok _) mixed (by
  intro pts v news hp hc
  clear hc
  unfold z0x at hp
  split at hp
  · rename_i q00 q03 q02 q05 q01 q04 q06 q08 q0d q0g q0f i
    exact Eq.trans (Eq.trans (zon q00 q03 q02 q05 q01 q04 q06 q08 q0d q0g q0f i) (zm5 (zkx q00 q03 q02 q05 q01 q04 q06 q08 q0d q0g q0f i) rfl q00 q03 q02 q05 q01 q04 q06 q08 q0d q0g q0f i (fun c0_ => some c0_))) (fin_out (o := (zkx q00 q03 q02 q05 q01 q04 q06 q08 q0d q0g q0f i)) (x := z90 q00 q03 q02 q05 q01 q04 q06 q08 q0d q0g q0f i) (d := default) (V := fun r => ((AV.v (TV.one (At.flt FloatKind.f32 r))), [])) (fun r => rfl) hp)
  · cases hp)
noncomputable def z3u : List PT → Option (Bool × AV × List Blk)
  | [.one (.s (.int .i64 n_)), .one (.s (.int .i64 low)), .one (.s (.int .i64 q1u))] => some ((zit n_ low q1u), ((AV.v (TV.one (At.bool (zhh n_ low q1u)))), []))
  | _ => none
def zq9 (n_ : Int) (low : Int) (q1u : Int) : Option (Bool) → Option (AV × List Blk)
  | some r => some ((AV.v (TV.one (At.bool r))), [])
  | none => none
theorem zva (n_ : Int) (low : Int) (q1u : Int) : evFn Γ0 8 8 89 (impTs 0 [.one (.s (.int .i64 n_)), .one (.s (.int .i64 low)), .one (.s (.int .i64 q1u))]).1 (impTs 0 [.one (.s (.int .i64 n_)), .one (.s (.int .i64 low)), .one (.s (.int .i64 q1u))]).2 (expo (impTs 0 [.one (.s (.int .i64 n_)), .one (.s (.int .i64 low)), .one (.s (.int .i64 q1u))]).2.length) = zff n_ low q1u (fun c0_ => some ((AV.v (TV.one (At.bool c0_))), [])) := by kernel_rfl
theorem z2x : SumOne Try.prog 89 z3u := sum_of (Γ := Γ0) (fuel := 8) (d := 8) tyTab_ok (FnL.ok fnTab_ok _ _) (LpL.ok lt0_ok) (SumL.ok tb0_ok _) mixed (by
  intro pts v news hp hc
  clear hc
  unfold z3u at hp
  split at hp
  · rename_i n_ low q1u
    exact Eq.trans (Eq.trans (zva n_ low q1u) (zrx (zq9 n_ low q1u) rfl n_ low q1u (fun c0_ => some c0_))) (fin_out (o := (zq9 n_ low q1u)) (x := zfj n_ low q1u) (d := default) (V := fun r => ((AV.v (TV.one (At.bool r))), [])) (fun r => rfl) hp)
  · cases hp)
noncomputable def z63 : List PT → Option (Bool × AV × List Blk)
  | [] => some (zl9, ((AV.v (TV.one (At.flt FloatKind.f64 zj1))), []))
  | _ => none
def ztv  : Option (Nat) → Option (AV × List Blk)
  | some r => some ((AV.v (TV.one (At.flt FloatKind.f64 r))), [])
  | none => none
theorem zvm  : evFn Γ0 8 8 102 (impTs 0 []).1 (impTs 0 []).2 (expo (impTs 0 []).2.length) = zk7 (fun c0_ => some ((AV.v (TV.one (At.flt FloatKind.f64 c0_))), [])) := by kernel_rfl
theorem z4q : SumOne Try.prog 102 z63 := sum_of (Γ := Γ0) (fuel := 8) (d := 8) tyTab_ok (FnL.ok fnTab_ok _ _) (LpL.ok lt0_ok) (SumL.ok tb0_ok _) mixed (by
  intro pts v news hp hc
  clear hc
  unfold z63 at hp
  split at hp
  · exact Eq.trans (Eq.trans (zvm) (zuk ztv rfl  (fun c0_ => some c0_))) (fin_out (o := ztv) (x := zkd) (d := default) (V := fun r => ((AV.v (TV.one (At.flt FloatKind.f64 r))), [])) (fun r => rfl) hp)
  · cases hp)
noncomputable def z1y : List PT → Option (Bool × AV × List Blk)
  | [.one (.row 3 a_n (.fl .f32 a)), .one (.s (.int .i64 q2c))] => some ((zgs a_n a q2c), ((AV.v (TV.one (At.int IntKind.i64 (zcr a_n a q2c)))), []))
  | _ => none
def zlw (a_n : Nat) (a : List Nat) (q2c : Int) : Option (Int) → Option (AV × List Blk)
  | some r => some ((AV.v (TV.one (At.int IntKind.i64 r))), [])
  | none => none
theorem zs4 (a_n : Nat) (a : List Nat) (q2c : Int) : evFn Γ0 8 8 112 (impTs 0 [.one (.row 3 a_n (.fl .f32 a)), .one (.s (.int .i64 q2c))]).1 (impTs 0 [.one (.row 3 a_n (.fl .f32 a)), .one (.s (.int .i64 q2c))]).2 (expo (impTs 0 [.one (.row 3 a_n (.fl .f32 a)), .one (.s (.int .i64 q2c))]).2.length) = zb0 a_n a q2c (fun c0_ => some ((AV.v (TV.one (At.int IntKind.i64 c0_))), [])) := by kernel_rfl
theorem z1c : SumOne Try.prog 112 z1y := sum_of (Γ := Γ0) (fuel := 8) (d := 8) tyTab_ok (FnL.ok fnTab_ok _ _) (LpL.ok lt0_ok) (SumL.ok tb0_ok _) mixed (by
  intro pts v news hp hc
  clear hc
  unfold z1y at hp
  split at hp
  · rename_i a_n a q2c
    exact Eq.trans (Eq.trans (zs4 a_n a q2c) (zol (zlw a_n a q2c) rfl a_n a q2c (fun c0_ => some c0_))) (fin_out (o := (zlw a_n a q2c)) (x := zb8 a_n a q2c) (d := default) (V := fun r => ((AV.v (TV.one (At.int IntKind.i64 r))), [])) (fun r => rfl) hp)
  · cases hp)
noncomputable def z2a : List PT → Option (Bool × AV × List Blk)
  | [.one (.s (.flt .f32 x))] => some ((z5n x), ((AV.v (TV.one (At.bool (z52 x)))), []))
  | _ => none
def zmt (x : Nat) : Option (Bool) → Option (AV × List Blk)
  | some r => some ((AV.v (TV.one (At.bool r))), [])
  | none => none
theorem zt8 (x : Nat) : evFn Γ0 8 8 115 (impTs 0 [.one (.s (.flt .f32 x))]).1 (impTs 0 [.one (.s (.flt .f32 x))]).2 (expo (impTs 0 [.one (.s (.flt .f32 x))]).2.length) = zee x (fun c0_ => some ((AV.v (TV.one (At.bool c0_))), [])) := by kernel_rfl
theorem z1s : SumOne Try.prog 115 z2a := sum_of (Γ := Γ0) (fuel := 8) (d := 8) tyTab_ok (FnL.ok fnTab_ok _ _) (LpL.ok lt0_ok) (SumL.ok tb0_ok _) mixed (by
  intro pts v news hp hc
  clear hc
  unfold z2a at hp
  split at hp
  · rename_i x
    exact Eq.trans (Eq.trans (zt8 x) (zpp (zmt x) rfl x (fun c0_ => some c0_))) (fin_out (o := (zmt x)) (x := zeh x) (d := default) (V := fun r => ((AV.v (TV.one (At.bool r))), [])) (fun r => rfl) hp)
  · cases hp)
noncomputable def z2p : List PT → Option (Bool × AV × List Blk)
  | [.one (.s (.flt .f32 x)), .one (.s (.flt .f32 low)), .one (.s (.flt .f32 q1u))] => some ((zga x low q1u), ((AV.v (TV.one (At.bool (zef x low q1u)))), []))
  | _ => none
def zn9 (x : Nat) (low : Nat) (q1u : Nat) : Option (Bool) → Option (AV × List Blk)
  | some r => some ((AV.v (TV.one (At.bool r))), [])
  | none => none
theorem ztp (x : Nat) (low : Nat) (q1u : Nat) : evFn Γ0 8 8 123 (impTs 0 [.one (.s (.flt .f32 x)), .one (.s (.flt .f32 low)), .one (.s (.flt .f32 q1u))]).1 (impTs 0 [.one (.s (.flt .f32 x)), .one (.s (.flt .f32 low)), .one (.s (.flt .f32 q1u))]).2 (expo (impTs 0 [.one (.s (.flt .f32 x)), .one (.s (.flt .f32 low)), .one (.s (.flt .f32 q1u))]).2.length) = zd7 x low q1u (fun c0_ => some ((AV.v (TV.one (At.bool c0_))), [])) := by kernel_rfl
theorem z27 : SumOne Try.prog 123 z2p := sum_of (Γ := Γ0) (fuel := 8) (d := 8) tyTab_ok (FnL.ok fnTab_ok _ _) (LpL.ok lt0_ok) (SumL.ok tb0_ok _) mixed (by
  intro pts v news hp hc
  clear hc
  unfold z2p at hp
  split at hp
  · rename_i x low q1u
    exact Eq.trans (Eq.trans (ztp x low q1u) (zqo (zn9 x low q1u) rfl x low q1u (fun c0_ => some c0_))) (fin_out (o := (zn9 x low q1u)) (x := zd1 x low q1u) (d := default) (V := fun r => ((AV.v (TV.one (At.bool r))), [])) (fun r => rfl) hp)
  · cases hp)
noncomputable def z4h : List PT → Option (Bool × AV × List Blk)
  | [.one (.s (.flt .f32 a)), .one (.s (.flt .f32 b)), .one (.s (.flt .f32 q34))] => some ((zjw a b q34), ((AV.v (TV.one (At.flt FloatKind.f32 (ziw a b q34)))), []))
  | _ => none
def zr6 (a : Nat) (b : Nat) (q34 : Nat) : Option (Nat) → Option (AV × List Blk)
  | some r => some ((AV.v (TV.one (At.flt FloatKind.f32 r))), [])
  | none => none
theorem zve (a : Nat) (b : Nat) (q34 : Nat) : evFn Γ0 8 8 126 (impTs 0 [.one (.s (.flt .f32 a)), .one (.s (.flt .f32 b)), .one (.s (.flt .f32 q34))]).1 (impTs 0 [.one (.s (.flt .f32 a)), .one (.s (.flt .f32 b)), .one (.s (.flt .f32 q34))]).2 (expo (impTs 0 [.one (.s (.flt .f32 a)), .one (.s (.flt .f32 b)), .one (.s (.flt .f32 q34))]).2.length) = zjv a b q34 (fun c0_ => some ((AV.v (TV.one (At.flt FloatKind.f32 c0_))), [])) := by kernel_rfl
theorem z3h : SumOne Try.prog 126 z4h := sum_of (Γ := Γ0) (fuel := 8) (d := 8) tyTab_ok (FnL.ok fnTab_ok _ _) (LpL.ok lt0_ok) (SumL.ok tb0_ok _) mixed (by
  intro pts v news hp hc
  clear hc
  unfold z4h at hp
  split at hp
  · rename_i a b q34
    exact Eq.trans (Eq.trans (zve a b q34) (zt4 (zr6 a b q34) rfl a b q34 (fun c0_ => some c0_))) (fin_out (o := (zr6 a b q34)) (x := zjp a b q34) (d := default) (V := fun r => ((AV.v (TV.one (At.flt FloatKind.f32 r))), [])) (fun r => rfl) hp)
  · cases hp)
noncomputable def z62 : List PT → Option (Bool × AV × List Blk)
  | [.one (.s (.flt .f64 x))] => some ((zm6 x), ((AV.v (TV.one (At.flt FloatKind.f64 (zli x)))), []))
  | _ => none
def zub (x : Nat) : Option (Nat) → Option (AV × List Blk)
  | some r => some ((AV.v (TV.one (At.flt FloatKind.f64 r))), [])
  | none => none
theorem zvl (x : Nat) : evFn Γ0 8 8 157 (impTs 0 [.one (.s (.flt .f64 x))]).1 (impTs 0 [.one (.s (.flt .f64 x))]).2 (expo (impTs 0 [.one (.s (.flt .f64 x))]).2.length) = zk3 x (fun c0_ => some ((AV.v (TV.one (At.flt FloatKind.f64 c0_))), [])) := by kernel_rfl
theorem z4r : SumOne Try.prog 157 z62 := sum_of (Γ := Γ0) (fuel := 8) (d := 8) tyTab_ok (FnL.ok fnTab_ok _ _) (LpL.ok lt0_ok) (SumL.ok tb0_ok _) mixed (by
  intro pts v news hp hc
  clear hc
  unfold z62 at hp
  split at hp
  · rename_i x
    exact Eq.trans (Eq.trans (zvl x) (zul (zub x) rfl x (fun c0_ => some c0_))) (fin_out (o := (zub x)) (x := zkb x) (d := default) (V := fun r => ((AV.v (TV.one (At.flt FloatKind.f64 r))), [])) (fun r => rfl) hp)
  · cases hp)
noncomputable def z1x : List PT → Option (Bool × AV × List Blk)
  | [.one (.row 1 a_n (.fl .f32 a)), .one (.s (.int .i64 q2c))] => some ((zbi a_n a q2c), ((AV.v (TV.one (At.int IntKind.i64 (z4i a_n a q2c)))), []))
  | _ => none
def zlt (a_n : Nat) (a : List Nat) (q2c : Int) : Option (Int) → Option (AV × List Blk)
  | some r => some ((AV.v (TV.one (At.int IntKind.i64 r))), [])
  | none => none
theorem zsh (a_n : Nat) (a : List Nat) (q2c : Int) : evFn Γ0 8 8 160 (impTs 0 [.one (.row 1 a_n (.fl .f32 a)), .one (.s (.int .i64 q2c))]).1 (impTs 0 [.one (.row 1 a_n (.fl .f32 a)), .one (.s (.int .i64 q2c))]).2 (expo (impTs 0 [.one (.row 1 a_n (.fl .f32 a)), .one (.s (.int .i64 q2c))]).2.length) = zba a_n a q2c (fun c0_ => some ((AV.v (TV.one (At.int IntKind.i64 c0_))), [])) := by kernel_rfl
theorem z1f : SumOne Try.prog 160 z1x := sum_of (Γ := Γ0) (fuel := 8) (d := 8) tyTab_ok (FnL.ok fnTab_ok _ _) (LpL.ok lt0_ok) (SumL.ok tb0_ok _) mixed (by
  intro pts v news hp hc
  clear hc
  unfold z1x at hp
  split at hp
  · rename_i a_n a q2c
    exact Eq.trans (Eq.trans (zsh a_n a q2c) (zp1 (zlt a_n a q2c) rfl a_n a q2c (fun c0_ => some c0_))) (fin_out (o := (zlt a_n a q2c)) (x := zb2 a_n a q2c) (d := default) (V := fun r => ((AV.v (TV.one (At.int IntKind.i64 r))), [])) (fun r => rfl) hp)
  · cases hp)
noncomputable def z4j : List PT → Option (Bool × AV × List Blk)
  | [.one (.s (.int .i64 n_)), .one (.s (.int .i64 low)), .one (.s (.int .i64 q1u))] => some ((zjt n_ low q1u), ((AV.v (TV.one (At.bool (ziy n_ low q1u)))), []))
  | _ => none
def zr2 (n_ : Int) (low : Int) (q1u : Int) : Option (Bool) → Option (AV × List Blk)
  | some r => some ((AV.v (TV.one (At.bool r))), [])
  | none => none
theorem zvd (n_ : Int) (low : Int) (q1u : Int) : evFn Γ0 8 8 162 (impTs 0 [.one (.s (.int .i64 n_)), .one (.s (.int .i64 low)), .one (.s (.int .i64 q1u))]).1 (impTs 0 [.one (.s (.int .i64 n_)), .one (.s (.int .i64 low)), .one (.s (.int .i64 q1u))]).2 (expo (impTs 0 [.one (.s (.int .i64 n_)), .one (.s (.int .i64 low)), .one (.s (.int .i64 q1u))]).2.length) = zi6 n_ low q1u (fun c0_ => some ((AV.v (TV.one (At.bool c0_))), [])) := by kernel_rfl
theorem z3f : SumOne Try.prog 162 z4j := sum_of (Γ := Γ0) (fuel := 8) (d := 8) tyTab_ok (FnL.ok fnTab_ok _ _) (LpL.ok lt0_ok) (SumL.ok tb0_ok _) mixed (by
  intro pts v news hp hc
  clear hc
  unfold z4j at hp
  split at hp
  · rename_i n_ low q1u
    exact Eq.trans (Eq.trans (zvd n_ low q1u) (zt2 (zr2 n_ low q1u) rfl n_ low q1u (fun c0_ => some c0_))) (fin_out (o := (zr2 n_ low q1u)) (x := zi5 n_ low q1u) (d := default) (V := fun r => ((AV.v (TV.one (At.bool r))), [])) (fun r => rfl) hp)
  · cases hp)
noncomputable def z28 : List PT → Option (Bool × AV × List Blk)
  | [.agg [.s (.flt .f32 q2i), .s (.flt .f32 q2j), .s (.flt .f32 q2k)]] => some ((zks q2i q2j q2k), ((AV.v (TV.agg [(At.flt FloatKind.f32 q2i), (At.flt FloatKind.f32 q2j), (At.flt FloatKind.f32 q2k)])), []))
  | _ => none
def zmd (q2i : Nat) (q2j : Nat) (q2k : Nat) : Option (Unit) → Option (AV × List Blk)
  | some r => some ((AV.v (TV.agg [(At.flt FloatKind.f32 q2i), (At.flt FloatKind.f32 q2j), (At.flt FloatKind.f32 q2k)])), [])
  | none => none
theorem zt9 (q2i : Nat) (q2j : Nat) (q2k : Nat) : evFn Γ0 8 8 167 (impTs 0 [.agg [.s (.flt .f32 q2i), .s (.flt .f32 q2j), .s (.flt .f32 q2k)]]).1 (impTs 0 [.agg [.s (.flt .f32 q2i), .s (.flt .f32 q2j), .s (.flt .f32 q2k)]]).2 (expo (impTs 0 [.agg [.s (.flt .f32 q2i), .s (.flt .f32 q2j), .s (.flt .f32 q2k)]]).2.length) = zeb q2i q2j q2k (fun _ => some ((AV.v (TV.agg [(At.flt FloatKind.f32 q2i), (At.flt FloatKind.f32 q2j), (At.flt FloatKind.f32 q2k)])), [])) := by kernel_rfl
theorem z1t : SumOne Try.prog 167 z28 := sum_of (Γ := Γ0) (fuel := 8) (d := 8) tyTab_ok (FnL.ok fnTab_ok _ _) (LpL.ok lt0_ok) (SumL.ok tb0_ok _) mixed (by
  intro pts v news hp hc
  clear hc
  unfold z28 at hp
  split at hp
  · rename_i q2i q2j q2k
    exact Eq.trans (Eq.trans (zt9 q2i q2j q2k) (zpr (zmd q2i q2j q2k) rfl q2i q2j q2k (fun _ => some ()))) (fin_out (o := (zmd q2i q2j q2k)) (x := zm8 q2i q2j q2k) (d := default) (V := fun r => ((AV.v (TV.agg [(At.flt FloatKind.f32 q2i), (At.flt FloatKind.f32 q2j), (At.flt FloatKind.f32 q2k)])), [])) (fun r => rfl) hp)
  · cases hp)
noncomputable def z3t : List PT → Option (Bool × AV × List Blk)
  | [.ptr [.row 1 q00 (.fl .f32 q03), .row 1 q02 (.fl .f32 q05), .row 1 q01 (.fl .f32 q04), .row 3 q06 (.fl .f32 q08), .s (.int .i64 q0d), .s (.flt .f32 q0g), .s (.flt .f32 q0f)], .one (.s (.int .i64 i)), .one (.s (.flt .f32 q35))] => some ((zkp q00 q03 q02 q05 q01 q04 q06 q08 q0d q0g q0f i q35), ((AV.v (TV.one (At.flt FloatKind.f32 (zi3 q00 q03 q02 q05 q01 q04 q06 q08 q0d q0g q0f i q35)))), []))
  | _ => none
def zq4 (q00 : Nat) (q03 : List Nat) (q02 : Nat) (q05 : List Nat) (q01 : Nat) (q04 : List Nat) (q06 : Nat) (q08 : List Nat) (q0d : Int) (q0g : Nat) (q0f : Nat) (i : Int) (q35 : Nat) : Option (Nat) → Option (AV × List Blk)
  | some r => some ((AV.v (TV.one (At.flt FloatKind.f32 r))), [])
  | none => none
theorem zv3 (q00 : Nat) (q03 : List Nat) (q02 : Nat) (q05 : List Nat) (q01 : Nat) (q04 : List Nat) (q06 : Nat) (q08 : List Nat) (q0d : Int) (q0g : Nat) (q0f : Nat) (i : Int) (q35 : Nat) : evFn Γ0 8 8 175 (impTs 0 [.ptr [.row 1 q00 (.fl .f32 q03), .row 1 q02 (.fl .f32 q05), .row 1 q01 (.fl .f32 q04), .row 3 q06 (.fl .f32 q08), .s (.int .i64 q0d), .s (.flt .f32 q0g), .s (.flt .f32 q0f)], .one (.s (.int .i64 i)), .one (.s (.flt .f32 q35))]).1 (impTs 0 [.ptr [.row 1 q00 (.fl .f32 q03), .row 1 q02 (.fl .f32 q05), .row 1 q01 (.fl .f32 q04), .row 3 q06 (.fl .f32 q08), .s (.int .i64 q0d), .s (.flt .f32 q0g), .s (.flt .f32 q0f)], .one (.s (.int .i64 i)), .one (.s (.flt .f32 q35))]).2 (expo (impTs 0 [.ptr [.row 1 q00 (.fl .f32 q03), .row 1 q02 (.fl .f32 q05), .row 1 q01 (.fl .f32 q04), .row 3 q06 (.fl .f32 q08), .s (.int .i64 q0d), .s (.flt .f32 q0g), .s (.flt .f32 q0f)], .one (.s (.int .i64 i)), .one (.s (.flt .f32 q35))]).2.length) = zfh q00 q03 q02 q05 q01 q04 q06 q08 q0d q0g q0f i q35 (fun c0_ => some ((AV.v (TV.one (At.flt FloatKind.f32 c0_))), [])) := by kernel_rfl
theorem z2y : SumOne Try.prog 175 z3t := sum_of (Γ := Γ0) (fuel := 8) (d := 8) tyTab_ok (FnL.ok fnTab_ok _ _) (LpL.ok lt0_ok) (SumL.ok tb0_ok _) mixed (by
  intro pts v news hp hc
  clear hc
  unfold z3t at hp
  split at hp
  · rename_i q00 q03 q02 q05 q01 q04 q06 q08 q0d q0g q0f i q35
    exact Eq.trans (Eq.trans (zv3 q00 q03 q02 q05 q01 q04 q06 q08 q0d q0g q0f i q35) (zs6 (zq4 q00 q03 q02 q05 q01 q04 q06 q08 q0d q0g q0f i q35) rfl q00 q03 q02 q05 q01 q04 q06 q08 q0d q0g q0f i q35 (fun c0_ => some c0_))) (fin_out (o := (zq4 q00 q03 q02 q05 q01 q04 q06 q08 q0d q0g q0f i q35)) (x := zf8 q00 q03 q02 q05 q01 q04 q06 q08 q0d q0g q0f i q35) (d := default) (V := fun r => ((AV.v (TV.one (At.flt FloatKind.f32 r))), [])) (fun r => rfl) hp)
  · cases hp)
noncomputable def z1o : List PT → Option (Bool × AV × List Blk)
  | [.ptr [.row 1 q00 (.fl .f32 q03), .row 1 q02 (.fl .f32 q05), .row 1 q01 (.fl .f32 q04), .row 3 q06 (.fl .f32 q08), .s (.int .i64 q0d), .s (.flt .f32 q0g), .s (.flt .f32 q0f)], .one (.s (.int .i64 i))] => some ((zg1 q00 q03 q02 q05 q01 q04 q06 q08 q0d q0g q0f i), ((AV.v (TV.one (At.flt FloatKind.f32 (zbt q00 q03 q02 q05 q01 q04 q06 q08 q0d q0g q0f i)))), []))
  | _ => none
def zlj (q00 : Nat) (q03 : List Nat) (q02 : Nat) (q05 : List Nat) (q01 : Nat) (q04 : List Nat) (q06 : Nat) (q08 : List Nat) (q0d : Int) (q0g : Nat) (q0f : Nat) (i : Int) : Option (Nat) → Option (AV × List Blk)
  | some r => some ((AV.v (TV.one (At.flt FloatKind.f32 r))), [])
  | none => none
theorem zrm (q00 : Nat) (q03 : List Nat) (q02 : Nat) (q05 : List Nat) (q01 : Nat) (q04 : List Nat) (q06 : Nat) (q08 : List Nat) (q0d : Int) (q0g : Nat) (q0f : Nat) (i : Int) : evFn Γ0 8 8 176 (impTs 0 [.ptr [.row 1 q00 (.fl .f32 q03), .row 1 q02 (.fl .f32 q05), .row 1 q01 (.fl .f32 q04), .row 3 q06 (.fl .f32 q08), .s (.int .i64 q0d), .s (.flt .f32 q0g), .s (.flt .f32 q0f)], .one (.s (.int .i64 i))]).1 (impTs 0 [.ptr [.row 1 q00 (.fl .f32 q03), .row 1 q02 (.fl .f32 q05), .row 1 q01 (.fl .f32 q04), .row 3 q06 (.fl .f32 q08), .s (.int .i64 q0d), .s (.flt .f32 q0g), .s (.flt .f32 q0f)], .one (.s (.int .i64 i))]).2 (expo (impTs 0 [.ptr [.row 1 q00 (.fl .f32 q03), .row 1 q02 (.fl .f32 q05), .row 1 q01 (.fl .f32 q04), .row 3 q06 (.fl .f32 q08), .s (.int .i64 q0d), .s (.flt .f32 q0g), .s (.flt .f32 q0f)], .one (.s (.int .i64 i))]).2.length) = zac q00 q03 q02 q05 q01 q04 q06 q08 q0d q0g q0f i (fun c0_ => some ((AV.v (TV.one (At.flt FloatKind.f32 c0_))), [])) := by kernel_rfl
theorem z14 : SumOne Try.prog 176 z1o := sum_of (Γ := Γ0) (fuel := 8) (d := 8) tyTab_ok (FnL.ok fnTab_ok _ _) (LpL.ok lt0_ok) (SumL.ok tb0_ok _) mixed (by
  intro pts v news hp hc
  clear hc
  unfold z1o at hp
  split at hp
  · rename_i q00 q03 q02 q05 q01 q04 q06 q08 q0d q0g q0f i
    exact Eq.trans (Eq.trans (zrm q00 q03 q02 q05 q01 q04 q06 q08 q0d q0g q0f i) (znl (zlj q00 q03 q02 q05 q01 q04 q06 q08 q0d q0g q0f i) rfl q00 q03 q02 q05 q01 q04 q06 q08 q0d q0g q0f i (fun c0_ => some c0_))) (fin_out (o := (zlj q00 q03 q02 q05 q01 q04 q06 q08 q0d q0g q0f i)) (x := zaa q00 q03 q02 q05 q01 q04 q06 q08 q0d q0g q0f i) (d := default) (V := fun r => ((AV.v (TV.one (At.flt FloatKind.f32 r))), [])) (fun r => rfl) hp)
  · cases hp)
noncomputable def z2b : List PT → Option (Bool × AV × List Blk)
  | [.one (.s (.flt .f64 x))] => some ((zea x), ((AV.v (TV.one (At.flt FloatKind.f32 (zbb x)))), []))
  | _ => none
def zmr (x : Nat) : Option (Nat) → Option (AV × List Blk)
  | some r => some ((AV.v (TV.one (At.flt FloatKind.f32 r))), [])
  | none => none
theorem ztc (x : Nat) : evFn Γ0 8 8 187 (impTs 0 [.one (.s (.flt .f64 x))]).1 (impTs 0 [.one (.s (.flt .f64 x))]).2 (expo (impTs 0 [.one (.s (.flt .f64 x))]).2.length) = zcg x (fun c0_ => some ((AV.v (TV.one (At.flt FloatKind.f32 c0_))), [])) := by kernel_rfl
theorem z1r : SumOne Try.prog 187 z2b := sum_of (Γ := Γ0) (fuel := 8) (d := 8) tyTab_ok (FnL.ok fnTab_ok _ _) (LpL.ok lt0_ok) (SumL.ok tb0_ok _) mixed (by
  intro pts v news hp hc
  clear hc
  unfold z2b at hp
  split at hp
  · rename_i x
    exact Eq.trans (Eq.trans (ztc x) (zpw (zmr x) rfl x (fun c0_ => some c0_))) (fin_out (o := (zmr x)) (x := zc7 x) (d := default) (V := fun r => ((AV.v (TV.one (At.flt FloatKind.f32 r))), [])) (fun r => rfl) hp)
  · cases hp)
noncomputable def tb1 : List (Nat × (List PT → Option (Bool × AV × List Blk))) := [(156, z0s), (181, z1a), (182, z22), (189, z21), (26, z2r), (55, z29), (84, z0x), (89, z3u), (102, z63), (112, z1y), (115, z2a), (123, z2p), (126, z4h), (157, z62), (160, z1x), (162, z4j), (167, z28), (175, z3t), (176, z1o), (187, z2b)]
noncomputable def lt1 : List ((Nat × Nat) × (Nat → St → Option (Bool × LO))) := []
noncomputable def Γ1 : Ctx := ⟨tyTab, fnTab, tblSum tb1, tblLp lt1⟩
theorem tb1_ok : SumL Try.prog tb1 := SumL.cons z0r (SumL.cons z11 (SumL.cons z1i (SumL.cons z1j (SumL.cons z26 (SumL.cons z1u (SumL.cons z0t (SumL.cons z2x (SumL.cons z4q (SumL.cons z1c (SumL.cons z1s (SumL.cons z27 (SumL.cons z3h (SumL.cons z4r (SumL.cons z1f (SumL.cons z3f (SumL.cons z1t (SumL.cons z2y (SumL.cons z14 (SumL.cons z1r (SumL.nil))))))))))))))))))))
theorem lt1_ok : LpL Try.prog fnTab lt1 := LpL.nil
noncomputable def z3m : List PT → Option (Bool × AV × List Blk)
  | [.one (.s (.flt .f32 x))] => some ((zk9 x), ((AV.tup [(TV.one (At.flt FloatKind.f32 (zjh x))), (TV.one (At.bool (zji x)))]), []))
  | _ => none
def zoj (x : Nat) : Option (Nat × Bool) → Option (AV × List Blk)
  | some r => some ((AV.tup [(TV.one (At.flt FloatKind.f32 r.1)), (TV.one (At.bool r.2))]), [])
  | none => none
theorem zux (x : Nat) : evFn Γ1 8 8 74 (impTs 0 [.one (.s (.flt .f32 x))]).1 (impTs 0 [.one (.s (.flt .f32 x))]).2 (expo (impTs 0 [.one (.s (.flt .f32 x))]).2.length) = ze0 x (fun c0_ c1_ => some ((AV.tup [(TV.one (At.flt FloatKind.f32 c0_)), (TV.one (At.bool c1_))]), [])) := by kernel_rfl
theorem z2v : SumOne Try.prog 74 z3m := sum_of (Γ := Γ1) (fuel := 8) (d := 8) tyTab_ok (FnL.ok fnTab_ok _ _) (LpL.ok lt1_ok) (SumL.ok tb1_ok _) mixed (by
  intro pts v news hp hc
  clear hc
  unfold z3m at hp
  split at hp
  · rename_i x
    exact Eq.trans (Eq.trans (zux x) (zro (zoj x) rfl x (fun c0_ c1_ => some (c0_, c1_)))) (fin_out (o := (zoj x)) (x := zbv x) (d := default) (V := fun r => ((AV.tup [(TV.one (At.flt FloatKind.f32 r.1)), (TV.one (At.bool r.2))]), [])) (fun r => rfl) hp)
  · cases hp)
noncomputable def z0w : List PT → Option (Bool × AV × List Blk)
  | [.agg [.row 1 q00 (.fl .f32 q03), .row 1 q02 (.fl .f32 q05), .row 1 q01 (.fl .f32 q04), .row 3 q06 (.fl .f32 q08), .s (.int .i64 q0d), .s (.flt .f32 q0g), .s (.flt .f32 q0f)], .one (.s (.int .i64 i))] => some ((zcq q00 q03 q02 q05 q01 q04 q06 q08 q0d q0g q0f i), ((AV.v (TV.one (At.bool (zbq q00 q03 q02 q05 q01 q04 q06 q08 q0d q0g q0f i)))), []))
  | _ => none
def zkj (q00 : Nat) (q03 : List Nat) (q02 : Nat) (q05 : List Nat) (q01 : Nat) (q04 : List Nat) (q06 : Nat) (q08 : List Nat) (q0d : Int) (q0g : Nat) (q0f : Nat) (i : Int) : Option (Bool) → Option (AV × List Blk)
  | some r => some ((AV.v (TV.one (At.bool r))), [])
  | none => none
theorem znv (q00 : Nat) (q03 : List Nat) (q02 : Nat) (q05 : List Nat) (q01 : Nat) (q04 : List Nat) (q06 : Nat) (q08 : List Nat) (q0d : Int) (q0g : Nat) (q0f : Nat) (i : Int) : evFn Γ1 8 8 83 (impTs 0 [.agg [.row 1 q00 (.fl .f32 q03), .row 1 q02 (.fl .f32 q05), .row 1 q01 (.fl .f32 q04), .row 3 q06 (.fl .f32 q08), .s (.int .i64 q0d), .s (.flt .f32 q0g), .s (.flt .f32 q0f)], .one (.s (.int .i64 i))]).1 (impTs 0 [.agg [.row 1 q00 (.fl .f32 q03), .row 1 q02 (.fl .f32 q05), .row 1 q01 (.fl .f32 q04), .row 3 q06 (.fl .f32 q08), .s (.int .i64 q0d), .s (.flt .f32 q0g), .s (.flt .f32 q0f)], .one (.s (.int .i64 i))]).2 (expo (impTs 0 [.agg [.row 1 q00 (.fl .f32 q03), .row 1 q02 (.fl .f32 q05), .row 1 q01 (.fl .f32 q04), .row 3 q06 (.fl .f32 q08), .s (.int .i64 q0d), .s (.flt .f32 q0g), .s (.flt .f32 q0f)], .one (.s (.int .i64 i))]).2.length) = z8k q00 q03 q02 q05 q01 q04 q06 q08 q0d q0g q0f i (fun c0_ => some ((AV.v (TV.one (At.bool c0_))), [])) := by kernel_rfl
theorem z0v : SumOne Try.prog 83 z0w := sum_of (Γ := Γ1) (fuel := 8) (d := 8) tyTab_ok (FnL.ok fnTab_ok _ _) (LpL.ok lt1_ok) (SumL.ok tb1_ok _) mixed (by
  intro pts v news hp hc
  clear hc
  unfold z0w at hp
  split at hp
  · rename_i q00 q03 q02 q05 q01 q04 q06 q08 q0d q0g q0f i
    exact Eq.trans (Eq.trans (znv q00 q03 q02 q05 q01 q04 q06 q08 q0d q0g q0f i) (zlo (zkj q00 q03 q02 q05 q01 q04 q06 q08 q0d q0g q0f i) rfl q00 q03 q02 q05 q01 q04 q06 q08 q0d q0g q0f i (fun c0_ => some c0_))) (fin_out (o := (zkj q00 q03 q02 q05 q01 q04 q06 q08 q0d q0g q0f i)) (x := z8n q00 q03 q02 q05 q01 q04 q06 q08 q0d q0g q0f i) (d := default) (V := fun r => ((AV.v (TV.one (At.bool r))), [])) (fun r => rfl) hp)
  · cases hp)
noncomputable def z46 : List PT → Option (Bool × AV × List Blk)
  | [.one (.s (.flt .f32 q16))] => some ((zkr q16), ((AV.v (TV.one (At.bool (zke q16)))), []))
  | _ => none
def zq7 (q16 : Nat) : Option (Bool) → Option (AV × List Blk)
  | some r => some ((AV.v (TV.one (At.bool r))), [])
  | none => none
theorem zv7 (q16 : Nat) : evFn Γ1 8 8 85 (impTs 0 [.one (.s (.flt .f32 q16))]).1 (impTs 0 [.one (.s (.flt .f32 q16))]).2 (expo (impTs 0 [.one (.s (.flt .f32 q16))]).2.length) = zfe q16 (fun c0_ => some ((AV.v (TV.one (At.bool c0_))), [])) := by kernel_rfl
theorem z3b : SumOne Try.prog 85 z46 := sum_of (Γ := Γ1) (fuel := 8) (d := 8) tyTab_ok (FnL.ok fnTab_ok _ _) (LpL.ok lt1_ok) (SumL.ok tb1_ok _) mixed (by
  intro pts v news hp hc
  clear hc
  unfold z46 at hp
  split at hp
  · rename_i q16
    exact Eq.trans (Eq.trans (zv7 q16) (zs3 (zq7 q16) rfl q16 (fun c0_ => some c0_))) (fin_out (o := (zq7 q16)) (x := zfg q16) (d := default) (V := fun r => ((AV.v (TV.one (At.bool r))), [])) (fun r => rfl) hp)
  · cases hp)
noncomputable def z3l : List PT → Option (Bool × AV × List Blk)
  | [.one (.s (.flt .f32 x))] => some ((zhx x), ((AV.v (TV.one (At.bool (zg8 x)))), []))
  | _ => none
def zoo (x : Nat) : Option (Bool) → Option (AV × List Blk)
  | some r => some ((AV.v (TV.one (At.bool r))), [])
  | none => none
theorem zuz (x : Nat) : evFn Γ1 8 8 90 (impTs 0 [.one (.s (.flt .f32 x))]).1 (impTs 0 [.one (.s (.flt .f32 x))]).2 (expo (impTs 0 [.one (.s (.flt .f32 x))]).2.length) = zds x (fun c0_ => some ((AV.v (TV.one (At.bool c0_))), [])) := by kernel_rfl
theorem z2w : SumOne Try.prog 90 z3l := sum_of (Γ := Γ1) (fuel := 8) (d := 8) tyTab_ok (FnL.ok fnTab_ok _ _) (LpL.ok lt1_ok) (SumL.ok tb1_ok _) mixed (by
  intro pts v news hp hc
  clear hc
  unfold z3l at hp
  split at hp
  · rename_i x
    exact Eq.trans (Eq.trans (zuz x) (zr7 (zoo x) rfl x (fun c0_ => some c0_))) (fin_out (o := (zoo x)) (x := zdv x) (d := default) (V := fun r => ((AV.v (TV.one (At.bool r))), [])) (fun r => rfl) hp)
  · cases hp)
noncomputable def z47 : List PT → Option (Bool × AV × List Blk)
  | [.one (.s (.flt .f64 x))] => some ((zkq x), ((AV.v (TV.one (At.bool (zk0 x)))), []))
  | _ => none
def zq5 (x : Nat) : Option (Bool) → Option (AV × List Blk)
  | some r => some ((AV.v (TV.one (At.bool r))), [])
  | none => none
theorem zv9 (x : Nat) : evFn Γ1 8 8 103 (impTs 0 [.one (.s (.flt .f64 x))]).1 (impTs 0 [.one (.s (.flt .f64 x))]).2 (expo (impTs 0 [.one (.s (.flt .f64 x))]).2.length) = zfc x (fun c0_ => some ((AV.v (TV.one (At.bool c0_))), [])) := by kernel_rfl
theorem z38 : SumOne Try.prog 103 z47 := sum_of (Γ := Γ1) (fuel := 8) (d := 8) tyTab_ok (FnL.ok fnTab_ok _ _) (LpL.ok lt1_ok) (SumL.ok tb1_ok _) mixed (by
  intro pts v news hp hc
  clear hc
  unfold z47 at hp
  split at hp
  · rename_i x
    exact Eq.trans (Eq.trans (zv9 x) (zrz (zq5 x) rfl x (fun c0_ => some c0_))) (fin_out (o := (zq5 x)) (x := zfi x) (d := default) (V := fun r => ((AV.v (TV.one (At.bool r))), [])) (fun r => rfl) hp)
  · cases hp)
noncomputable def z2m : List PT → Option (Bool × AV × List Blk)
  | [.agg [.row 1 q19 (.fl .f32 q1t), .row 1 q1h (.fl .f32 q1w), .row 1 q1k (.fl .f32 q1y)], .one (.s (.int .i64 q2c))] => some ((zih q19 q1t q1h q1w q1k q1y q2c), ((AV.v (TV.one (At.int IntKind.i64 (z9o q19 q1t q1h q1w q1k q1y q2c)))), []))
  | _ => none
def zme (q19 : Nat) (q1t : List Nat) (q1h : Nat) (q1w : List Nat) (q1k : Nat) (q1y : List Nat) (q2c : Int) : Option (Int) → Option (AV × List Blk)
  | some r => some ((AV.v (TV.one (At.int IntKind.i64 r))), [])
  | none => none
theorem zsw (q19 : Nat) (q1t : List Nat) (q1h : Nat) (q1w : List Nat) (q1k : Nat) (q1y : List Nat) (q2c : Int) : evFn Γ1 8 8 111 (impTs 0 [.agg [.row 1 q19 (.fl .f32 q1t), .row 1 q1h (.fl .f32 q1w), .row 1 q1k (.fl .f32 q1y)], .one (.s (.int .i64 q2c))]).1 (impTs 0 [.agg [.row 1 q19 (.fl .f32 q1t), .row 1 q1h (.fl .f32 q1w), .row 1 q1k (.fl .f32 q1y)], .one (.s (.int .i64 q2c))]).2 (expo (impTs 0 [.agg [.row 1 q19 (.fl .f32 q1t), .row 1 q1h (.fl .f32 q1w), .row 1 q1k (.fl .f32 q1y)], .one (.s (.int .i64 q2c))]).2.length) = zci q19 q1t q1h q1w q1k q1y q2c (fun c0_ => some ((AV.v (TV.one (At.int IntKind.i64 c0_))), [])) := by kernel_rfl
theorem z23 : SumOne Try.prog 111 z2m := sum_of (Γ := Γ1) (fuel := 8) (d := 8) tyTab_ok (FnL.ok fnTab_ok _ _) (LpL.ok lt1_ok) (SumL.ok tb1_ok _) mixed (by
  intro pts v news hp hc
  clear hc
  unfold z2m at hp
  split at hp
  · rename_i q19 q1t q1h q1w q1k q1y q2c
    exact Eq.trans (Eq.trans (zsw q19 q1t q1h q1w q1k q1y q2c) (zp2 (zme q19 q1t q1h q1w q1k q1y q2c) rfl q19 q1t q1h q1w q1k q1y q2c (fun c0_ => some c0_))) (fin_out (o := (zme q19 q1t q1h q1w q1k q1y q2c)) (x := zcm q19 q1t q1h q1w q1k q1y q2c) (d := default) (V := fun r => ((AV.v (TV.one (At.int IntKind.i64 r))), [])) (fun r => rfl) hp)
  · cases hp)
noncomputable def z31 : List PT → Option (Bool × AV × List Blk)
  | [.ptr [.row 1 q00 (.fl .f32 q03), .row 1 q02 (.fl .f32 q05), .row 1 q01 (.fl .f32 q04), .row 3 q06 (.fl .f32 q08), .s (.int .i64 q0d), .s (.flt .f32 q0g), .s (.flt .f32 q0f)], .one (.s (.int .i64 i)), .one (.s (.flt .f32 q0h))] => some ((zj7 q00 q03 q02 q05 q01 q04 q06 q08 q0d q0g q0f i q0h), ((AV.v (TV.one (At.bool (zif q00 q03 q02 q05 q01 q04 q06 q08 q0d q0g q0f i q0h)))), []))
  | _ => none
def znd (q00 : Nat) (q03 : List Nat) (q02 : Nat) (q05 : List Nat) (q01 : Nat) (q04 : List Nat) (q06 : Nat) (q08 : List Nat) (q0d : Int) (q0g : Nat) (q0f : Nat) (i : Int) (q0h : Nat) : Option (Bool) → Option (AV × List Blk)
  | some r => some ((AV.v (TV.one (At.bool r))), [])
  | none => none
theorem zu1 (q00 : Nat) (q03 : List Nat) (q02 : Nat) (q05 : List Nat) (q01 : Nat) (q04 : List Nat) (q06 : Nat) (q08 : List Nat) (q0d : Int) (q0g : Nat) (q0f : Nat) (i : Int) (q0h : Nat) : evFn Γ1 8 8 116 (impTs 0 [.ptr [.row 1 q00 (.fl .f32 q03), .row 1 q02 (.fl .f32 q05), .row 1 q01 (.fl .f32 q04), .row 3 q06 (.fl .f32 q08), .s (.int .i64 q0d), .s (.flt .f32 q0g), .s (.flt .f32 q0f)], .one (.s (.int .i64 i)), .one (.s (.flt .f32 q0h))]).1 (impTs 0 [.ptr [.row 1 q00 (.fl .f32 q03), .row 1 q02 (.fl .f32 q05), .row 1 q01 (.fl .f32 q04), .row 3 q06 (.fl .f32 q08), .s (.int .i64 q0d), .s (.flt .f32 q0g), .s (.flt .f32 q0f)], .one (.s (.int .i64 i)), .one (.s (.flt .f32 q0h))]).2 (expo (impTs 0 [.ptr [.row 1 q00 (.fl .f32 q03), .row 1 q02 (.fl .f32 q05), .row 1 q01 (.fl .f32 q04), .row 3 q06 (.fl .f32 q08), .s (.int .i64 q0d), .s (.flt .f32 q0g), .s (.flt .f32 q0f)], .one (.s (.int .i64 i)), .one (.s (.flt .f32 q0h))]).2.length) = zcu q00 q03 q02 q05 q01 q04 q06 q08 q0d q0g q0f i q0h (fun c0_ => some ((AV.v (TV.one (At.bool c0_))), [])) := by kernel_rfl
theorem z2f : SumOne Try.prog 116 z31 := sum_of (Γ := Γ1) (fuel := 8) (d := 8) tyTab_ok (FnL.ok fnTab_ok _ _) (LpL.ok lt1_ok) (SumL.ok tb1_ok _) mixed (by
  intro pts v news hp hc
  clear hc
  unfold z31 at hp
  split at hp
  · rename_i q00 q03 q02 q05 q01 q04 q06 q08 q0d q0g q0f i q0h
    exact Eq.trans (Eq.trans (zu1 q00 q03 q02 q05 q01 q04 q06 q08 q0d q0g q0f i q0h) (zqr (znd q00 q03 q02 q05 q01 q04 q06 q08 q0d q0g q0f i q0h) rfl q00 q03 q02 q05 q01 q04 q06 q08 q0d q0g q0f i q0h (fun c0_ => some c0_))) (fin_out (o := (znd q00 q03 q02 q05 q01 q04 q06 q08 q0d q0g q0f i q0h)) (x := zd3 q00 q03 q02 q05 q01 q04 q06 q08 q0d q0g q0f i q0h) (d := default) (V := fun r => ((AV.v (TV.one (At.bool r))), [])) (fun r => rfl) hp)
  · cases hp)
noncomputable def z2z : List PT → Option (Bool × AV × List Blk)
  | [.one (.s (.flt .f32 x))] => some ((zcz x), ((AV.v (TV.one (At.bool (zbx x)))), []))
  | _ => none
def zn8 (x : Nat) : Option (Bool) → Option (AV × List Blk)
  | some r => some ((AV.v (TV.one (At.bool r))), [])
  | none => none
theorem zto (x : Nat) : evFn Γ1 8 8 138 (impTs 0 [.one (.s (.flt .f32 x))]).1 (impTs 0 [.one (.s (.flt .f32 x))]).2 (expo (impTs 0 [.one (.s (.flt .f32 x))]).2.length) = zd6 x (fun c0_ => some ((AV.v (TV.one (At.bool c0_))), [])) := by kernel_rfl
theorem z2i : SumOne Try.prog 138 z2z := sum_of (Γ := Γ1) (fuel := 8) (d := 8) tyTab_ok (FnL.ok fnTab_ok _ _) (LpL.ok lt1_ok) (SumL.ok tb1_ok _) mixed (by
  intro pts v news hp hc
  clear hc
  unfold z2z at hp
  split at hp
  · rename_i x
    exact Eq.trans (Eq.trans (zto x) (zqn (zn8 x) rfl x (fun c0_ => some c0_))) (fin_out (o := (zn8 x)) (x := zcw x) (d := default) (V := fun r => ((AV.v (TV.one (At.bool r))), [])) (fun r => rfl) hp)
  · cases hp)
noncomputable def z1v : List PT → Option (Bool × AV × List Blk)
  | [.one (.s (.flt .f32 x))] => some ((zfu x), ((AV.v (TV.one (At.bool (zeo x)))), []))
  | _ => none
def zlk (x : Nat) : Option (Bool) → Option (AV × List Blk)
  | some r => some ((AV.v (TV.one (At.bool r))), [])
  | none => none
theorem zrq (x : Nat) : evFn Γ1 8 8 148 (impTs 0 [.one (.s (.flt .f32 x))]).1 (impTs 0 [.one (.s (.flt .f32 x))]).2 (expo (impTs 0 [.one (.s (.flt .f32 x))]).2.length) = zai x (fun c0_ => some ((AV.v (TV.one (At.bool c0_))), [])) := by kernel_rfl
theorem z1b : SumOne Try.prog 148 z1v := sum_of (Γ := Γ1) (fuel := 8) (d := 8) tyTab_ok (FnL.ok fnTab_ok _ _) (LpL.ok lt1_ok) (SumL.ok tb1_ok _) mixed (by
  intro pts v news hp hc
  clear hc
  unfold z1v at hp
  split at hp
  · rename_i x
    exact Eq.trans (Eq.trans (zrq x) (znz (zlk x) rfl x (fun c0_ => some c0_))) (fin_out (o := (zlk x)) (x := zad x) (d := default) (V := fun r => ((AV.v (TV.one (At.bool r))), [])) (fun r => rfl) hp)
  · cases hp)
noncomputable def z18 : List PT → Option (Bool × AV × List Blk)
  | [.one (.s (.flt .f32 x))] => some ((zdm x), ((AV.v (TV.one (At.bool (zd0 x)))), []))
  | _ => none
def zl8 (x : Nat) : Option (Bool) → Option (AV × List Blk)
  | some r => some ((AV.v (TV.one (At.bool r))), [])
  | none => none
theorem zpf (x : Nat) : evFn Γ1 8 8 150 (impTs 0 [.one (.s (.flt .f32 x))]).1 (impTs 0 [.one (.s (.flt .f32 x))]).2 (expo (impTs 0 [.one (.s (.flt .f32 x))]).2.length) = z9b x (fun c0_ => some ((AV.v (TV.one (At.bool c0_))), [])) := by kernel_rfl
theorem z13 : SumOne Try.prog 150 z18 := sum_of (Γ := Γ1) (fuel := 8) (d := 8) tyTab_ok (FnL.ok fnTab_ok _ _) (LpL.ok lt1_ok) (SumL.ok tb1_ok _) mixed (by
  intro pts v news hp hc
  clear hc
  unfold z18 at hp
  split at hp
  · rename_i x
    exact Eq.trans (Eq.trans (zpf x) (zmk (zl8 x) rfl x (fun c0_ => some c0_))) (fin_out (o := (zl8 x)) (x := z99 x) (d := default) (V := fun r => ((AV.v (TV.one (At.bool r))), [])) (fun r => rfl) hp)
  · cases hp)
noncomputable def z2l : List PT → Option (Bool × AV × List Blk)
  | [.agg [.s (.flt .f32 q2i), .s (.flt .f32 q2j), .s (.flt .f32 q2k)], .agg [.s (.flt .f32 q2t), .s (.flt .f32 q2w), .s (.flt .f32 q2z)]] => some ((zik q2i q2j q2k q2t q2w q2z), ((AV.v (TV.one (At.bool (zgv q2i q2j q2k q2t q2w q2z)))), []))
  | _ => none
def zms (q2i : Nat) (q2j : Nat) (q2k : Nat) (q2t : Nat) (q2w : Nat) (q2z : Nat) : Option (Bool) → Option (AV × List Blk)
  | some r => some ((AV.v (TV.one (At.bool r))), [])
  | none => none
theorem zsz (q2i : Nat) (q2j : Nat) (q2k : Nat) (q2t : Nat) (q2w : Nat) (q2z : Nat) : evFn Γ1 8 8 169 (impTs 0 [.agg [.s (.flt .f32 q2i), .s (.flt .f32 q2j), .s (.flt .f32 q2k)], .agg [.s (.flt .f32 q2t), .s (.flt .f32 q2w), .s (.flt .f32 q2z)]]).1 (impTs 0 [.agg [.s (.flt .f32 q2i), .s (.flt .f32 q2j), .s (.flt .f32 q2k)], .agg [.s (.flt .f32 q2t), .s (.flt .f32 q2w), .s (.flt .f32 q2z)]]).2 (expo (impTs 0 [.agg [.s (.flt .f32 q2i), .s (.flt .f32 q2j), .s (.flt .f32 q2k)], .agg [.s (.flt .f32 q2t), .s (.flt .f32 q2w), .s (.flt .f32 q2z)]]).2.length) = zca q2i q2j q2k q2t q2w q2z (fun c0_ => some ((AV.v (TV.one (At.bool c0_))), [])) := by kernel_rfl
theorem z24 : SumOne Try.prog 169 z2l := sum_of (Γ := Γ1) (fuel := 8) (d := 8) tyTab_ok (FnL.ok fnTab_ok _ _) (LpL.ok lt1_ok) (SumL.ok tb1_ok _) mixed (by
  intro pts v news hp hc
  clear hc
  unfold z2l at hp
  split at hp
  · rename_i q2i q2j q2k q2t q2w q2z
    exact Eq.trans (Eq.trans (zsz q2i q2j q2k q2t q2w q2z) (zq2 (zms q2i q2j q2k q2t q2w q2z) rfl q2i q2j q2k q2t q2w q2z (fun c0_ => some c0_))) (fin_out (o := (zms q2i q2j q2k q2t q2w q2z)) (x := zcc q2i q2j q2k q2t q2w q2z) (d := default) (V := fun r => ((AV.v (TV.one (At.bool r))), [])) (fun r => rfl) hp)
  · cases hp)
noncomputable def z30 : List PT → Option (Bool × AV × List Blk)
  | [.one (.s (.flt .f32 x))] => some ((z9r x), ((AV.v (TV.one (At.bool (z95 x)))), []))
  | _ => none
def zna (x : Nat) : Option (Bool) → Option (AV × List Blk)
  | some r => some ((AV.v (TV.one (At.bool r))), [])
  | none => none
theorem zu8 (x : Nat) : evFn Γ1 8 8 185 (impTs 0 [.one (.s (.flt .f32 x))]).1 (impTs 0 [.one (.s (.flt .f32 x))]).2 (expo (impTs 0 [.one (.s (.flt .f32 x))]).2.length) = zcy x (fun c0_ => some ((AV.v (TV.one (At.bool c0_))), [])) := by kernel_rfl
theorem z2h : SumOne Try.prog 185 z30 := sum_of (Γ := Γ1) (fuel := 8) (d := 8) tyTab_ok (FnL.ok fnTab_ok _ _) (LpL.ok lt1_ok) (SumL.ok tb1_ok _) mixed (by
  intro pts v news hp hc
  clear hc
  unfold z30 at hp
  split at hp
  · rename_i x
    exact Eq.trans (Eq.trans (zu8 x) (zqp (zna x) rfl x (fun c0_ => some c0_))) (fin_out (o := (zna x)) (x := zd5 x) (d := default) (V := fun r => ((AV.v (TV.one (At.bool r))), [])) (fun r => rfl) hp)
  · cases hp)
noncomputable def z15 : Nat → St → Option (Bool × LO)
  | 1, (St.mk [(0, (AV.v (TV.one (At.vw 0 0 an 1)))), (3, (AV.v (TV.one (At.sl 1 0 q2h 1)))), (4, (AV.v (TV.one (At.int IntKind.i64 i))))] [(Blk.mk Bool.false (Body.fl FloatKind.f32 b0)), (Blk.mk Bool.true (Body.fl FloatKind.f32 b1))]) => some ((zav an q2h b0 i b1), (LO.one (Ex.exit 0) (St.mk [(0, (AV.v (TV.one (At.vw 0 0 an 1)))), (3, (AV.v (TV.one (At.sl 1 0 q2h 1)))), (4, (AV.v (TV.one (At.int IntKind.i64 (zf1 an q2h b0 i b1))))), (11, (AV.v (TV.one (At.bool (zf3 an q2h b0 i b1)))))] [(Blk.mk Bool.false (Body.fl FloatKind.f32 b0)), (Blk.mk Bool.true (Body.fl FloatKind.f32 (z9h an q2h b0 i b1)))])))
  | _, _ => none
def zdo (an : Nat) (q2h : Nat) (b0 : List Nat) : Option ((Int × Bool × (List Nat))) → Option (Ex × St)
  | none => none
  | some r => some ((Ex.exit 0), (St.mk [(0, (AV.v (TV.one (At.vw 0 0 an 1)))), (3, (AV.v (TV.one (At.sl 1 0 q2h 1)))), (4, (AV.v (TV.one (At.int IntKind.i64 r.1)))), (11, (AV.v (TV.one (At.bool r.2.1))))] [(Blk.mk Bool.false (Body.fl FloatKind.f32 b0)), (Blk.mk Bool.true (Body.fl FloatKind.f32 r.2.2))]))
def zoe (an : Nat) (q2h : Nat) (b0 : List Nat) (x : Option ((Int × Bool × (List Nat)))) : LO := (LO.one (Ex.exit 0) (St.mk [(0, (AV.v (TV.one (At.vw 0 0 an 1)))), (3, (AV.v (TV.one (At.sl 1 0 q2h 1)))), (4, (AV.v (TV.one (At.int IntKind.i64 (x.getD default).1)))), (11, (AV.v (TV.one (At.bool (x.getD default).2.1))))] [(Blk.mk Bool.false (Body.fl FloatKind.f32 b0)), (Blk.mk Bool.true (Body.fl FloatKind.f32 (x.getD default).2.2))]))
theorem zpv (an : Nat) (q2h : Nat) (b0 : List Nat) : ∀ x : Option ((Int × Bool × (List Nat))), x.isSome = true → (zdo an q2h b0) x = some (pick (zoe an q2h b0 x))
  | none, h => by cases h
  | some r, _ => rfl
theorem zp4 (an : Nat) (q2h : Nat) (i : Int) (b0 : List Nat) (b1 : List Nat) (K : Ex → St → Option (Ex × St)) : evC (R := Ex × St) Γ1 (evFn Γ1 8 8) 166 1 fi166.nt fi166.live fi166.nl 8 (findL 3 (loopsIn fi166.code)) (St.mk [(0, (AV.v (TV.one (At.vw 0 0 an 1)))), (3, (AV.v (TV.one (At.sl 1 0 q2h 1)))), (4, (AV.v (TV.one (At.int IntKind.i64 i))))] [(Blk.mk Bool.false (Body.fl FloatKind.f32 b0)), (Blk.mk Bool.true (Body.fl FloatKind.f32 b1))]) K = z74 an q2h b0 i b1 (fun i' b1' => K .normal (St.mk [(0, (AV.v (TV.one (At.vw 0 0 an 1)))), (3, (AV.v (TV.one (At.sl 1 0 q2h 1)))), (4, (AV.v (TV.one (At.int IntKind.i64 i'))))] [(Blk.mk Bool.false (Body.fl FloatKind.f32 b0)), (Blk.mk Bool.true (Body.fl FloatKind.f32 b1'))])) (fun c0_ c1_ c2_ => K (Ex.exit 0) (St.mk [(0, (AV.v (TV.one (At.vw 0 0 an 1)))), (3, (AV.v (TV.one (At.sl 1 0 q2h 1)))), (4, (AV.v (TV.one (At.int IntKind.i64 c0_)))), (11, (AV.v (TV.one (At.bool c1_))))] [(Blk.mk Bool.false (Body.fl FloatKind.f32 b0)), (Blk.mk Bool.true (Body.fl FloatKind.f32 c2_))])) := by kernel_rfl
theorem zpy (an : Nat) (q2h : Nat) (b0 : List Nat) : ∀ (n : Nat) (i : Int) (b1 : List Nat), iter 166 3 1 (evC (R := Ex × St) Γ1 (evFn Γ1 8 8) 166 1 fi166.nt fi166.live fi166.nl 8 (findL 3 (loopsIn fi166.code))) n (St.mk [(0, (AV.v (TV.one (At.vw 0 0 an 1)))), (3, (AV.v (TV.one (At.sl 1 0 q2h 1)))), (4, (AV.v (TV.one (At.int IntKind.i64 i))))] [(Blk.mk Bool.false (Body.fl FloatKind.f32 b0)), (Blk.mk Bool.true (Body.fl FloatKind.f32 b1))]) (fun e st => some (e, st)) = (zdo an q2h b0) (z5m an q2h b0 n i b1) := by
  intro n
  induction n with
  | zero => intros; rfl
  | succ n ih =>
    intro i b1
    refine Eq.trans (iter_succ ..) (Eq.trans (zp4 an q2h i b0 b1 (nextK 166 3 1 (evC (R := Ex × St) Γ1 (evFn Γ1 8 8) 166 1 fi166.nt fi166.live fi166.nl 8 (findL 3 (loopsIn fi166.code))) n (fun e st => some (e, st)))) (Eq.trans ?_ (zmz (zdo an q2h b0) rfl an q2h b0 i b1 (fun i' b1' => z5m an q2h b0 n i' b1') (fun c0_ c1_ c2_ => some (c0_, c1_, c2_)))))
    exact congrArg (fun kn_ => z74 an q2h b0 i b1 kn_ (fun c0_ c1_ c2_ => (zdo an q2h b0) (some (c0_, c1_, c2_)))) (funext fun i' => funext fun b1' => ih i' b1')
theorem z12 : LoopOne Try.prog fnTab 166 3 z15 := lp_of (Γ := Γ1) tyTab_ok (FnL.ok fnTab_ok _ _) (LpL.ok lt1_ok) (SumL.ok tb1_ok _) mixed (fi := fi166) (by kernel_rfl) (by kernel_rfl) (by
  intro lo st out hp
  unfold z15 at hp
  split at hp
  · rename_i an q2h i b0 b1
    injection hp with hp
    injection hp with h1 h2
    subst h2
    exact ⟨8, 8, big, Eq.trans (zpy an q2h b0 big i b1) (zpv an q2h b0 (z5m an q2h b0 big i b1) h1)⟩
  · cases hp)
noncomputable def tb2 : List (Nat × (List PT → Option (Bool × AV × List Blk))) := [(156, z0s), (181, z1a), (182, z22), (189, z21), (26, z2r), (55, z29), (84, z0x), (89, z3u), (102, z63), (112, z1y), (115, z2a), (123, z2p), (126, z4h), (157, z62), (160, z1x), (162, z4j), (167, z28), (175, z3t), (176, z1o), (187, z2b), (74, z3m), (83, z0w), (85, z46), (90, z3l), (103, z47), (111, z2m), (116, z31), (138, z2z), (148, z1v), (150, z18), (169, z2l), (185, z30)]
noncomputable def lt2 : List ((Nat × Nat) × (Nat → St → Option (Bool × LO))) := [((166, 3), z15)]
noncomputable def Γ2 : Ctx := ⟨tyTab, fnTab, tblSum tb2, tblLp lt2⟩
theorem tb2_ok : SumL Try.prog tb2 := SumL.cons z0r (SumL.cons z11 (SumL.cons z1i (SumL.cons z1j (SumL.cons z26 (SumL.cons z1u (SumL.cons z0t (SumL.cons z2x (SumL.cons z4q (SumL.cons z1c (SumL.cons z1s (SumL.cons z27 (SumL.cons z3h (SumL.cons z4r (SumL.cons z1f (SumL.cons z3f (SumL.cons z1t (SumL.cons z2y (SumL.cons z14 (SumL.cons z1r (SumL.cons z2v (SumL.cons z0v (SumL.cons z3b (SumL.cons z2w (SumL.cons z38 (SumL.cons z23 (SumL.cons z2f (SumL.cons z2i (SumL.cons z1b (SumL.cons z13 (SumL.cons z24 (SumL.cons z2h (SumL.nil))))))))))))))))))))))))))))))))
theorem lt2_ok : LpL Try.prog fnTab lt2 := LpL.cons z12 (LpL.nil)
noncomputable def z3v : List PT → Option (Bool × AV × List Blk)
  | [.agg [.row 1 q0l (.fl .f32 q0r), .row 1 q0m (.fl .f32 q0t), .row 1 q0n (.fl .f32 q0u), .row 3 q12 (.fl .f32 q1e), .s (.int .i64 q1v), .s (.flt .f32 q28), .s (.flt .f32 q27)], .one (.s (.int .i64 q2c))] => some ((zhp q0l q0r q0m q0t q0n q0u q12 q1e q1v q28 q27 q2c), ((AV.v (TV.one (At.int IntKind.i64 (zfm q0l q0r q0m q0t q0n q0u q12 q1e q1v q28 q27 q2c)))), []))
  | _ => none
def zo2 (q0l : Nat) (q0r : List Nat) (q0m : Nat) (q0t : List Nat) (q0n : Nat) (q0u : List Nat) (q12 : Nat) (q1e : List Nat) (q1v : Int) (q28 : Nat) (q27 : Nat) (q2c : Int) : Option (Int) → Option (AV × List Blk)
  | some r => some ((AV.v (TV.one (At.int IntKind.i64 r))), [])
  | none => none
theorem zuw (q0l : Nat) (q0r : List Nat) (q0m : Nat) (q0t : List Nat) (q0n : Nat) (q0u : List Nat) (q12 : Nat) (q1e : List Nat) (q1v : Int) (q28 : Nat) (q27 : Nat) (q2c : Int) : evFn Γ2 8 8 52 (impTs 0 [.agg [.row 1 q0l (.fl .f32 q0r), .row 1 q0m (.fl .f32 q0t), .row 1 q0n (.fl .f32 q0u), .row 3 q12 (.fl .f32 q1e), .s (.int .i64 q1v), .s (.flt .f32 q28), .s (.flt .f32 q27)], .one (.s (.int .i64 q2c))]).1 (impTs 0 [.agg [.row 1 q0l (.fl .f32 q0r), .row 1 q0m (.fl .f32 q0t), .row 1 q0n (.fl .f32 q0u), .row 3 q12 (.fl .f32 q1e), .s (.int .i64 q1v), .s (.flt .f32 q28), .s (.flt .f32 q27)], .one (.s (.int .i64 q2c))]).2 (expo (impTs 0 [.agg [.row 1 q0l (.fl .f32 q0r), .row 1 q0m (.fl .f32 q0t), .row 1 q0n (.fl .f32 q0u), .row 3 q12 (.fl .f32 q1e), .s (.int .i64 q1v), .s (.flt .f32 q28), .s (.flt .f32 q27)], .one (.s (.int .i64 q2c))]).2.length) = ze4 q0l q0r q0m q0t q0n q0u q12 q1e q1v q28 q27 q2c (fun c0_ => some ((AV.v (TV.one (At.int IntKind.i64 c0_))), [])) := by kernel_rfl
theorem z35 : SumOne Try.prog 52 z3v := sum_of (Γ := Γ2) (fuel := 8) (d := 8) tyTab_ok (FnL.ok fnTab_ok _ _) (LpL.ok lt2_ok) (SumL.ok tb2_ok _) mixed (by
  intro pts v news hp hc
  clear hc
  unfold z3v at hp
  split at hp
  · rename_i q0l q0r q0m q0t q0n q0u q12 q1e q1v q28 q27 q2c
    exact Eq.trans (Eq.trans (zuw q0l q0r q0m q0t q0n q0u q12 q1e q1v q28 q27 q2c) (zrr (zo2 q0l q0r q0m q0t q0n q0u q12 q1e q1v q28 q27 q2c) rfl q0l q0r q0m q0t q0n q0u q12 q1e q1v q28 q27 q2c (fun c0_ => some c0_))) (fin_out (o := (zo2 q0l q0r q0m q0t q0n q0u q12 q1e q1v q28 q27 q2c)) (x := ze5 q0l q0r q0m q0t q0n q0u q12 q1e q1v q28 q27 q2c) (d := default) (V := fun r => ((AV.v (TV.one (At.int IntKind.i64 r))), [])) (fun r => rfl) hp)
  · cases hp)
noncomputable def z2k : List PT → Option (Bool × AV × List Blk)
  | [.one (.s (.flt .f32 x))] => some ((zh7 x), ((AV.v (TV.one (At.bool (zfy x)))), []))
  | _ => none
def zm4 (x : Nat) : Option (Bool) → Option (AV × List Blk)
  | some r => some ((AV.v (TV.one (At.bool r))), [])
  | none => none
theorem zsd (x : Nat) : evFn Γ2 8 8 154 (impTs 0 [.one (.s (.flt .f32 x))]).1 (impTs 0 [.one (.s (.flt .f32 x))]).2 (expo (impTs 0 [.one (.s (.flt .f32 x))]).2.length) = zb6 x (fun c0_ => some ((AV.v (TV.one (At.bool c0_))), [])) := by kernel_rfl
theorem z20 : SumOne Try.prog 154 z2k := sum_of (Γ := Γ2) (fuel := 8) (d := 8) tyTab_ok (FnL.ok fnTab_ok _ _) (LpL.ok lt2_ok) (SumL.ok tb2_ok _) mixed (by
  intro pts v news hp hc
  clear hc
  unfold z2k at hp
  split at hp
  · rename_i x
    exact Eq.trans (Eq.trans (zsd x) (zof (zm4 x) rfl x (fun c0_ => some c0_))) (fin_out (o := (zm4 x)) (x := zb9 x) (d := default) (V := fun r => ((AV.v (TV.one (At.bool r))), [])) (fun r => rfl) hp)
  · cases hp)
noncomputable def z5i : List PT → Option (Bool × AV × List Blk)
  | [.one (.s (.flt .f64 x))] => some ((zl7 x), ((AV.v (TV.one (At.flt FloatKind.f64 (zd9 x)))), []))
  | _ => none
def zrf (x : Nat) : Option (Nat) → Option (AV × List Blk)
  | some r => some ((AV.v (TV.one (At.flt FloatKind.f64 r))), [])
  | none => none
theorem zvg (x : Nat) : evFn Γ2 8 8 158 (impTs 0 [.one (.s (.flt .f64 x))]).1 (impTs 0 [.one (.s (.flt .f64 x))]).2 (expo (impTs 0 [.one (.s (.flt .f64 x))]).2.length) = zhu x (fun c0_ => some ((AV.v (TV.one (At.flt FloatKind.f64 c0_))), [])) := by kernel_rfl
theorem z45 : SumOne Try.prog 158 z5i := sum_of (Γ := Γ2) (fuel := 8) (d := 8) tyTab_ok (FnL.ok fnTab_ok _ _) (LpL.ok lt2_ok) (SumL.ok tb2_ok _) mixed (by
  intro pts v news hp hc
  clear hc
  unfold z5i at hp
  split at hp
  · rename_i x
    exact Eq.trans (Eq.trans (zvg x) (zsy (zrf x) rfl x (fun c0_ => some c0_))) (fin_out (o := (zrf x)) (x := zi4 x) (d := default) (V := fun r => ((AV.v (TV.one (At.flt FloatKind.f64 r))), [])) (fun r => rfl) hp)
  · cases hp)
noncomputable def z2j : List PT → Option (Bool × AV × List Blk)
  | [.one (.row 1 a_n (.fl .f32 a))] => some ((zb7 a_n a), ((AV.v (TV.one (At.sl 0 0 (zae a_n a) 1))), [(Blk.mk Bool.true (Body.fl FloatKind.f32 (zab a_n a)))]))
  | _ => none
def zm3 (a_n : Nat) (a : List Nat) : Option (Nat × (List Nat)) → Option (AV × List Blk)
  | some r => some ((AV.v (TV.one (At.sl 0 0 r.1 1))), [(Blk.mk Bool.true (Body.fl FloatKind.f32 r.2))])
  | none => none
theorem zsn (a_n : Nat) (a : List Nat) : evFn Γ2 8 8 166 (impTs 0 [.one (.row 1 a_n (.fl .f32 a))]).1 (impTs 0 [.one (.row 1 a_n (.fl .f32 a))]).2 (expo (impTs 0 [.one (.row 1 a_n (.fl .f32 a))]).2.length) = zbl a_n a (fun c0_ c1_ => some ((AV.v (TV.one (At.sl 0 0 c0_ 1))), [(Blk.mk Bool.true (Body.fl FloatKind.f32 c1_))])) := by kernel_rfl
theorem z1z : SumOne Try.prog 166 z2j := sum_of (Γ := Γ2) (fuel := 8) (d := 8) tyTab_ok (FnL.ok fnTab_ok _ _) (LpL.ok lt2_ok) (SumL.ok tb2_ok _) mixed (by
  intro pts v news hp hc
  clear hc
  unfold z2j at hp
  split at hp
  · rename_i a_n a
    exact Eq.trans (Eq.trans (zsn a_n a) (zoq (zm3 a_n a) rfl a_n a (fun c0_ c1_ => some (c0_, c1_)))) (fin_out (o := (zm3 a_n a)) (x := z9m a_n a) (d := default) (V := fun r => ((AV.v (TV.one (At.sl 0 0 r.1 1))), [(Blk.mk Bool.true (Body.fl FloatKind.f32 r.2))])) (fun r => rfl) hp)
  · cases hp)
noncomputable def z1g : Nat → St → Option (Bool × LO)
  | 1, (St.mk [(0, (AV.v (TV.one (At.vw 0 0 an 3)))), (3, (AV.v (TV.one (At.sl 1 0 q2h 3)))), (4, (AV.v (TV.one (At.int IntKind.i64 i))))] [(Blk.mk Bool.false (Body.fl FloatKind.f32 b0)), (Blk.mk Bool.true (Body.fl FloatKind.f32 b1))]) => some ((zar an q2h b0 i b1), (LO.one (Ex.exit 0) (St.mk [(0, (AV.v (TV.one (At.vw 0 0 an 3)))), (3, (AV.v (TV.one (At.sl 1 0 q2h 3)))), (4, (AV.v (TV.one (At.int IntKind.i64 (zew an q2h b0 i b1))))), (11, (AV.v (TV.one (At.bool (zez an q2h b0 i b1)))))] [(Blk.mk Bool.false (Body.fl FloatKind.f32 b0)), (Blk.mk Bool.true (Body.fl FloatKind.f32 (z9j an q2h b0 i b1)))])))
  | _, _ => none
def zdf (an : Nat) (q2h : Nat) (b0 : List Nat) : Option ((Int × Bool × (List Nat))) → Option (Ex × St)
  | none => none
  | some r => some ((Ex.exit 0), (St.mk [(0, (AV.v (TV.one (At.vw 0 0 an 3)))), (3, (AV.v (TV.one (At.sl 1 0 q2h 3)))), (4, (AV.v (TV.one (At.int IntKind.i64 r.1)))), (11, (AV.v (TV.one (At.bool r.2.1))))] [(Blk.mk Bool.false (Body.fl FloatKind.f32 b0)), (Blk.mk Bool.true (Body.fl FloatKind.f32 r.2.2))]))
def zoy (an : Nat) (q2h : Nat) (b0 : List Nat) (x : Option ((Int × Bool × (List Nat)))) : LO := (LO.one (Ex.exit 0) (St.mk [(0, (AV.v (TV.one (At.vw 0 0 an 3)))), (3, (AV.v (TV.one (At.sl 1 0 q2h 3)))), (4, (AV.v (TV.one (At.int IntKind.i64 (x.getD default).1)))), (11, (AV.v (TV.one (At.bool (x.getD default).2.1))))] [(Blk.mk Bool.false (Body.fl FloatKind.f32 b0)), (Blk.mk Bool.true (Body.fl FloatKind.f32 (x.getD default).2.2))]))
theorem zp6 (an : Nat) (q2h : Nat) (b0 : List Nat) : ∀ x : Option ((Int × Bool × (List Nat))), x.isSome = true → (zdf an q2h b0) x = some (pick (zoy an q2h b0 x))
  | none, h => by cases h
  | some r, _ => rfl
theorem zpj (an : Nat) (q2h : Nat) (i : Int) (b0 : List Nat) (b1 : List Nat) (K : Ex → St → Option (Ex × St)) : evC (R := Ex × St) Γ2 (evFn Γ2 8 8) 120 1 fi120.nt fi120.live fi120.nl 8 (findL 3 (loopsIn fi120.code)) (St.mk [(0, (AV.v (TV.one (At.vw 0 0 an 3)))), (3, (AV.v (TV.one (At.sl 1 0 q2h 3)))), (4, (AV.v (TV.one (At.int IntKind.i64 i))))] [(Blk.mk Bool.false (Body.fl FloatKind.f32 b0)), (Blk.mk Bool.true (Body.fl FloatKind.f32 b1))]) K = z77 an q2h b0 i b1 (fun i' b1' => K .normal (St.mk [(0, (AV.v (TV.one (At.vw 0 0 an 3)))), (3, (AV.v (TV.one (At.sl 1 0 q2h 3)))), (4, (AV.v (TV.one (At.int IntKind.i64 i'))))] [(Blk.mk Bool.false (Body.fl FloatKind.f32 b0)), (Blk.mk Bool.true (Body.fl FloatKind.f32 b1'))])) (fun c0_ c1_ c2_ => K (Ex.exit 0) (St.mk [(0, (AV.v (TV.one (At.vw 0 0 an 3)))), (3, (AV.v (TV.one (At.sl 1 0 q2h 3)))), (4, (AV.v (TV.one (At.int IntKind.i64 c0_)))), (11, (AV.v (TV.one (At.bool c1_))))] [(Blk.mk Bool.false (Body.fl FloatKind.f32 b0)), (Blk.mk Bool.true (Body.fl FloatKind.f32 c2_))])) := by kernel_rfl
theorem zph (an : Nat) (q2h : Nat) (b0 : List Nat) : ∀ (n : Nat) (i : Int) (b1 : List Nat), iter 120 3 1 (evC (R := Ex × St) Γ2 (evFn Γ2 8 8) 120 1 fi120.nt fi120.live fi120.nl 8 (findL 3 (loopsIn fi120.code))) n (St.mk [(0, (AV.v (TV.one (At.vw 0 0 an 3)))), (3, (AV.v (TV.one (At.sl 1 0 q2h 3)))), (4, (AV.v (TV.one (At.int IntKind.i64 i))))] [(Blk.mk Bool.false (Body.fl FloatKind.f32 b0)), (Blk.mk Bool.true (Body.fl FloatKind.f32 b1))]) (fun e st => some (e, st)) = (zdf an q2h b0) (z3o an q2h b0 n i b1) := by
  intro n
  induction n with
  | zero => intros; rfl
  | succ n ih =>
    intro i b1
    refine Eq.trans (iter_succ ..) (Eq.trans (zpj an q2h i b0 b1 (nextK 120 3 1 (evC (R := Ex × St) Γ2 (evFn Γ2 8 8) 120 1 fi120.nt fi120.live fi120.nl 8 (findL 3 (loopsIn fi120.code))) n (fun e st => some (e, st)))) (Eq.trans ?_ (zma (zdf an q2h b0) rfl an q2h b0 i b1 (fun i' b1' => z3o an q2h b0 n i' b1') (fun c0_ c1_ c2_ => some (c0_, c1_, c2_)))))
    exact congrArg (fun kn_ => z77 an q2h b0 i b1 kn_ (fun c0_ c1_ c2_ => (zdf an q2h b0) (some (c0_, c1_, c2_)))) (funext fun i' => funext fun b1' => ih i' b1')
theorem z17 : LoopOne Try.prog fnTab 120 3 z1g := lp_of (Γ := Γ2) tyTab_ok (FnL.ok fnTab_ok _ _) (LpL.ok lt2_ok) (SumL.ok tb2_ok _) mixed (fi := fi120) (by kernel_rfl) (by kernel_rfl) (by
  intro lo st out hp
  unfold z1g at hp
  split at hp
  · rename_i an q2h i b0 b1
    injection hp with hp
    injection hp with h1 h2
    subst h2
    exact ⟨8, 8, big, Eq.trans (zph an q2h b0 big i b1) (zp6 an q2h b0 (z3o an q2h b0 big i b1) h1)⟩
  · cases hp)
noncomputable def z1e : Nat → St → Option (Bool × LO)
  | 2, (St.mk [(0, (AV.v (TV.one (At.vw 0 0 an 1)))), (1, (AV.v (TV.one (At.vw 1 0 bn 1)))), (5, (AV.v (TV.one (At.int IntKind.i64 i))))] [(Blk.mk Bool.false (Body.fl FloatKind.f32 b0)), (Blk.mk Bool.false (Body.fl FloatKind.f32 b1))]) => some ((zdn an bn b0 b1 i), (LO.two (zd4 an bn b0 b1 i) (LO.one Ex.ret (St.mk [(4, (AV.v (TV.one (At.bool Bool.false))))] [(Blk.mk Bool.false (Body.fl FloatKind.f32 b0)), (Blk.mk Bool.false (Body.fl FloatKind.f32 b1))])) (LO.one (Ex.exit 0) (St.mk [(0, (AV.v (TV.one (At.vw 0 0 an 1)))), (1, (AV.v (TV.one (At.vw 1 0 bn 1)))), (5, (AV.v (TV.one (At.int IntKind.i64 (zev an bn b0 b1 i))))), (14, (AV.v (TV.one (At.bool (zet an bn b0 b1 i)))))] [(Blk.mk Bool.false (Body.fl FloatKind.f32 b0)), (Blk.mk Bool.false (Body.fl FloatKind.f32 b1))]))))
  | _, _ => none
def zat (an : Nat) (bn : Nat) (b0 : List Nat) (b1 : List Nat) : Option ((Unit) ⊕ (Int × Bool)) → Option (Ex × St)
  | none => none
  | some (Sum.inl r) => some (Ex.ret, (St.mk [(4, (AV.v (TV.one (At.bool Bool.false))))] [(Blk.mk Bool.false (Body.fl FloatKind.f32 b0)), (Blk.mk Bool.false (Body.fl FloatKind.f32 b1))]))
  | some (Sum.inr r) => some ((Ex.exit 0), (St.mk [(0, (AV.v (TV.one (At.vw 0 0 an 1)))), (1, (AV.v (TV.one (At.vw 1 0 bn 1)))), (5, (AV.v (TV.one (At.int IntKind.i64 r.1)))), (14, (AV.v (TV.one (At.bool r.2))))] [(Blk.mk Bool.false (Body.fl FloatKind.f32 b0)), (Blk.mk Bool.false (Body.fl FloatKind.f32 b1))]))
def zo5 (an : Nat) (bn : Nat) (b0 : List Nat) (b1 : List Nat) (x : Option ((Unit) ⊕ (Int × Bool))) : LO := (LO.two (oL x) (LO.one Ex.ret (St.mk [(4, (AV.v (TV.one (At.bool Bool.false))))] [(Blk.mk Bool.false (Body.fl FloatKind.f32 b0)), (Blk.mk Bool.false (Body.fl FloatKind.f32 b1))])) (LO.one (Ex.exit 0) (St.mk [(0, (AV.v (TV.one (At.vw 0 0 an 1)))), (1, (AV.v (TV.one (At.vw 1 0 bn 1)))), (5, (AV.v (TV.one (At.int IntKind.i64 ((tR x).getD default).1)))), (14, (AV.v (TV.one (At.bool ((tR x).getD default).2))))] [(Blk.mk Bool.false (Body.fl FloatKind.f32 b0)), (Blk.mk Bool.false (Body.fl FloatKind.f32 b1))])))
theorem zpt (an : Nat) (bn : Nat) (b0 : List Nat) (b1 : List Nat) : ∀ x : Option ((Unit) ⊕ (Int × Bool)), x.isSome = true → (zat an bn b0 b1) x = some (pick (zo5 an bn b0 b1 x))
  | none, h => by cases h
  | some (Sum.inl r), _ => rfl
  | some (Sum.inr r), _ => rfl
theorem zpa (an : Nat) (bn : Nat) (i : Int) (b0 : List Nat) (b1 : List Nat) (K : Ex → St → Option (Ex × St)) : evC (R := Ex × St) Γ2 (evFn Γ2 8 8) 168 2 fi168.nt fi168.live fi168.nl 8 (findL 4 (loopsIn fi168.code)) (St.mk [(0, (AV.v (TV.one (At.vw 0 0 an 1)))), (1, (AV.v (TV.one (At.vw 1 0 bn 1)))), (5, (AV.v (TV.one (At.int IntKind.i64 i))))] [(Blk.mk Bool.false (Body.fl FloatKind.f32 b0)), (Blk.mk Bool.false (Body.fl FloatKind.f32 b1))]) K = z78 an bn b0 b1 i (fun i' => K .normal (St.mk [(0, (AV.v (TV.one (At.vw 0 0 an 1)))), (1, (AV.v (TV.one (At.vw 1 0 bn 1)))), (5, (AV.v (TV.one (At.int IntKind.i64 i'))))] [(Blk.mk Bool.false (Body.fl FloatKind.f32 b0)), (Blk.mk Bool.false (Body.fl FloatKind.f32 b1))])) (fun _ => K Ex.ret (St.mk [(4, (AV.v (TV.one (At.bool Bool.false))))] [(Blk.mk Bool.false (Body.fl FloatKind.f32 b0)), (Blk.mk Bool.false (Body.fl FloatKind.f32 b1))])) (fun c0_ c1_ => K (Ex.exit 0) (St.mk [(0, (AV.v (TV.one (At.vw 0 0 an 1)))), (1, (AV.v (TV.one (At.vw 1 0 bn 1)))), (5, (AV.v (TV.one (At.int IntKind.i64 c0_)))), (14, (AV.v (TV.one (At.bool c1_))))] [(Blk.mk Bool.false (Body.fl FloatKind.f32 b0)), (Blk.mk Bool.false (Body.fl FloatKind.f32 b1))])) := by kernel_rfl
theorem zpi (an : Nat) (bn : Nat) (b0 : List Nat) (b1 : List Nat) : ∀ (n : Nat) (i : Int), iter 168 4 2 (evC (R := Ex × St) Γ2 (evFn Γ2 8 8) 168 2 fi168.nt fi168.live fi168.nl 8 (findL 4 (loopsIn fi168.code))) n (St.mk [(0, (AV.v (TV.one (At.vw 0 0 an 1)))), (1, (AV.v (TV.one (At.vw 1 0 bn 1)))), (5, (AV.v (TV.one (At.int IntKind.i64 i))))] [(Blk.mk Bool.false (Body.fl FloatKind.f32 b0)), (Blk.mk Bool.false (Body.fl FloatKind.f32 b1))]) (fun e st => some (e, st)) = (zat an bn b0 b1) (z5k an bn b0 b1 n i) := by
  intro n
  induction n with
  | zero => intros; rfl
  | succ n ih =>
    intro i
    refine Eq.trans (iter_succ ..) (Eq.trans (zpa an bn i b0 b1 (nextK 168 4 2 (evC (R := Ex × St) Γ2 (evFn Γ2 8 8) 168 2 fi168.nt fi168.live fi168.nl 8 (findL 4 (loopsIn fi168.code))) n (fun e st => some (e, st)))) (Eq.trans ?_ (zmn (zat an bn b0 b1) rfl an bn b0 b1 i (fun i' => z5k an bn b0 b1 n i') (fun _ => some (Sum.inl ())) (fun c0_ c1_ => some (Sum.inr (c0_, c1_))))))
    exact congrArg (fun kn_ => z78 an bn b0 b1 i kn_ (fun _ => (zat an bn b0 b1) (some (Sum.inl ()))) (fun c0_ c1_ => (zat an bn b0 b1) (some (Sum.inr (c0_, c1_))))) (funext fun i' => ih i')
theorem z16 : LoopOne Try.prog fnTab 168 4 z1e := lp_of (Γ := Γ2) tyTab_ok (FnL.ok fnTab_ok _ _) (LpL.ok lt2_ok) (SumL.ok tb2_ok _) mixed (fi := fi168) (by kernel_rfl) (by kernel_rfl) (by
  intro lo st out hp
  unfold z1e at hp
  split at hp
  · rename_i an bn i b0 b1
    injection hp with hp
    injection hp with h1 h2
    subst h2
    exact ⟨8, 8, big, Eq.trans (zpi an bn b0 b1 big i) (zpt an bn b0 b1 (z5k an bn b0 b1 big i) h1)⟩
  · cases hp)
noncomputable def z10 : Nat → St → Option (Bool × LO)
  | 0, (St.mk [(4, (AV.v (TV.one (At.bool t4)))), (5, (AV.v (TV.one (At.flt FloatKind.f64 t5)))), (6, (AV.v (TV.one (At.flt FloatKind.f64 t6)))), (7, (AV.v (TV.one (At.flt FloatKind.f64 t7)))), (8, (AV.v (TV.one (At.int IntKind.i64 t8))))] []) => some ((z4p t6 t7 t8), (LO.one (Ex.exit 0) (St.mk [(4, (AV.v (TV.one (At.bool t4)))), (5, (AV.v (TV.one (At.flt FloatKind.f64 t5)))), (6, (AV.v (TV.one (At.flt FloatKind.f64 t6)))), (7, (AV.v (TV.one (At.flt FloatKind.f64 (z0u t6 t7 t8))))), (8, (AV.v (TV.one (At.int IntKind.i64 (zdg t6 t7 t8))))), (44, (AV.v (TV.one (At.bool (zdp t6 t7 t8)))))] [])))
  | _, _ => none
def zco (t4 : Bool) (t5 : Nat) (t6 : Nat) : Option ((Nat × Int × Bool)) → Option (Ex × St)
  | none => none
  | some r => some ((Ex.exit 0), (St.mk [(4, (AV.v (TV.one (At.bool t4)))), (5, (AV.v (TV.one (At.flt FloatKind.f64 t5)))), (6, (AV.v (TV.one (At.flt FloatKind.f64 t6)))), (7, (AV.v (TV.one (At.flt FloatKind.f64 r.1)))), (8, (AV.v (TV.one (At.int IntKind.i64 r.2.1)))), (44, (AV.v (TV.one (At.bool r.2.2))))] []))
def zn2 (t4 : Bool) (t5 : Nat) (t6 : Nat) (x : Option ((Nat × Int × Bool))) : LO := (LO.one (Ex.exit 0) (St.mk [(4, (AV.v (TV.one (At.bool t4)))), (5, (AV.v (TV.one (At.flt FloatKind.f64 t5)))), (6, (AV.v (TV.one (At.flt FloatKind.f64 t6)))), (7, (AV.v (TV.one (At.flt FloatKind.f64 (x.getD default).1)))), (8, (AV.v (TV.one (At.int IntKind.i64 (x.getD default).2.1)))), (44, (AV.v (TV.one (At.bool (x.getD default).2.2))))] []))
theorem zns (t4 : Bool) (t5 : Nat) (t6 : Nat) : ∀ x : Option ((Nat × Int × Bool)), x.isSome = true → (zco t4 t5 t6) x = some (pick (zn2 t4 t5 t6 x))
  | none, h => by cases h
  | some r, _ => rfl
theorem zno (t4 : Bool) (t5 : Nat) (t6 : Nat) (t7 : Nat) (t8 : Int) (K : Ex → St → Option (Ex × St)) : evC (R := Ex × St) Γ2 (evFn Γ2 8 8) 188 0 fi188.nt fi188.live fi188.nl 8 (findL 17 (loopsIn fi188.code)) (St.mk [(4, (AV.v (TV.one (At.bool t4)))), (5, (AV.v (TV.one (At.flt FloatKind.f64 t5)))), (6, (AV.v (TV.one (At.flt FloatKind.f64 t6)))), (7, (AV.v (TV.one (At.flt FloatKind.f64 t7)))), (8, (AV.v (TV.one (At.int IntKind.i64 t8))))] []) K = z6l t6 t7 t8 (fun t7' t8' => K .normal (St.mk [(4, (AV.v (TV.one (At.bool t4)))), (5, (AV.v (TV.one (At.flt FloatKind.f64 t5)))), (6, (AV.v (TV.one (At.flt FloatKind.f64 t6)))), (7, (AV.v (TV.one (At.flt FloatKind.f64 t7')))), (8, (AV.v (TV.one (At.int IntKind.i64 t8'))))] [])) (fun c0_ c1_ c2_ => K (Ex.exit 0) (St.mk [(4, (AV.v (TV.one (At.bool t4)))), (5, (AV.v (TV.one (At.flt FloatKind.f64 t5)))), (6, (AV.v (TV.one (At.flt FloatKind.f64 t6)))), (7, (AV.v (TV.one (At.flt FloatKind.f64 c0_)))), (8, (AV.v (TV.one (At.int IntKind.i64 c1_)))), (44, (AV.v (TV.one (At.bool c2_))))] [])) := by kernel_rfl
theorem znw (t4 : Bool) (t5 : Nat) (t6 : Nat) : ∀ (n : Nat) (t7 : Nat) (t8 : Int), iter 188 17 0 (evC (R := Ex × St) Γ2 (evFn Γ2 8 8) 188 0 fi188.nt fi188.live fi188.nl 8 (findL 17 (loopsIn fi188.code))) n (St.mk [(4, (AV.v (TV.one (At.bool t4)))), (5, (AV.v (TV.one (At.flt FloatKind.f64 t5)))), (6, (AV.v (TV.one (At.flt FloatKind.f64 t6)))), (7, (AV.v (TV.one (At.flt FloatKind.f64 t7)))), (8, (AV.v (TV.one (At.int IntKind.i64 t8))))] []) (fun e st => some (e, st)) = (zco t4 t5 t6) (z3d t6 n t7 t8) := by
  intro n
  induction n with
  | zero => intros; rfl
  | succ n ih =>
    intro t7 t8
    refine Eq.trans (iter_succ ..) (Eq.trans (zno t4 t5 t6 t7 t8 (nextK 188 17 0 (evC (R := Ex × St) Γ2 (evFn Γ2 8 8) 188 0 fi188.nt fi188.live fi188.nl 8 (findL 17 (loopsIn fi188.code))) n (fun e st => some (e, st)))) (Eq.trans ?_ (zlq (zco t4 t5 t6) rfl t6 t7 t8 (fun t7' t8' => z3d t6 n t7' t8') (fun c0_ c1_ c2_ => some (c0_, c1_, c2_)))))
    exact congrArg (fun kn_ => z6l t6 t7 t8 kn_ (fun c0_ c1_ c2_ => (zco t4 t5 t6) (some (c0_, c1_, c2_)))) (funext fun t7' => funext fun t8' => ih t7' t8')
theorem z0y : LoopOne Try.prog fnTab 188 17 z10 := lp_of (Γ := Γ2) tyTab_ok (FnL.ok fnTab_ok _ _) (LpL.ok lt2_ok) (SumL.ok tb2_ok _) mixed (fi := fi188) (by kernel_rfl) (by kernel_rfl) (by
  intro lo st out hp
  unfold z10 at hp
  split at hp
  · rename_i t4 t5 t6 t7 t8
    injection hp with hp
    injection hp with h1 h2
    subst h2
    exact ⟨8, 8, big, Eq.trans (znw t4 t5 t6 big t7 t8) (zns t4 t5 t6 (z3d t6 big t7 t8) h1)⟩
  · cases hp)
noncomputable def tb3 : List (Nat × (List PT → Option (Bool × AV × List Blk))) := [(156, z0s), (181, z1a), (182, z22), (189, z21), (26, z2r), (55, z29), (84, z0x), (89, z3u), (102, z63), (112, z1y), (115, z2a), (123, z2p), (126, z4h), (157, z62), (160, z1x), (162, z4j), (167, z28), (175, z3t), (176, z1o), (187, z2b), (74, z3m), (83, z0w), (85, z46), (90, z3l), (103, z47), (111, z2m), (116, z31), (138, z2z), (148, z1v), (150, z18), (169, z2l), (185, z30), (52, z3v), (154, z2k), (158, z5i), (166, z2j)]
noncomputable def lt3 : List ((Nat × Nat) × (Nat → St → Option (Bool × LO))) := [((166, 3), z15), ((120, 3), z1g), ((168, 4), z1e), ((188, 17), z10)]
noncomputable def Γ3 : Ctx := ⟨tyTab, fnTab, tblSum tb3, tblLp lt3⟩
theorem tb3_ok : SumL Try.prog tb3 := SumL.cons z0r (SumL.cons z11 (SumL.cons z1i (SumL.cons z1j (SumL.cons z26 (SumL.cons z1u (SumL.cons z0t (SumL.cons z2x (SumL.cons z4q (SumL.cons z1c (SumL.cons z1s (SumL.cons z27 (SumL.cons z3h (SumL.cons z4r (SumL.cons z1f (SumL.cons z3f (SumL.cons z1t (SumL.cons z2y (SumL.cons z14 (SumL.cons z1r (SumL.cons z2v (SumL.cons z0v (SumL.cons z3b (SumL.cons z2w (SumL.cons z38 (SumL.cons z23 (SumL.cons z2f (SumL.cons z2i (SumL.cons z1b (SumL.cons z13 (SumL.cons z24 (SumL.cons z2h (SumL.cons z35 (SumL.cons z20 (SumL.cons z45 (SumL.cons z1z (SumL.nil))))))))))))))))))))))))))))))))))))
theorem lt3_ok : LpL Try.prog fnTab lt3 := LpL.cons z12 (LpL.cons z17 (LpL.cons z16 (LpL.cons z0y (LpL.nil))))
noncomputable def z2u : List PT → Option (Bool × AV × List Blk)
  | [.one (.s (.flt .f64 q2f))] => some ((zha q2f), ((AV.v (TV.one (At.flt FloatKind.f64 (z0z q2f)))), []))
  | _ => none
def zm2 (q2f : Nat) : Option (Nat) → Option (AV × List Blk)
  | some r => some ((AV.v (TV.one (At.flt FloatKind.f64 r))), [])
  | none => none
theorem zso (q2f : Nat) : evFn Γ3 8 8 104 (impTs 0 [.one (.s (.flt .f64 q2f))]).1 (impTs 0 [.one (.s (.flt .f64 q2f))]).2 (expo (impTs 0 [.one (.s (.flt .f64 q2f))]).2.length) = zbc q2f (fun c0_ => some ((AV.v (TV.one (At.flt FloatKind.f64 c0_))), [])) := by kernel_rfl
theorem z2d : SumOne Try.prog 104 z2u := sum_of (Γ := Γ3) (fuel := 8) (d := 8) tyTab_ok (FnL.ok fnTab_ok _ _) (LpL.ok lt3_ok) (SumL.ok tb3_ok _) mixed (by
  intro pts v news hp hc
  clear hc
  unfold z2u at hp
  split at hp
  · rename_i q2f
    exact Eq.trans (Eq.trans (zso q2f) (zor (zm2 q2f) rfl q2f (fun c0_ => some c0_))) (fin_out (o := (zm2 q2f)) (x := zbf q2f) (d := default) (V := fun r => ((AV.v (TV.one (At.flt FloatKind.f64 r))), [])) (fun r => rfl) hp)
  · cases hp)
noncomputable def z39 : List PT → Option (Bool × AV × List Blk)
  | [.agg [.row 1 q19 (.fl .f32 q1t), .row 1 q1h (.fl .f32 q1w), .row 1 q1k (.fl .f32 q1y)]] => some ((zij q19 q1t q1h q1w q1k q1y), ((AV.v (TV.agg [(At.sl 0 0 (zhd q19 q1t q1h q1w q1k q1y) 1), (At.sl 1 0 (zgy q19 q1t q1h q1w q1k q1y) 1), (At.sl 2 0 (zh0 q19 q1t q1h q1w q1k q1y) 1)])), [(Blk.mk Bool.true (Body.fl FloatKind.f32 (zhc q19 q1t q1h q1w q1k q1y))), (Blk.mk Bool.true (Body.fl FloatKind.f32 (zh3 q19 q1t q1h q1w q1k q1y))), (Blk.mk Bool.true (Body.fl FloatKind.f32 (zgr q19 q1t q1h q1w q1k q1y)))]))
  | _ => none
def zmq (q19 : Nat) (q1t : List Nat) (q1h : Nat) (q1w : List Nat) (q1k : Nat) (q1y : List Nat) : Option (Nat × Nat × Nat × (List Nat) × (List Nat) × (List Nat)) → Option (AV × List Blk)
  | some r => some ((AV.v (TV.agg [(At.sl 0 0 r.1 1), (At.sl 1 0 r.2.1 1), (At.sl 2 0 r.2.2.1 1)])), [(Blk.mk Bool.true (Body.fl FloatKind.f32 r.2.2.2.1)), (Blk.mk Bool.true (Body.fl FloatKind.f32 r.2.2.2.2.1)), (Blk.mk Bool.true (Body.fl FloatKind.f32 r.2.2.2.2.2))])
  | none => none
theorem zt6 (q19 : Nat) (q1t : List Nat) (q1h : Nat) (q1w : List Nat) (q1k : Nat) (q1y : List Nat) : evFn Γ3 8 8 119 (impTs 0 [.agg [.row 1 q19 (.fl .f32 q1t), .row 1 q1h (.fl .f32 q1w), .row 1 q1k (.fl .f32 q1y)]]).1 (impTs 0 [.agg [.row 1 q19 (.fl .f32 q1t), .row 1 q1h (.fl .f32 q1w), .row 1 q1k (.fl .f32 q1y)]]).2 (expo (impTs 0 [.agg [.row 1 q19 (.fl .f32 q1t), .row 1 q1h (.fl .f32 q1w), .row 1 q1k (.fl .f32 q1y)]]).2.length) = zbz q19 q1t q1h q1w q1k q1y (fun c0_ c1_ c2_ c3_ c4_ c5_ => some ((AV.v (TV.agg [(At.sl 0 0 c0_ 1), (At.sl 1 0 c1_ 1), (At.sl 2 0 c2_ 1)])), [(Blk.mk Bool.true (Body.fl FloatKind.f32 c3_)), (Blk.mk Bool.true (Body.fl FloatKind.f32 c4_)), (Blk.mk Bool.true (Body.fl FloatKind.f32 c5_))])) := by kernel_rfl
theorem z2n : SumOne Try.prog 119 z39 := sum_of (Γ := Γ3) (fuel := 8) (d := 8) tyTab_ok (FnL.ok fnTab_ok _ _) (LpL.ok lt3_ok) (SumL.ok tb3_ok _) mixed (by
  intro pts v news hp hc
  clear hc
  unfold z39 at hp
  split at hp
  · rename_i q19 q1t q1h q1w q1k q1y
    exact Eq.trans (Eq.trans (zt6 q19 q1t q1h q1w q1k q1y) (zpk (zmq q19 q1t q1h q1w q1k q1y) rfl q19 q1t q1h q1w q1k q1y (fun c0_ c1_ c2_ c3_ c4_ c5_ => some (c0_, c1_, c2_, c3_, c4_, c5_)))) (fin_out (o := (zmq q19 q1t q1h q1w q1k q1y)) (x := z7h q19 q1t q1h q1w q1k q1y) (d := default) (V := fun r => ((AV.v (TV.agg [(At.sl 0 0 r.1 1), (At.sl 1 0 r.2.1 1), (At.sl 2 0 r.2.2.1 1)])), [(Blk.mk Bool.true (Body.fl FloatKind.f32 r.2.2.2.1)), (Blk.mk Bool.true (Body.fl FloatKind.f32 r.2.2.2.2.1)), (Blk.mk Bool.true (Body.fl FloatKind.f32 r.2.2.2.2.2))])) (fun r => rfl) hp)
  · cases hp)
noncomputable def z2t : List PT → Option (Bool × AV × List Blk)
  | [.one (.row 3 a_n (.fl .f32 a))] => some ((zhb a_n a), ((AV.v (TV.one (At.sl 0 0 (zfk a_n a) 3))), [(Blk.mk Bool.true (Body.fl FloatKind.f32 (zfq a_n a)))]))
  | _ => none
def zm1 (a_n : Nat) (a : List Nat) : Option (Nat × (List Nat)) → Option (AV × List Blk)
  | some r => some ((AV.v (TV.one (At.sl 0 0 r.1 3))), [(Blk.mk Bool.true (Body.fl FloatKind.f32 r.2))])
  | none => none
theorem zsc (a_n : Nat) (a : List Nat) : evFn Γ3 8 8 120 (impTs 0 [.one (.row 3 a_n (.fl .f32 a))]).1 (impTs 0 [.one (.row 3 a_n (.fl .f32 a))]).2 (expo (impTs 0 [.one (.row 3 a_n (.fl .f32 a))]).2.length) = zbh a_n a (fun c0_ c1_ => some ((AV.v (TV.one (At.sl 0 0 c0_ 3))), [(Blk.mk Bool.true (Body.fl FloatKind.f32 c1_))])) := by kernel_rfl
theorem z2e : SumOne Try.prog 120 z2t := sum_of (Γ := Γ3) (fuel := 8) (d := 8) tyTab_ok (FnL.ok fnTab_ok _ _) (LpL.ok lt3_ok) (SumL.ok tb3_ok _) mixed (by
  intro pts v news hp hc
  clear hc
  unfold z2t at hp
  split at hp
  · rename_i a_n a
    exact Eq.trans (Eq.trans (zsc a_n a) (zo0 (zm1 a_n a) rfl a_n a (fun c0_ c1_ => some (c0_, c1_)))) (fin_out (o := (zm1 a_n a)) (x := z9l a_n a) (d := default) (V := fun r => ((AV.v (TV.one (At.sl 0 0 r.1 3))), [(Blk.mk Bool.true (Body.fl FloatKind.f32 r.2))])) (fun r => rfl) hp)
  · cases hp)
noncomputable def z2s : List PT → Option (Bool × AV × List Blk)
  | [.one (.row 1 a_n (.fl .f32 a)), .one (.row 1 b_n (.fl .f32 b))] => some ((zb4 a_n a b_n b), ((AV.v (TV.one (At.bool (zaj a_n a b_n b)))), []))
  | _ => none
def zlu (a_n : Nat) (a : List Nat) (b_n : Nat) (b : List Nat) : Option (Bool) → Option (AV × List Blk)
  | some r => some ((AV.v (TV.one (At.bool r))), [])
  | none => none
theorem zs0 (a_n : Nat) (a : List Nat) (b_n : Nat) (b : List Nat) : evFn Γ3 8 8 168 (impTs 0 [.one (.row 1 a_n (.fl .f32 a)), .one (.row 1 b_n (.fl .f32 b))]).1 (impTs 0 [.one (.row 1 a_n (.fl .f32 a)), .one (.row 1 b_n (.fl .f32 b))]).2 (expo (impTs 0 [.one (.row 1 a_n (.fl .f32 a)), .one (.row 1 b_n (.fl .f32 b))]).2.length) = zax a_n a b_n b (fun c0_ => some ((AV.v (TV.one (At.bool c0_))), [])) := by kernel_rfl
theorem z2c : SumOne Try.prog 168 z2s := sum_of (Γ := Γ3) (fuel := 8) (d := 8) tyTab_ok (FnL.ok fnTab_ok _ _) (LpL.ok lt3_ok) (SumL.ok tb3_ok _) mixed (by
  intro pts v news hp hc
  clear hc
  unfold z2s at hp
  split at hp
  · rename_i a_n a b_n b
    exact Eq.trans (Eq.trans (zs0 a_n a b_n b) (zoh (zlu a_n a b_n b) rfl a_n a b_n b (fun c0_ => some c0_))) (fin_out (o := (zlu a_n a b_n b)) (x := zbj a_n a b_n b) (d := default) (V := fun r => ((AV.v (TV.one (At.bool r))), [])) (fun r => rfl) hp)
  · cases hp)
noncomputable def z2g : List PT → Option (Bool × AV × List Blk)
  | [.one (.s (.flt .f64 q18))] => some ((zfn q18), ((AV.v (TV.one (At.flt FloatKind.f64 (zbu q18)))), []))
  | _ => none
def zlm (q18 : Nat) : Option (Nat) → Option (AV × List Blk)
  | some r => some ((AV.v (TV.one (At.flt FloatKind.f64 r))), [])
  | none => none
theorem zrc (q18 : Nat) : evFn Γ3 8 8 188 (impTs 0 [.one (.s (.flt .f64 q18))]).1 (impTs 0 [.one (.s (.flt .f64 q18))]).2 (expo (impTs 0 [.one (.s (.flt .f64 q18))]).2.length) = z8c q18 (fun c0_ => some ((AV.v (TV.one (At.flt FloatKind.f64 c0_))), [])) := by kernel_rfl
theorem z25 : SumOne Try.prog 188 z2g := sum_of (Γ := Γ3) (fuel := 8) (d := 8) tyTab_ok (FnL.ok fnTab_ok _ _) (LpL.ok lt3_ok) (SumL.ok tb3_ok _) mixed (by
  intro pts v news hp hc
  clear hc
  unfold z2g at hp
  split at hp
  · rename_i q18
    exact Eq.trans (Eq.trans (zrc q18) (znx (zlm q18) rfl q18 (fun c0_ => some c0_))) (fin_out (o := (zlm q18)) (x := z7z q18) (d := default) (V := fun r => ((AV.v (TV.one (At.flt FloatKind.f64 r))), [])) (fun r => rfl) hp)
  · cases hp)
noncomputable def z1p : Nat → St → Option (Bool × LO)
  | 2, (St.mk [(0, (AV.v (TV.one (At.vw 0 0 an 3)))), (1, (AV.v (TV.one (At.vw 1 0 bn 3)))), (5, (AV.v (TV.one (At.int IntKind.i64 i))))] [(Blk.mk Bool.false (Body.fl FloatKind.f32 b0)), (Blk.mk Bool.false (Body.fl FloatKind.f32 b1))]) => some ((zao an bn b0 b1 i), (LO.two (zag an bn b0 b1 i) (LO.one Ex.ret (St.mk [(4, (AV.v (TV.one (At.bool Bool.false))))] [(Blk.mk Bool.false (Body.fl FloatKind.f32 b0)), (Blk.mk Bool.false (Body.fl FloatKind.f32 b1))])) (LO.one (Ex.exit 0) (St.mk [(0, (AV.v (TV.one (At.vw 0 0 an 3)))), (1, (AV.v (TV.one (At.vw 1 0 bn 3)))), (5, (AV.v (TV.one (At.int IntKind.i64 (zex an bn b0 b1 i))))), (14, (AV.v (TV.one (At.bool (zes an bn b0 b1 i)))))] [(Blk.mk Bool.false (Body.fl FloatKind.f32 b0)), (Blk.mk Bool.false (Body.fl FloatKind.f32 b1))]))))
  | _, _ => none
def zas (an : Nat) (bn : Nat) (b0 : List Nat) (b1 : List Nat) : Option ((Unit) ⊕ (Int × Bool)) → Option (Ex × St)
  | none => none
  | some (Sum.inl r) => some (Ex.ret, (St.mk [(4, (AV.v (TV.one (At.bool Bool.false))))] [(Blk.mk Bool.false (Body.fl FloatKind.f32 b0)), (Blk.mk Bool.false (Body.fl FloatKind.f32 b1))]))
  | some (Sum.inr r) => some ((Ex.exit 0), (St.mk [(0, (AV.v (TV.one (At.vw 0 0 an 3)))), (1, (AV.v (TV.one (At.vw 1 0 bn 3)))), (5, (AV.v (TV.one (At.int IntKind.i64 r.1)))), (14, (AV.v (TV.one (At.bool r.2))))] [(Blk.mk Bool.false (Body.fl FloatKind.f32 b0)), (Blk.mk Bool.false (Body.fl FloatKind.f32 b1))]))
def zoc (an : Nat) (bn : Nat) (b0 : List Nat) (b1 : List Nat) (x : Option ((Unit) ⊕ (Int × Bool))) : LO := (LO.two (oL x) (LO.one Ex.ret (St.mk [(4, (AV.v (TV.one (At.bool Bool.false))))] [(Blk.mk Bool.false (Body.fl FloatKind.f32 b0)), (Blk.mk Bool.false (Body.fl FloatKind.f32 b1))])) (LO.one (Ex.exit 0) (St.mk [(0, (AV.v (TV.one (At.vw 0 0 an 3)))), (1, (AV.v (TV.one (At.vw 1 0 bn 3)))), (5, (AV.v (TV.one (At.int IntKind.i64 ((tR x).getD default).1)))), (14, (AV.v (TV.one (At.bool ((tR x).getD default).2))))] [(Blk.mk Bool.false (Body.fl FloatKind.f32 b0)), (Blk.mk Bool.false (Body.fl FloatKind.f32 b1))])))
theorem zpn (an : Nat) (bn : Nat) (b0 : List Nat) (b1 : List Nat) : ∀ x : Option ((Unit) ⊕ (Int × Bool)), x.isSome = true → (zas an bn b0 b1) x = some (pick (zoc an bn b0 b1 x))
  | none, h => by cases h
  | some (Sum.inl r), _ => rfl
  | some (Sum.inr r), _ => rfl
theorem zp7 (an : Nat) (bn : Nat) (i : Int) (b0 : List Nat) (b1 : List Nat) (K : Ex → St → Option (Ex × St)) : evC (R := Ex × St) Γ3 (evFn Γ3 8 8) 122 2 fi122.nt fi122.live fi122.nl 8 (findL 4 (loopsIn fi122.code)) (St.mk [(0, (AV.v (TV.one (At.vw 0 0 an 3)))), (1, (AV.v (TV.one (At.vw 1 0 bn 3)))), (5, (AV.v (TV.one (At.int IntKind.i64 i))))] [(Blk.mk Bool.false (Body.fl FloatKind.f32 b0)), (Blk.mk Bool.false (Body.fl FloatKind.f32 b1))]) K = z79 an bn b0 b1 i (fun i' => K .normal (St.mk [(0, (AV.v (TV.one (At.vw 0 0 an 3)))), (1, (AV.v (TV.one (At.vw 1 0 bn 3)))), (5, (AV.v (TV.one (At.int IntKind.i64 i'))))] [(Blk.mk Bool.false (Body.fl FloatKind.f32 b0)), (Blk.mk Bool.false (Body.fl FloatKind.f32 b1))])) (fun _ => K Ex.ret (St.mk [(4, (AV.v (TV.one (At.bool Bool.false))))] [(Blk.mk Bool.false (Body.fl FloatKind.f32 b0)), (Blk.mk Bool.false (Body.fl FloatKind.f32 b1))])) (fun c0_ c1_ => K (Ex.exit 0) (St.mk [(0, (AV.v (TV.one (At.vw 0 0 an 3)))), (1, (AV.v (TV.one (At.vw 1 0 bn 3)))), (5, (AV.v (TV.one (At.int IntKind.i64 c0_)))), (14, (AV.v (TV.one (At.bool c1_))))] [(Blk.mk Bool.false (Body.fl FloatKind.f32 b0)), (Blk.mk Bool.false (Body.fl FloatKind.f32 b1))])) := by kernel_rfl
theorem zpx (an : Nat) (bn : Nat) (b0 : List Nat) (b1 : List Nat) : ∀ (n : Nat) (i : Int), iter 122 4 2 (evC (R := Ex × St) Γ3 (evFn Γ3 8 8) 122 2 fi122.nt fi122.live fi122.nl 8 (findL 4 (loopsIn fi122.code))) n (St.mk [(0, (AV.v (TV.one (At.vw 0 0 an 3)))), (1, (AV.v (TV.one (At.vw 1 0 bn 3)))), (5, (AV.v (TV.one (At.int IntKind.i64 i))))] [(Blk.mk Bool.false (Body.fl FloatKind.f32 b0)), (Blk.mk Bool.false (Body.fl FloatKind.f32 b1))]) (fun e st => some (e, st)) = (zas an bn b0 b1) (z5l an bn b0 b1 n i) := by
  intro n
  induction n with
  | zero => intros; rfl
  | succ n ih =>
    intro i
    refine Eq.trans (iter_succ ..) (Eq.trans (zp7 an bn i b0 b1 (nextK 122 4 2 (evC (R := Ex × St) Γ3 (evFn Γ3 8 8) 122 2 fi122.nt fi122.live fi122.nl 8 (findL 4 (loopsIn fi122.code))) n (fun e st => some (e, st)))) (Eq.trans ?_ (zmy (zas an bn b0 b1) rfl an bn b0 b1 i (fun i' => z5l an bn b0 b1 n i') (fun _ => some (Sum.inl ())) (fun c0_ c1_ => some (Sum.inr (c0_, c1_))))))
    exact congrArg (fun kn_ => z79 an bn b0 b1 i kn_ (fun _ => (zas an bn b0 b1) (some (Sum.inl ()))) (fun c0_ c1_ => (zas an bn b0 b1) (some (Sum.inr (c0_, c1_))))) (funext fun i' => ih i')
theorem z1h : LoopOne Try.prog fnTab 122 4 z1p := lp_of (Γ := Γ3) tyTab_ok (FnL.ok fnTab_ok _ _) (LpL.ok lt3_ok) (SumL.ok tb3_ok _) mixed (fi := fi122) (by kernel_rfl) (by kernel_rfl) (by
  intro lo st out hp
  unfold z1p at hp
  split at hp
  · rename_i an bn i b0 b1
    injection hp with hp
    injection hp with h1 h2
    subst h2
    exact ⟨8, 8, big, Eq.trans (zpx an bn b0 b1 big i) (zpn an bn b0 b1 (z5l an bn b0 b1 big i) h1)⟩
  · cases hp)
noncomputable def z04 : Nat → St → Option (Bool × LO)
  | 1, (St.mk [(0, (AV.v (TV.one (At.vw 0 0 sn 1)))), (1, (AV.v (TV.one (At.fn 148 [])))), (7, (AV.v (TV.one (At.int IntKind.i64 t7)))), (8, (AV.v (TV.one (At.int IntKind.i64 t8))))] [(Blk.mk Bool.false (Body.fl FloatKind.f32 b0))]) => some ((z49 sn t7 b0 t8), (LO.two (z44 sn t7 b0 t8) (LO.one Ex.ret (St.mk [(4, (AV.v (TV.one (At.int IntKind.i64 (z6f sn t7 b0 t8)))))] [(Blk.mk Bool.false (Body.fl FloatKind.f32 b0))])) (LO.one (Ex.exit 0) (St.mk [(0, (AV.v (TV.one (At.vw 0 0 sn 1)))), (1, (AV.v (TV.one (At.fn 148 [])))), (7, (AV.v (TV.one (At.int IntKind.i64 t7)))), (8, (AV.v (TV.one (At.int IntKind.i64 (z7y sn t7 b0 t8))))), (9, (AV.v (TV.one (At.bool (z7w sn t7 b0 t8)))))] [(Blk.mk Bool.false (Body.fl FloatKind.f32 b0))]))))
  | _, _ => none
def z5w (sn : Nat) (t7 : Int) (b0 : List Nat) : Option ((Int) ⊕ (Int × Bool)) → Option (Ex × St)
  | none => none
  | some (Sum.inl r) => some (Ex.ret, (St.mk [(4, (AV.v (TV.one (At.int IntKind.i64 r))))] [(Blk.mk Bool.false (Body.fl FloatKind.f32 b0))]))
  | some (Sum.inr r) => some ((Ex.exit 0), (St.mk [(0, (AV.v (TV.one (At.vw 0 0 sn 1)))), (1, (AV.v (TV.one (At.fn 148 [])))), (7, (AV.v (TV.one (At.int IntKind.i64 t7)))), (8, (AV.v (TV.one (At.int IntKind.i64 r.1)))), (9, (AV.v (TV.one (At.bool r.2))))] [(Blk.mk Bool.false (Body.fl FloatKind.f32 b0))]))
def zgn (sn : Nat) (t7 : Int) (b0 : List Nat) (x : Option ((Int) ⊕ (Int × Bool))) : LO := (LO.two (oL x) (LO.one Ex.ret (St.mk [(4, (AV.v (TV.one (At.int IntKind.i64 ((tL x).getD default)))))] [(Blk.mk Bool.false (Body.fl FloatKind.f32 b0))])) (LO.one (Ex.exit 0) (St.mk [(0, (AV.v (TV.one (At.vw 0 0 sn 1)))), (1, (AV.v (TV.one (At.fn 148 [])))), (7, (AV.v (TV.one (At.int IntKind.i64 t7)))), (8, (AV.v (TV.one (At.int IntKind.i64 ((tR x).getD default).1)))), (9, (AV.v (TV.one (At.bool ((tR x).getD default).2))))] [(Blk.mk Bool.false (Body.fl FloatKind.f32 b0))])))
theorem zhn (sn : Nat) (t7 : Int) (b0 : List Nat) : ∀ x : Option ((Int) ⊕ (Int × Bool)), x.isSome = true → (z5w sn t7 b0) x = some (pick (zgn sn t7 b0 x))
  | none, h => by cases h
  | some (Sum.inl r), _ => rfl
  | some (Sum.inr r), _ => rfl
theorem zhr (sn : Nat) (t7 : Int) (t8 : Int) (b0 : List Nat) (K : Ex → St → Option (Ex × St)) : evC (R := Ex × St) Γ3 (evFn Γ3 8 8) 178 1 fi178.nt fi178.live fi178.nl 8 (findL 2 (loopsIn fi178.code)) (St.mk [(0, (AV.v (TV.one (At.vw 0 0 sn 1)))), (1, (AV.v (TV.one (At.fn 148 [])))), (7, (AV.v (TV.one (At.int IntKind.i64 t7)))), (8, (AV.v (TV.one (At.int IntKind.i64 t8))))] [(Blk.mk Bool.false (Body.fl FloatKind.f32 b0))]) K = z1q sn t7 b0 t8 (fun t8' => K .normal (St.mk [(0, (AV.v (TV.one (At.vw 0 0 sn 1)))), (1, (AV.v (TV.one (At.fn 148 [])))), (7, (AV.v (TV.one (At.int IntKind.i64 t7)))), (8, (AV.v (TV.one (At.int IntKind.i64 t8'))))] [(Blk.mk Bool.false (Body.fl FloatKind.f32 b0))])) (fun c0_ => K Ex.ret (St.mk [(4, (AV.v (TV.one (At.int IntKind.i64 c0_))))] [(Blk.mk Bool.false (Body.fl FloatKind.f32 b0))])) (fun c0_ c1_ => K (Ex.exit 0) (St.mk [(0, (AV.v (TV.one (At.vw 0 0 sn 1)))), (1, (AV.v (TV.one (At.fn 148 [])))), (7, (AV.v (TV.one (At.int IntKind.i64 t7)))), (8, (AV.v (TV.one (At.int IntKind.i64 c0_)))), (9, (AV.v (TV.one (At.bool c1_))))] [(Blk.mk Bool.false (Body.fl FloatKind.f32 b0))])) := by kernel_rfl
theorem zhy (sn : Nat) (t7 : Int) (b0 : List Nat) : ∀ (n : Nat) (t8 : Int), iter 178 2 1 (evC (R := Ex × St) Γ3 (evFn Γ3 8 8) 178 1 fi178.nt fi178.live fi178.nl 8 (findL 2 (loopsIn fi178.code))) n (St.mk [(0, (AV.v (TV.one (At.vw 0 0 sn 1)))), (1, (AV.v (TV.one (At.fn 148 [])))), (7, (AV.v (TV.one (At.int IntKind.i64 t7)))), (8, (AV.v (TV.one (At.int IntKind.i64 t8))))] [(Blk.mk Bool.false (Body.fl FloatKind.f32 b0))]) (fun e st => some (e, st)) = (z5w sn t7 b0) (z0o sn t7 b0 n t8) := by
  intro n
  induction n with
  | zero => intros; rfl
  | succ n ih =>
    intro t8
    refine Eq.trans (iter_succ ..) (Eq.trans (zhr sn t7 t8 b0 (nextK 178 2 1 (evC (R := Ex × St) Γ3 (evFn Γ3 8 8) 178 1 fi178.nt fi178.live fi178.nl 8 (findL 2 (loopsIn fi178.code))) n (fun e st => some (e, st)))) (Eq.trans ?_ (zf2 (z5w sn t7 b0) rfl sn t7 b0 t8 (fun t8' => z0o sn t7 b0 n t8') (fun c0_ => some (Sum.inl c0_)) (fun c0_ c1_ => some (Sum.inr (c0_, c1_))))))
    exact congrArg (fun kn_ => z1q sn t7 b0 t8 kn_ (fun c0_ => (z5w sn t7 b0) (some (Sum.inl c0_))) (fun c0_ c1_ => (z5w sn t7 b0) (some (Sum.inr (c0_, c1_))))) (funext fun t8' => ih t8')
theorem z05 : LoopOne Try.prog fnTab 178 2 z04 := lp_of (Γ := Γ3) tyTab_ok (FnL.ok fnTab_ok _ _) (LpL.ok lt3_ok) (SumL.ok tb3_ok _) mixed (fi := fi178) (by kernel_rfl) (by kernel_rfl) (by
  intro lo st out hp
  unfold z04 at hp
  split at hp
  · rename_i sn t7 t8 b0
    injection hp with hp
    injection hp with h1 h2
    subst h2
    exact ⟨8, 8, big, Eq.trans (zhy sn t7 b0 big t8) (zhn sn t7 b0 (z0o sn t7 b0 big t8) h1)⟩
  · cases hp)
noncomputable def z02 : Nat → St → Option (Bool × LO)
  | 1, (St.mk [(0, (AV.v (TV.one (At.vw 0 0 sn 1)))), (1, (AV.v (TV.one (At.fn 150 [])))), (7, (AV.v (TV.one (At.int IntKind.i64 t7)))), (8, (AV.v (TV.one (At.int IntKind.i64 t8))))] [(Blk.mk Bool.false (Body.fl FloatKind.f32 b0))]) => some ((z3y sn t7 b0 t8), (LO.two (z3q sn t7 b0 t8) (LO.one Ex.ret (St.mk [(4, (AV.v (TV.one (At.int IntKind.i64 (z67 sn t7 b0 t8)))))] [(Blk.mk Bool.false (Body.fl FloatKind.f32 b0))])) (LO.one (Ex.exit 0) (St.mk [(0, (AV.v (TV.one (At.vw 0 0 sn 1)))), (1, (AV.v (TV.one (At.fn 150 [])))), (7, (AV.v (TV.one (At.int IntKind.i64 t7)))), (8, (AV.v (TV.one (At.int IntKind.i64 (z7m sn t7 b0 t8))))), (9, (AV.v (TV.one (At.bool (z7n sn t7 b0 t8)))))] [(Blk.mk Bool.false (Body.fl FloatKind.f32 b0))]))))
  | _, _ => none
def z5j (sn : Nat) (t7 : Int) (b0 : List Nat) : Option ((Int) ⊕ (Int × Bool)) → Option (Ex × St)
  | none => none
  | some (Sum.inl r) => some (Ex.ret, (St.mk [(4, (AV.v (TV.one (At.int IntKind.i64 r))))] [(Blk.mk Bool.false (Body.fl FloatKind.f32 b0))]))
  | some (Sum.inr r) => some ((Ex.exit 0), (St.mk [(0, (AV.v (TV.one (At.vw 0 0 sn 1)))), (1, (AV.v (TV.one (At.fn 150 [])))), (7, (AV.v (TV.one (At.int IntKind.i64 t7)))), (8, (AV.v (TV.one (At.int IntKind.i64 r.1)))), (9, (AV.v (TV.one (At.bool r.2))))] [(Blk.mk Bool.false (Body.fl FloatKind.f32 b0))]))
def zfw (sn : Nat) (t7 : Int) (b0 : List Nat) (x : Option ((Int) ⊕ (Int × Bool))) : LO := (LO.two (oL x) (LO.one Ex.ret (St.mk [(4, (AV.v (TV.one (At.int IntKind.i64 ((tL x).getD default)))))] [(Blk.mk Bool.false (Body.fl FloatKind.f32 b0))])) (LO.one (Ex.exit 0) (St.mk [(0, (AV.v (TV.one (At.vw 0 0 sn 1)))), (1, (AV.v (TV.one (At.fn 150 [])))), (7, (AV.v (TV.one (At.int IntKind.i64 t7)))), (8, (AV.v (TV.one (At.int IntKind.i64 ((tR x).getD default).1)))), (9, (AV.v (TV.one (At.bool ((tR x).getD default).2))))] [(Blk.mk Bool.false (Body.fl FloatKind.f32 b0))])))
theorem zgi (sn : Nat) (t7 : Int) (b0 : List Nat) : ∀ x : Option ((Int) ⊕ (Int × Bool)), x.isSome = true → (z5j sn t7 b0) x = some (pick (zfw sn t7 b0 x))
  | none, h => by cases h
  | some (Sum.inl r), _ => rfl
  | some (Sum.inr r), _ => rfl
theorem zgl (sn : Nat) (t7 : Int) (t8 : Int) (b0 : List Nat) (K : Ex → St → Option (Ex × St)) : evC (R := Ex × St) Γ3 (evFn Γ3 8 8) 178 1 fi178.nt fi178.live fi178.nl 8 (findL 2 (loopsIn fi178.code)) (St.mk [(0, (AV.v (TV.one (At.vw 0 0 sn 1)))), (1, (AV.v (TV.one (At.fn 150 [])))), (7, (AV.v (TV.one (At.int IntKind.i64 t7)))), (8, (AV.v (TV.one (At.int IntKind.i64 t8))))] [(Blk.mk Bool.false (Body.fl FloatKind.f32 b0))]) K = z1d sn t7 b0 t8 (fun t8' => K .normal (St.mk [(0, (AV.v (TV.one (At.vw 0 0 sn 1)))), (1, (AV.v (TV.one (At.fn 150 [])))), (7, (AV.v (TV.one (At.int IntKind.i64 t7)))), (8, (AV.v (TV.one (At.int IntKind.i64 t8'))))] [(Blk.mk Bool.false (Body.fl FloatKind.f32 b0))])) (fun c0_ => K Ex.ret (St.mk [(4, (AV.v (TV.one (At.int IntKind.i64 c0_))))] [(Blk.mk Bool.false (Body.fl FloatKind.f32 b0))])) (fun c0_ c1_ => K (Ex.exit 0) (St.mk [(0, (AV.v (TV.one (At.vw 0 0 sn 1)))), (1, (AV.v (TV.one (At.fn 150 [])))), (7, (AV.v (TV.one (At.int IntKind.i64 t7)))), (8, (AV.v (TV.one (At.int IntKind.i64 c0_)))), (9, (AV.v (TV.one (At.bool c1_))))] [(Blk.mk Bool.false (Body.fl FloatKind.f32 b0))])) := by kernel_rfl
theorem zgf (sn : Nat) (t7 : Int) (b0 : List Nat) : ∀ (n : Nat) (t8 : Int), iter 178 2 1 (evC (R := Ex × St) Γ3 (evFn Γ3 8 8) 178 1 fi178.nt fi178.live fi178.nl 8 (findL 2 (loopsIn fi178.code))) n (St.mk [(0, (AV.v (TV.one (At.vw 0 0 sn 1)))), (1, (AV.v (TV.one (At.fn 150 [])))), (7, (AV.v (TV.one (At.int IntKind.i64 t7)))), (8, (AV.v (TV.one (At.int IntKind.i64 t8))))] [(Blk.mk Bool.false (Body.fl FloatKind.f32 b0))]) (fun e st => some (e, st)) = (z5j sn t7 b0) (z0n sn t7 b0 n t8) := by
  intro n
  induction n with
  | zero => intros; rfl
  | succ n ih =>
    intro t8
    refine Eq.trans (iter_succ ..) (Eq.trans (zgl sn t7 t8 b0 (nextK 178 2 1 (evC (R := Ex × St) Γ3 (evFn Γ3 8 8) 178 1 fi178.nt fi178.live fi178.nl 8 (findL 2 (loopsIn fi178.code))) n (fun e st => some (e, st)))) (Eq.trans ?_ (zeg (z5j sn t7 b0) rfl sn t7 b0 t8 (fun t8' => z0n sn t7 b0 n t8') (fun c0_ => some (Sum.inl c0_)) (fun c0_ c1_ => some (Sum.inr (c0_, c1_))))))
    exact congrArg (fun kn_ => z1d sn t7 b0 t8 kn_ (fun c0_ => (z5j sn t7 b0) (some (Sum.inl c0_))) (fun c0_ c1_ => (z5j sn t7 b0) (some (Sum.inr (c0_, c1_))))) (funext fun t8' => ih t8')
theorem z03 : LoopOne Try.prog fnTab 178 2 z02 := lp_of (Γ := Γ3) tyTab_ok (FnL.ok fnTab_ok _ _) (LpL.ok lt3_ok) (SumL.ok tb3_ok _) mixed (fi := fi178) (by kernel_rfl) (by kernel_rfl) (by
  intro lo st out hp
  unfold z02 at hp
  split at hp
  · rename_i sn t7 t8 b0
    injection hp with hp
    injection hp with h1 h2
    subst h2
    exact ⟨8, 8, big, Eq.trans (zgf sn t7 b0 big t8) (zgi sn t7 b0 (z0n sn t7 b0 big t8) h1)⟩
  · cases hp)
noncomputable def z3r : Nat → St → Option (Bool × LO)
  | 4, (St.mk [(0, (AV.v (TV.one (At.ptr 3 0 3)))), (3, (AV.v (TV.one (At.int IntKind.i64 t3)))), (4, (AV.v (TV.one (At.int IntKind.i64 t4))))] [(Blk.mk Bool.false (Body.fl FloatKind.f32 b0)), (Blk.mk Bool.false (Body.fl FloatKind.f32 b1)), (Blk.mk Bool.false (Body.fl FloatKind.f32 b2)), (Blk.mk Bool.false (Body.cells [(At.vw 0 0 q1l 1), (At.vw 1 0 q25 1), (At.vw 2 0 q24 1)]))]) => some ((z9q t3 b0 b1 b2 q1l q25 q24 t4), (LO.two (z93 t3 b0 b1 b2 q1l q25 q24 t4) (LO.one Ex.ret (St.mk [(2, (AV.v (TV.one (At.bool Bool.false))))] [(Blk.mk Bool.false (Body.fl FloatKind.f32 b0)), (Blk.mk Bool.false (Body.fl FloatKind.f32 b1)), (Blk.mk Bool.false (Body.fl FloatKind.f32 b2)), (Blk.mk Bool.false (Body.cells [(At.vw 0 0 q1l 1), (At.vw 1 0 q25 1), (At.vw 2 0 q24 1)]))])) (LO.one (Ex.exit 0) (St.mk [(0, (AV.v (TV.one (At.ptr 3 0 3)))), (3, (AV.v (TV.one (At.int IntKind.i64 t3)))), (4, (AV.v (TV.one (At.int IntKind.i64 (zjk t3 b0 b1 b2 q1l q25 q24 t4))))), (36, (AV.v (TV.one (At.bool (zjm t3 b0 b1 b2 q1l q25 q24 t4)))))] [(Blk.mk Bool.false (Body.fl FloatKind.f32 b0)), (Blk.mk Bool.false (Body.fl FloatKind.f32 b1)), (Blk.mk Bool.false (Body.fl FloatKind.f32 b2)), (Blk.mk Bool.false (Body.cells [(At.vw 0 0 q1l 1), (At.vw 1 0 q25 1), (At.vw 2 0 q24 1)]))]))))
  | _, _ => none
def zft (t3 : Int) (b0 : List Nat) (b1 : List Nat) (b2 : List Nat) (q1l : Nat) (q25 : Nat) (q24 : Nat) : Option ((Unit) ⊕ (Int × Bool)) → Option (Ex × St)
  | none => none
  | some (Sum.inl r) => some (Ex.ret, (St.mk [(2, (AV.v (TV.one (At.bool Bool.false))))] [(Blk.mk Bool.false (Body.fl FloatKind.f32 b0)), (Blk.mk Bool.false (Body.fl FloatKind.f32 b1)), (Blk.mk Bool.false (Body.fl FloatKind.f32 b2)), (Blk.mk Bool.false (Body.cells [(At.vw 0 0 q1l 1), (At.vw 1 0 q25 1), (At.vw 2 0 q24 1)]))]))
  | some (Sum.inr r) => some ((Ex.exit 0), (St.mk [(0, (AV.v (TV.one (At.ptr 3 0 3)))), (3, (AV.v (TV.one (At.int IntKind.i64 t3)))), (4, (AV.v (TV.one (At.int IntKind.i64 r.1)))), (36, (AV.v (TV.one (At.bool r.2))))] [(Blk.mk Bool.false (Body.fl FloatKind.f32 b0)), (Blk.mk Bool.false (Body.fl FloatKind.f32 b1)), (Blk.mk Bool.false (Body.fl FloatKind.f32 b2)), (Blk.mk Bool.false (Body.cells [(At.vw 0 0 q1l 1), (At.vw 1 0 q25 1), (At.vw 2 0 q24 1)]))]))
def zt3 (t3 : Int) (b0 : List Nat) (b1 : List Nat) (b2 : List Nat) (q1l : Nat) (q25 : Nat) (q24 : Nat) (x : Option ((Unit) ⊕ (Int × Bool))) : LO := (LO.two (oL x) (LO.one Ex.ret (St.mk [(2, (AV.v (TV.one (At.bool Bool.false))))] [(Blk.mk Bool.false (Body.fl FloatKind.f32 b0)), (Blk.mk Bool.false (Body.fl FloatKind.f32 b1)), (Blk.mk Bool.false (Body.fl FloatKind.f32 b2)), (Blk.mk Bool.false (Body.cells [(At.vw 0 0 q1l 1), (At.vw 1 0 q25 1), (At.vw 2 0 q24 1)]))])) (LO.one (Ex.exit 0) (St.mk [(0, (AV.v (TV.one (At.ptr 3 0 3)))), (3, (AV.v (TV.one (At.int IntKind.i64 t3)))), (4, (AV.v (TV.one (At.int IntKind.i64 ((tR x).getD default).1)))), (36, (AV.v (TV.one (At.bool ((tR x).getD default).2))))] [(Blk.mk Bool.false (Body.fl FloatKind.f32 b0)), (Blk.mk Bool.false (Body.fl FloatKind.f32 b1)), (Blk.mk Bool.false (Body.fl FloatKind.f32 b2)), (Blk.mk Bool.false (Body.cells [(At.vw 0 0 q1l 1), (At.vw 1 0 q25 1), (At.vw 2 0 q24 1)]))])))
theorem zu3 (t3 : Int) (b0 : List Nat) (b1 : List Nat) (b2 : List Nat) (q1l : Nat) (q25 : Nat) (q24 : Nat) : ∀ x : Option ((Unit) ⊕ (Int × Bool)), x.isSome = true → (zft t3 b0 b1 b2 q1l q25 q24) x = some (pick (zt3 t3 b0 b1 b2 q1l q25 q24 x))
  | none, h => by cases h
  | some (Sum.inl r), _ => rfl
  | some (Sum.inr r), _ => rfl
theorem ztt (t3 : Int) (t4 : Int) (b0 : List Nat) (b1 : List Nat) (b2 : List Nat) (q1l : Nat) (q25 : Nat) (q24 : Nat) (K : Ex → St → Option (Ex × St)) : evC (R := Ex × St) Γ3 (evFn Γ3 8 8) 184 4 fi184.nt fi184.live fi184.nl 8 (findL 5 (loopsIn fi184.code)) (St.mk [(0, (AV.v (TV.one (At.ptr 3 0 3)))), (3, (AV.v (TV.one (At.int IntKind.i64 t3)))), (4, (AV.v (TV.one (At.int IntKind.i64 t4))))] [(Blk.mk Bool.false (Body.fl FloatKind.f32 b0)), (Blk.mk Bool.false (Body.fl FloatKind.f32 b1)), (Blk.mk Bool.false (Body.fl FloatKind.f32 b2)), (Blk.mk Bool.false (Body.cells [(At.vw 0 0 q1l 1), (At.vw 1 0 q25 1), (At.vw 2 0 q24 1)]))]) K = z8u t3 b0 b1 b2 q1l q25 q24 t4 (fun t4' => K .normal (St.mk [(0, (AV.v (TV.one (At.ptr 3 0 3)))), (3, (AV.v (TV.one (At.int IntKind.i64 t3)))), (4, (AV.v (TV.one (At.int IntKind.i64 t4'))))] [(Blk.mk Bool.false (Body.fl FloatKind.f32 b0)), (Blk.mk Bool.false (Body.fl FloatKind.f32 b1)), (Blk.mk Bool.false (Body.fl FloatKind.f32 b2)), (Blk.mk Bool.false (Body.cells [(At.vw 0 0 q1l 1), (At.vw 1 0 q25 1), (At.vw 2 0 q24 1)]))])) (fun _ => K Ex.ret (St.mk [(2, (AV.v (TV.one (At.bool Bool.false))))] [(Blk.mk Bool.false (Body.fl FloatKind.f32 b0)), (Blk.mk Bool.false (Body.fl FloatKind.f32 b1)), (Blk.mk Bool.false (Body.fl FloatKind.f32 b2)), (Blk.mk Bool.false (Body.cells [(At.vw 0 0 q1l 1), (At.vw 1 0 q25 1), (At.vw 2 0 q24 1)]))])) (fun c0_ c1_ => K (Ex.exit 0) (St.mk [(0, (AV.v (TV.one (At.ptr 3 0 3)))), (3, (AV.v (TV.one (At.int IntKind.i64 t3)))), (4, (AV.v (TV.one (At.int IntKind.i64 c0_)))), (36, (AV.v (TV.one (At.bool c1_))))] [(Blk.mk Bool.false (Body.fl FloatKind.f32 b0)), (Blk.mk Bool.false (Body.fl FloatKind.f32 b1)), (Blk.mk Bool.false (Body.fl FloatKind.f32 b2)), (Blk.mk Bool.false (Body.cells [(At.vw 0 0 q1l 1), (At.vw 1 0 q25 1), (At.vw 2 0 q24 1)]))])) := by kernel_rfl
theorem zty (t3 : Int) (b0 : List Nat) (b1 : List Nat) (b2 : List Nat) (q1l : Nat) (q25 : Nat) (q24 : Nat) : ∀ (n : Nat) (t4 : Int), iter 184 5 4 (evC (R := Ex × St) Γ3 (evFn Γ3 8 8) 184 4 fi184.nt fi184.live fi184.nl 8 (findL 5 (loopsIn fi184.code))) n (St.mk [(0, (AV.v (TV.one (At.ptr 3 0 3)))), (3, (AV.v (TV.one (At.int IntKind.i64 t3)))), (4, (AV.v (TV.one (At.int IntKind.i64 t4))))] [(Blk.mk Bool.false (Body.fl FloatKind.f32 b0)), (Blk.mk Bool.false (Body.fl FloatKind.f32 b1)), (Blk.mk Bool.false (Body.fl FloatKind.f32 b2)), (Blk.mk Bool.false (Body.cells [(At.vw 0 0 q1l 1), (At.vw 1 0 q25 1), (At.vw 2 0 q24 1)]))]) (fun e st => some (e, st)) = (zft t3 b0 b1 b2 q1l q25 q24) (z6s t3 b0 b1 b2 q1l q25 q24 n t4) := by
  intro n
  induction n with
  | zero => intros; rfl
  | succ n ih =>
    intro t4
    refine Eq.trans (iter_succ ..) (Eq.trans (ztt t3 t4 b0 b1 b2 q1l q25 q24 (nextK 184 5 4 (evC (R := Ex × St) Γ3 (evFn Γ3 8 8) 184 4 fi184.nt fi184.live fi184.nl 8 (findL 5 (loopsIn fi184.code))) n (fun e st => some (e, st)))) (Eq.trans ?_ (zqs (zft t3 b0 b1 b2 q1l q25 q24) rfl t3 b0 b1 b2 q1l q25 q24 t4 (fun t4' => z6s t3 b0 b1 b2 q1l q25 q24 n t4') (fun _ => some (Sum.inl ())) (fun c0_ c1_ => some (Sum.inr (c0_, c1_))))))
    exact congrArg (fun kn_ => z8u t3 b0 b1 b2 q1l q25 q24 t4 kn_ (fun _ => (zft t3 b0 b1 b2 q1l q25 q24) (some (Sum.inl ()))) (fun c0_ c1_ => (zft t3 b0 b1 b2 q1l q25 q24) (some (Sum.inr (c0_, c1_))))) (funext fun t4' => ih t4')
theorem z34 : LoopOne Try.prog fnTab 184 5 z3r := lp_of (Γ := Γ3) tyTab_ok (FnL.ok fnTab_ok _ _) (LpL.ok lt3_ok) (SumL.ok tb3_ok _) mixed (fi := fi184) (by kernel_rfl) (by kernel_rfl) (by
  intro lo st out hp
  unfold z3r at hp
  split at hp
  · rename_i t3 t4 b0 b1 b2 q1l q25 q24
    injection hp with hp
    injection hp with h1 h2
    subst h2
    exact ⟨8, 8, big, Eq.trans (zty t3 b0 b1 b2 q1l q25 q24 big t4) (zu3 t3 b0 b1 b2 q1l q25 q24 (z6s t3 b0 b1 b2 q1l q25 q24 big t4) h1)⟩
  · cases hp)
noncomputable def tb4 : List (Nat × (List PT → Option (Bool × AV × List Blk))) := [(156, z0s), (181, z1a), (182, z22), (189, z21), (26, z2r), (55, z29), (84, z0x), (89, z3u), (102, z63), (112, z1y), (115, z2a), (123, z2p), (126, z4h), (157, z62), (160, z1x), (162, z4j), (167, z28), (175, z3t), (176, z1o), (187, z2b), (74, z3m), (83, z0w), (85, z46), (90, z3l), (103, z47), (111, z2m), (116, z31), (138, z2z), (148, z1v), (150, z18), (169, z2l), (185, z30), (52, z3v), (154, z2k), (158, z5i), (166, z2j), (104, z2u), (119, z39), (120, z2t), (168, z2s), (188, z2g)]
noncomputable def lt4 : List ((Nat × Nat) × (Nat → St → Option (Bool × LO))) := [((166, 3), z15), ((120, 3), z1g), ((168, 4), z1e), ((188, 17), z10), ((122, 4), z1p), ((178, 2), z04), ((178, 2), z02), ((184, 5), z3r)]
noncomputable def Γ4 : Ctx := ⟨tyTab, fnTab, tblSum tb4, tblLp lt4⟩
theorem tb4_ok : SumL Try.prog tb4 := SumL.cons z0r (SumL.cons z11 (SumL.cons z1i (SumL.cons z1j (SumL.cons z26 (SumL.cons z1u (SumL.cons z0t (SumL.cons z2x (SumL.cons z4q (SumL.cons z1c (SumL.cons z1s (SumL.cons z27 (SumL.cons z3h (SumL.cons z4r (SumL.cons z1f (SumL.cons z3f (SumL.cons z1t (SumL.cons z2y (SumL.cons z14 (SumL.cons z1r (SumL.cons z2v (SumL.cons z0v (SumL.cons z3b (SumL.cons z2w (SumL.cons z38 (SumL.cons z23 (SumL.cons z2f (SumL.cons z2i (SumL.cons z1b (SumL.cons z13 (SumL.cons z24 (SumL.cons z2h (SumL.cons z35 (SumL.cons z20 (SumL.cons z45 (SumL.cons z1z (SumL.cons z2d (SumL.cons z2n (SumL.cons z2e (SumL.cons z2c (SumL.cons z25 (SumL.nil)))))))))))))))))))))))))))))))))))))))))
theorem lt4_ok : LpL Try.prog fnTab lt4 := LpL.cons z12 (LpL.cons z17 (LpL.cons z16 (LpL.cons z0y (LpL.cons z1h (LpL.cons z05 (LpL.cons z03 (LpL.cons z34 (LpL.nil))))))))
noncomputable def z4v : List PT → Option (Bool × AV × List Blk)
  | [.agg [.row 1 q0l (.fl .f32 q0r), .row 1 q0m (.fl .f32 q0t), .row 1 q0n (.fl .f32 q0u), .row 3 q12 (.fl .f32 q1e), .s (.int .i64 q1v), .s (.flt .f32 q28), .s (.flt .f32 q27)]] => some ((zcj q0l q0r q0m q0t q0n q0u q12 q1e q1v q28 q27), ((AV.v (TV.agg [(At.sl 0 0 (z1l q0l q0r q0m q0t q0n q0u q12 q1e q1v q28 q27) 1), (At.sl 1 0 (z1m q0l q0r q0m q0t q0n q0u q12 q1e q1v q28 q27) 1), (At.sl 2 0 (z1n q0l q0r q0m q0t q0n q0u q12 q1e q1v q28 q27) 1), (At.sl 3 0 (z1k q0l q0r q0m q0t q0n q0u q12 q1e q1v q28 q27) 3), (At.int IntKind.i64 q1v), (At.flt FloatKind.f32 q28), (At.flt FloatKind.f32 q27)])), [(Blk.mk Bool.true (Body.fl FloatKind.f32 (z5t q0l q0r q0m q0t q0n q0u q12 q1e q1v q28 q27))), (Blk.mk Bool.true (Body.fl FloatKind.f32 (z5o q0l q0r q0m q0t q0n q0u q12 q1e q1v q28 q27))), (Blk.mk Bool.true (Body.fl FloatKind.f32 (z5v q0l q0r q0m q0t q0n q0u q12 q1e q1v q28 q27))), (Blk.mk Bool.true (Body.fl FloatKind.f32 (z5p q0l q0r q0m q0t q0n q0u q12 q1e q1v q28 q27)))]))
  | _ => none
def zom (q0l : Nat) (q0r : List Nat) (q0m : Nat) (q0t : List Nat) (q0n : Nat) (q0u : List Nat) (q12 : Nat) (q1e : List Nat) (q1v : Int) (q28 : Nat) (q27 : Nat) : Option (Nat × Nat × Nat × Nat × (List Nat) × (List Nat) × (List Nat) × (List Nat)) → Option (AV × List Blk)
  | some r => some ((AV.v (TV.agg [(At.sl 0 0 r.1 1), (At.sl 1 0 r.2.1 1), (At.sl 2 0 r.2.2.1 1), (At.sl 3 0 r.2.2.2.1 3), (At.int IntKind.i64 q1v), (At.flt FloatKind.f32 q28), (At.flt FloatKind.f32 q27)])), [(Blk.mk Bool.true (Body.fl FloatKind.f32 r.2.2.2.2.1)), (Blk.mk Bool.true (Body.fl FloatKind.f32 r.2.2.2.2.2.1)), (Blk.mk Bool.true (Body.fl FloatKind.f32 r.2.2.2.2.2.2.1)), (Blk.mk Bool.true (Body.fl FloatKind.f32 r.2.2.2.2.2.2.2))])
  | none => none
theorem zur (q0l : Nat) (q0r : List Nat) (q0m : Nat) (q0t : List Nat) (q0n : Nat) (q0u : List Nat) (q12 : Nat) (q1e : List Nat) (q1v : Int) (q28 : Nat) (q27 : Nat) : evFn Γ4 8 8 54 (impTs 0 [.agg [.row 1 q0l (.fl .f32 q0r), .row 1 q0m (.fl .f32 q0t), .row 1 q0n (.fl .f32 q0u), .row 3 q12 (.fl .f32 q1e), .s (.int .i64 q1v), .s (.flt .f32 q28), .s (.flt .f32 q27)]]).1 (impTs 0 [.agg [.row 1 q0l (.fl .f32 q0r), .row 1 q0m (.fl .f32 q0t), .row 1 q0n (.fl .f32 q0u), .row 3 q12 (.fl .f32 q1e), .s (.int .i64 q1v), .s (.flt .f32 q28), .s (.flt .f32 q27)]]).2 (expo (impTs 0 [.agg [.row 1 q0l (.fl .f32 q0r), .row 1 q0m (.fl .f32 q0t), .row 1 q0n (.fl .f32 q0u), .row 3 q12 (.fl .f32 q1e), .s (.int .i64 q1v), .s (.flt .f32 q28), .s (.flt .f32 q27)]]).2.length) = ze6 q0l q0r q0m q0t q0n q0u q12 q1e q1v q28 q27 (fun c0_ c1_ c2_ c3_ c4_ c5_ c6_ c7_ => some ((AV.v (TV.agg [(At.sl 0 0 c0_ 1), (At.sl 1 0 c1_ 1), (At.sl 2 0 c2_ 1), (At.sl 3 0 c3_ 3), (At.int IntKind.i64 q1v), (At.flt FloatKind.f32 q28), (At.flt FloatKind.f32 q27)])), [(Blk.mk Bool.true (Body.fl FloatKind.f32 c4_)), (Blk.mk Bool.true (Body.fl FloatKind.f32 c5_)), (Blk.mk Bool.true (Body.fl FloatKind.f32 c6_)), (Blk.mk Bool.true (Body.fl FloatKind.f32 c7_))])) := by kernel_rfl
theorem z40 : SumOne Try.prog 54 z4v := sum_of (Γ := Γ4) (fuel := 8) (d := 8) tyTab_ok (FnL.ok fnTab_ok _ _) (LpL.ok lt4_ok) (SumL.ok tb4_ok _) mixed (by
  intro pts v news hp hc
  clear hc
  unfold z4v at hp
  split at hp
  · rename_i q0l q0r q0m q0t q0n q0u q12 q1e q1v q28 q27
    exact Eq.trans (Eq.trans (zur q0l q0r q0m q0t q0n q0u q12 q1e q1v q28 q27) (zqx (zom q0l q0r q0m q0t q0n q0u q12 q1e q1v q28 q27) rfl q0l q0r q0m q0t q0n q0u q12 q1e q1v q28 q27 (fun c0_ c1_ c2_ c3_ c4_ c5_ c6_ c7_ => some (c0_, c1_, c2_, c3_, c4_, c5_, c6_, c7_)))) (fin_out (o := (zom q0l q0r q0m q0t q0n q0u q12 q1e q1v q28 q27)) (x := z7b q0l q0r q0m q0t q0n q0u q12 q1e q1v q28 q27) (d := default) (V := fun r => ((AV.v (TV.agg [(At.sl 0 0 r.1 1), (At.sl 1 0 r.2.1 1), (At.sl 2 0 r.2.2.1 1), (At.sl 3 0 r.2.2.2.1 3), (At.int IntKind.i64 q1v), (At.flt FloatKind.f32 q28), (At.flt FloatKind.f32 q27)])), [(Blk.mk Bool.true (Body.fl FloatKind.f32 r.2.2.2.2.1)), (Blk.mk Bool.true (Body.fl FloatKind.f32 r.2.2.2.2.2.1)), (Blk.mk Bool.true (Body.fl FloatKind.f32 r.2.2.2.2.2.2.1)), (Blk.mk Bool.true (Body.fl FloatKind.f32 r.2.2.2.2.2.2.2))])) (fun r => rfl) hp)
  · cases hp)
noncomputable def z3n : List PT → Option (Bool × AV × List Blk)
  | [.agg [.row 1 q19 (.fl .f32 q1t), .row 1 q1h (.fl .f32 q1w), .row 1 q1k (.fl .f32 q1y)], .agg [.row 1 q2m (.fl .f32 q2s), .row 1 q2p (.fl .f32 q2x), .row 1 q2o (.fl .f32 q2y)]] => some ((zii q19 q1t q1h q1w q1k q1y q2m q2s q2p q2x q2o q2y), ((AV.v (TV.one (At.bool (zh8 q19 q1t q1h q1w q1k q1y q2m q2s q2p q2x q2o q2y)))), []))
  | _ => none
def zmc (q19 : Nat) (q1t : List Nat) (q1h : Nat) (q1w : List Nat) (q1k : Nat) (q1y : List Nat) (q2m : Nat) (q2s : List Nat) (q2p : Nat) (q2x : List Nat) (q2o : Nat) (q2y : List Nat) : Option (Bool) → Option (AV × List Blk)
  | some r => some ((AV.v (TV.one (At.bool r))), [])
  | none => none
theorem ztk (q19 : Nat) (q1t : List Nat) (q1h : Nat) (q1w : List Nat) (q1k : Nat) (q1y : List Nat) (q2m : Nat) (q2s : List Nat) (q2p : Nat) (q2x : List Nat) (q2o : Nat) (q2y : List Nat) : evFn Γ4 8 8 121 (impTs 0 [.agg [.row 1 q19 (.fl .f32 q1t), .row 1 q1h (.fl .f32 q1w), .row 1 q1k (.fl .f32 q1y)], .agg [.row 1 q2m (.fl .f32 q2s), .row 1 q2p (.fl .f32 q2x), .row 1 q2o (.fl .f32 q2y)]]).1 (impTs 0 [.agg [.row 1 q19 (.fl .f32 q1t), .row 1 q1h (.fl .f32 q1w), .row 1 q1k (.fl .f32 q1y)], .agg [.row 1 q2m (.fl .f32 q2s), .row 1 q2p (.fl .f32 q2x), .row 1 q2o (.fl .f32 q2y)]]).2 (expo (impTs 0 [.agg [.row 1 q19 (.fl .f32 q1t), .row 1 q1h (.fl .f32 q1w), .row 1 q1k (.fl .f32 q1y)], .agg [.row 1 q2m (.fl .f32 q2s), .row 1 q2p (.fl .f32 q2x), .row 1 q2o (.fl .f32 q2y)]]).2.length) = zcl q19 q1t q1h q1w q1k q1y q2m q2s q2p q2x q2o q2y (fun c0_ => some ((AV.v (TV.one (At.bool c0_))), [])) := by kernel_rfl
theorem z32 : SumOne Try.prog 121 z3n := sum_of (Γ := Γ4) (fuel := 8) (d := 8) tyTab_ok (FnL.ok fnTab_ok _ _) (LpL.ok lt4_ok) (SumL.ok tb4_ok _) mixed (by
  intro pts v news hp hc
  clear hc
  unfold z3n at hp
  split at hp
  · rename_i q19 q1t q1h q1w q1k q1y q2m q2s q2p q2x q2o q2y
    exact Eq.trans (Eq.trans (ztk q19 q1t q1h q1w q1k q1y q2m q2s q2p q2x q2o q2y) (zpo (zmc q19 q1t q1h q1w q1k q1y q2m q2s q2p q2x q2o q2y) rfl q19 q1t q1h q1w q1k q1y q2m q2s q2p q2x q2o q2y (fun c0_ => some c0_))) (fin_out (o := (zmc q19 q1t q1h q1w q1k q1y q2m q2s q2p q2x q2o q2y)) (x := zck q19 q1t q1h q1w q1k q1y q2m q2s q2p q2x q2o q2y) (d := default) (V := fun r => ((AV.v (TV.one (At.bool r))), [])) (fun r => rfl) hp)
  · cases hp)
noncomputable def z36 : List PT → Option (Bool × AV × List Blk)
  | [.one (.row 3 a_n (.fl .f32 a)), .one (.row 3 b_n (.fl .f32 b))] => some ((zh1 a_n a b_n b), ((AV.v (TV.one (At.bool (zfx a_n a b_n b)))), []))
  | _ => none
def zly (a_n : Nat) (a : List Nat) (b_n : Nat) (b : List Nat) : Option (Bool) → Option (AV × List Blk)
  | some r => some ((AV.v (TV.one (At.bool r))), [])
  | none => none
theorem zsr (a_n : Nat) (a : List Nat) (b_n : Nat) (b : List Nat) : evFn Γ4 8 8 122 (impTs 0 [.one (.row 3 a_n (.fl .f32 a)), .one (.row 3 b_n (.fl .f32 b))]).1 (impTs 0 [.one (.row 3 a_n (.fl .f32 a)), .one (.row 3 b_n (.fl .f32 b))]).2 (expo (impTs 0 [.one (.row 3 a_n (.fl .f32 a)), .one (.row 3 b_n (.fl .f32 b))]).2.length) = zbe a_n a b_n b (fun c0_ => some ((AV.v (TV.one (At.bool c0_))), [])) := by kernel_rfl
theorem z2q : SumOne Try.prog 122 z36 := sum_of (Γ := Γ4) (fuel := 8) (d := 8) tyTab_ok (FnL.ok fnTab_ok _ _) (LpL.ok lt4_ok) (SumL.ok tb4_ok _) mixed (by
  intro pts v news hp hc
  clear hc
  unfold z36 at hp
  split at hp
  · rename_i a_n a b_n b
    exact Eq.trans (Eq.trans (zsr a_n a b_n b) (zo9 (zly a_n a b_n b) rfl a_n a b_n b (fun c0_ => some c0_))) (fin_out (o := (zly a_n a b_n b)) (x := zbn a_n a b_n b) (d := default) (V := fun r => ((AV.v (TV.one (At.bool r))), [])) (fun r => rfl) hp)
  · cases hp)
noncomputable def z4x : List PT → Option (Bool × AV × List Blk)
  | [.one (.s (.flt .f32 x))] => some ((z9g x), ((AV.v (TV.one (At.flt FloatKind.f32 (z5u x)))), []))
  | _ => none
def zo1 (x : Nat) : Option (Nat) → Option (AV × List Blk)
  | some r => some ((AV.v (TV.one (At.flt FloatKind.f32 r))), [])
  | none => none
theorem zup (x : Nat) : evFn Γ4 8 8 165 (impTs 0 [.one (.s (.flt .f32 x))]).1 (impTs 0 [.one (.s (.flt .f32 x))]).2 (expo (impTs 0 [.one (.s (.flt .f32 x))]).2.length) = ze9 x (fun c0_ => some ((AV.v (TV.one (At.flt FloatKind.f32 c0_))), [])) := by kernel_rfl
theorem z42 : SumOne Try.prog 165 z4x := sum_of (Γ := Γ4) (fuel := 8) (d := 8) tyTab_ok (FnL.ok fnTab_ok _ _) (LpL.ok lt4_ok) (SumL.ok tb4_ok _) mixed (by
  intro pts v news hp hc
  clear hc
  unfold z4x at hp
  split at hp
  · rename_i x
    exact Eq.trans (Eq.trans (zup x) (zr1 (zo1 x) rfl x (fun c0_ => some c0_))) (fin_out (o := (zo1 x)) (x := zc2 x) (d := default) (V := fun r => ((AV.v (TV.one (At.flt FloatKind.f32 r))), [])) (fun r => rfl) hp)
  · cases hp)
noncomputable def z0b : List PT → Option (Bool × AV × List Blk)
  | [.one (.row 1 s_n (.fl .f32 s)), .fn 148 []] => some ((z7e s_n s), ((AV.v (TV.one (At.int IntKind.i64 (z76 s_n s)))), []))
  | _ => none
def zbp (s_n : Nat) (s : List Nat) : Option (Int) → Option (AV × List Blk)
  | some r => some ((AV.v (TV.one (At.int IntKind.i64 r))), [])
  | none => none
theorem ziz (s_n : Nat) (s : List Nat) : evFn Γ4 8 8 178 (impTs 0 [.one (.row 1 s_n (.fl .f32 s)), .fn 148 []]).1 (impTs 0 [.one (.row 1 s_n (.fl .f32 s)), .fn 148 []]).2 (expo (impTs 0 [.one (.row 1 s_n (.fl .f32 s)), .fn 148 []]).2.length) = z4z s_n s (fun c0_ => some ((AV.v (TV.one (At.int IntKind.i64 c0_))), [])) := by kernel_rfl
theorem z0e : SumOne Try.prog 178 z0b := sum_of (Γ := Γ4) (fuel := 8) (d := 8) tyTab_ok (FnL.ok fnTab_ok _ _) (LpL.ok lt4_ok) (SumL.ok tb4_ok _) mixed (by
  intro pts v news hp hc
  clear hc
  unfold z0b at hp
  split at hp
  · rename_i s_n s
    exact Eq.trans (Eq.trans (ziz s_n s) (zgq (zbp s_n s) rfl s_n s (fun c0_ => some c0_))) (fin_out (o := (zbp s_n s)) (x := z4y s_n s) (d := default) (V := fun r => ((AV.v (TV.one (At.int IntKind.i64 r))), [])) (fun r => rfl) hp)
  · cases hp)
noncomputable def z07 : List PT → Option (Bool × AV × List Blk)
  | [.one (.row 1 s_n (.fl .f32 s)), .fn 150 []] => some ((z71 s_n s), ((AV.v (TV.one (At.int IntKind.i64 (z6x s_n s)))), []))
  | _ => none
def zan (s_n : Nat) (s : List Nat) : Option (Int) → Option (AV × List Blk)
  | some r => some ((AV.v (TV.one (At.int IntKind.i64 r))), [])
  | none => none
theorem zi7 (s_n : Nat) (s : List Nat) : evFn Γ4 8 8 178 (impTs 0 [.one (.row 1 s_n (.fl .f32 s)), .fn 150 []]).1 (impTs 0 [.one (.row 1 s_n (.fl .f32 s)), .fn 150 []]).2 (expo (impTs 0 [.one (.row 1 s_n (.fl .f32 s)), .fn 150 []]).2.length) = z4o s_n s (fun c0_ => some ((AV.v (TV.one (At.int IntKind.i64 c0_))), [])) := by kernel_rfl
theorem z08 : SumOne Try.prog 178 z07 := sum_of (Γ := Γ4) (fuel := 8) (d := 8) tyTab_ok (FnL.ok fnTab_ok _ _) (LpL.ok lt4_ok) (SumL.ok tb4_ok _) mixed (by
  intro pts v news hp hc
  clear hc
  unfold z07 at hp
  split at hp
  · rename_i s_n s
    exact Eq.trans (Eq.trans (zi7 s_n s) (zfs (zan s_n s) rfl s_n s (fun c0_ => some c0_))) (fin_out (o := (zan s_n s)) (x := z4n s_n s) (d := default) (V := fun r => ((AV.v (TV.one (At.int IntKind.i64 r))), [])) (fun r => rfl) hp)
  · cases hp)
noncomputable def z65 : List PT → Option (Bool × AV × List Blk)
  | [.ptr [.row 1 q07 (.fl .f32 q0c), .row 1 q0o (.fl .f32 q0w), .row 1 q0p (.fl .f32 q0v)]] => some ((zl0 q07 q0c q0o q0w q0p q0v), ((AV.v (TV.one (At.bool (zkk q07 q0c q0o q0w q0p q0v)))), []))
  | _ => none
def zqv (q07 : Nat) (q0c : List Nat) (q0o : Nat) (q0w : List Nat) (q0p : Nat) (q0v : List Nat) : Option (Bool) → Option (AV × List Blk)
  | some r => some ((AV.v (TV.one (At.bool r))), [])
  | none => none
theorem zvf (q07 : Nat) (q0c : List Nat) (q0o : Nat) (q0w : List Nat) (q0p : Nat) (q0v : List Nat) : evFn Γ4 8 8 184 (impTs 0 [.ptr [.row 1 q07 (.fl .f32 q0c), .row 1 q0o (.fl .f32 q0w), .row 1 q0p (.fl .f32 q0v)]]).1 (impTs 0 [.ptr [.row 1 q07 (.fl .f32 q0c), .row 1 q0o (.fl .f32 q0w), .row 1 q0p (.fl .f32 q0v)]]).2 (expo (impTs 0 [.ptr [.row 1 q07 (.fl .f32 q0c), .row 1 q0o (.fl .f32 q0w), .row 1 q0p (.fl .f32 q0v)]]).2.length) = zhv q07 q0c q0o q0w q0p q0v (fun c0_ => some ((AV.v (TV.one (At.bool c0_))), [])) := by kernel_rfl
theorem z57 : SumOne Try.prog 184 z65 := sum_of (Γ := Γ4) (fuel := 8) (d := 8) tyTab_ok (FnL.ok fnTab_ok _ _) (LpL.ok lt4_ok) (SumL.ok tb4_ok _) mixed (by
  intro pts v news hp hc
  clear hc
  unfold z65 at hp
  split at hp
  · rename_i q07 q0c q0o q0w q0p q0v
    exact Eq.trans (Eq.trans (zvf q07 q0c q0o q0w q0p q0v) (ztd (zqv q07 q0c q0o q0w q0p q0v) rfl q07 q0c q0o q0w q0p q0v (fun c0_ => some c0_))) (fin_out (o := (zqv q07 q0c q0o q0w q0p q0v)) (x := zho q07 q0c q0o q0w q0p q0v) (d := default) (V := fun r => ((AV.v (TV.one (At.bool r))), [])) (fun r => rfl) hp)
  · cases hp)
noncomputable def z06 : Nat → St → Option (Bool × LO)
  | 1, (St.mk [(0, (AV.v (TV.one (At.vw 0 0 sn 1)))), (1, (AV.v (TV.one (At.fn 154 [])))), (7, (AV.v (TV.one (At.int IntKind.i64 t7)))), (8, (AV.v (TV.one (At.int IntKind.i64 t8))))] [(Blk.mk Bool.false (Body.fl FloatKind.f32 b0))]) => some ((z4m sn t7 b0 t8), (LO.two (z48 sn t7 b0 t8) (LO.one Ex.ret (St.mk [(4, (AV.v (TV.one (At.int IntKind.i64 (z6k sn t7 b0 t8)))))] [(Blk.mk Bool.false (Body.fl FloatKind.f32 b0))])) (LO.one (Ex.exit 0) (St.mk [(0, (AV.v (TV.one (At.vw 0 0 sn 1)))), (1, (AV.v (TV.one (At.fn 154 [])))), (7, (AV.v (TV.one (At.int IntKind.i64 t7)))), (8, (AV.v (TV.one (At.int IntKind.i64 (z80 sn t7 b0 t8))))), (9, (AV.v (TV.one (At.bool (z81 sn t7 b0 t8)))))] [(Blk.mk Bool.false (Body.fl FloatKind.f32 b0))]))))
  | _, _ => none
def z5z (sn : Nat) (t7 : Int) (b0 : List Nat) : Option ((Int) ⊕ (Int × Bool)) → Option (Ex × St)
  | none => none
  | some (Sum.inl r) => some (Ex.ret, (St.mk [(4, (AV.v (TV.one (At.int IntKind.i64 r))))] [(Blk.mk Bool.false (Body.fl FloatKind.f32 b0))]))
  | some (Sum.inr r) => some ((Ex.exit 0), (St.mk [(0, (AV.v (TV.one (At.vw 0 0 sn 1)))), (1, (AV.v (TV.one (At.fn 154 [])))), (7, (AV.v (TV.one (At.int IntKind.i64 t7)))), (8, (AV.v (TV.one (At.int IntKind.i64 r.1)))), (9, (AV.v (TV.one (At.bool r.2))))] [(Blk.mk Bool.false (Body.fl FloatKind.f32 b0))]))
def zhi (sn : Nat) (t7 : Int) (b0 : List Nat) (x : Option ((Int) ⊕ (Int × Bool))) : LO := (LO.two (oL x) (LO.one Ex.ret (St.mk [(4, (AV.v (TV.one (At.int IntKind.i64 ((tL x).getD default)))))] [(Blk.mk Bool.false (Body.fl FloatKind.f32 b0))])) (LO.one (Ex.exit 0) (St.mk [(0, (AV.v (TV.one (At.vw 0 0 sn 1)))), (1, (AV.v (TV.one (At.fn 154 [])))), (7, (AV.v (TV.one (At.int IntKind.i64 t7)))), (8, (AV.v (TV.one (At.int IntKind.i64 ((tR x).getD default).1)))), (9, (AV.v (TV.one (At.bool ((tR x).getD default).2))))] [(Blk.mk Bool.false (Body.fl FloatKind.f32 b0))])))
theorem zia (sn : Nat) (t7 : Int) (b0 : List Nat) : ∀ x : Option ((Int) ⊕ (Int × Bool)), x.isSome = true → (z5z sn t7 b0) x = some (pick (zhi sn t7 b0 x))
  | none, h => by cases h
  | some (Sum.inl r), _ => rfl
  | some (Sum.inr r), _ => rfl
theorem zi8 (sn : Nat) (t7 : Int) (t8 : Int) (b0 : List Nat) (K : Ex → St → Option (Ex × St)) : evC (R := Ex × St) Γ4 (evFn Γ4 8 8) 178 1 fi178.nt fi178.live fi178.nl 8 (findL 2 (loopsIn fi178.code)) (St.mk [(0, (AV.v (TV.one (At.vw 0 0 sn 1)))), (1, (AV.v (TV.one (At.fn 154 [])))), (7, (AV.v (TV.one (At.int IntKind.i64 t7)))), (8, (AV.v (TV.one (At.int IntKind.i64 t8))))] [(Blk.mk Bool.false (Body.fl FloatKind.f32 b0))]) K = z1w sn t7 b0 t8 (fun t8' => K .normal (St.mk [(0, (AV.v (TV.one (At.vw 0 0 sn 1)))), (1, (AV.v (TV.one (At.fn 154 [])))), (7, (AV.v (TV.one (At.int IntKind.i64 t7)))), (8, (AV.v (TV.one (At.int IntKind.i64 t8'))))] [(Blk.mk Bool.false (Body.fl FloatKind.f32 b0))])) (fun c0_ => K Ex.ret (St.mk [(4, (AV.v (TV.one (At.int IntKind.i64 c0_))))] [(Blk.mk Bool.false (Body.fl FloatKind.f32 b0))])) (fun c0_ c1_ => K (Ex.exit 0) (St.mk [(0, (AV.v (TV.one (At.vw 0 0 sn 1)))), (1, (AV.v (TV.one (At.fn 154 [])))), (7, (AV.v (TV.one (At.int IntKind.i64 t7)))), (8, (AV.v (TV.one (At.int IntKind.i64 c0_)))), (9, (AV.v (TV.one (At.bool c1_))))] [(Blk.mk Bool.false (Body.fl FloatKind.f32 b0))])) := by kernel_rfl
theorem zib (sn : Nat) (t7 : Int) (b0 : List Nat) : ∀ (n : Nat) (t8 : Int), iter 178 2 1 (evC (R := Ex × St) Γ4 (evFn Γ4 8 8) 178 1 fi178.nt fi178.live fi178.nl 8 (findL 2 (loopsIn fi178.code))) n (St.mk [(0, (AV.v (TV.one (At.vw 0 0 sn 1)))), (1, (AV.v (TV.one (At.fn 154 [])))), (7, (AV.v (TV.one (At.int IntKind.i64 t7)))), (8, (AV.v (TV.one (At.int IntKind.i64 t8))))] [(Blk.mk Bool.false (Body.fl FloatKind.f32 b0))]) (fun e st => some (e, st)) = (z5z sn t7 b0) (z0p sn t7 b0 n t8) := by
  intro n
  induction n with
  | zero => intros; rfl
  | succ n ih =>
    intro t8
    refine Eq.trans (iter_succ ..) (Eq.trans (zi8 sn t7 t8 b0 (nextK 178 2 1 (evC (R := Ex × St) Γ4 (evFn Γ4 8 8) 178 1 fi178.nt fi178.live fi178.nl 8 (findL 2 (loopsIn fi178.code))) n (fun e st => some (e, st)))) (Eq.trans ?_ (zg5 (z5z sn t7 b0) rfl sn t7 b0 t8 (fun t8' => z0p sn t7 b0 n t8') (fun c0_ => some (Sum.inl c0_)) (fun c0_ c1_ => some (Sum.inr (c0_, c1_))))))
    exact congrArg (fun kn_ => z1w sn t7 b0 t8 kn_ (fun c0_ => (z5z sn t7 b0) (some (Sum.inl c0_))) (fun c0_ c1_ => (z5z sn t7 b0) (some (Sum.inr (c0_, c1_))))) (funext fun t8' => ih t8')
theorem z09 : LoopOne Try.prog fnTab 178 2 z06 := lp_of (Γ := Γ4) tyTab_ok (FnL.ok fnTab_ok _ _) (LpL.ok lt4_ok) (SumL.ok tb4_ok _) mixed (fi := fi178) (by kernel_rfl) (by kernel_rfl) (by
  intro lo st out hp
  unfold z06 at hp
  split at hp
  · rename_i sn t7 t8 b0
    injection hp with hp
    injection hp with h1 h2
    subst h2
    exact ⟨8, 8, big, Eq.trans (zib sn t7 b0 big t8) (zia sn t7 b0 (z0p sn t7 b0 big t8) h1)⟩
  · cases hp)
noncomputable def tb5 : List (Nat × (List PT → Option (Bool × AV × List Blk))) := [(156, z0s), (181, z1a), (182, z22), (189, z21), (26, z2r), (55, z29), (84, z0x), (89, z3u), (102, z63), (112, z1y), (115, z2a), (123, z2p), (126, z4h), (157, z62), (160, z1x), (162, z4j), (167, z28), (175, z3t), (176, z1o), (187, z2b), (74, z3m), (83, z0w), (85, z46), (90, z3l), (103, z47), (111, z2m), (116, z31), (138, z2z), (148, z1v), (150, z18), (169, z2l), (185, z30), (52, z3v), (154, z2k), (158, z5i), (166, z2j), (104, z2u), (119, z39), (120, z2t), (168, z2s), (188, z2g), (54, z4v), (121, z3n), (122, z36), (165, z4x), (178, z0b), (178, z07), (184, z65)]
noncomputable def lt5 : List ((Nat × Nat) × (Nat → St → Option (Bool × LO))) := [((166, 3), z15), ((120, 3), z1g), ((168, 4), z1e), ((188, 17), z10), ((122, 4), z1p), ((178, 2), z04), ((178, 2), z02), ((184, 5), z3r), ((178, 2), z06)]
noncomputable def Γ5 : Ctx := ⟨tyTab, fnTab, tblSum tb5, tblLp lt5⟩
theorem tb5_ok : SumL Try.prog tb5 := SumL.cons z0r (SumL.cons z11 (SumL.cons z1i (SumL.cons z1j (SumL.cons z26 (SumL.cons z1u (SumL.cons z0t (SumL.cons z2x (SumL.cons z4q (SumL.cons z1c (SumL.cons z1s (SumL.cons z27 (SumL.cons z3h (SumL.cons z4r (SumL.cons z1f (SumL.cons z3f (SumL.cons z1t (SumL.cons z2y (SumL.cons z14 (SumL.cons z1r (SumL.cons z2v (SumL.cons z0v (SumL.cons z3b (SumL.cons z2w (SumL.cons z38 (SumL.cons z23 (SumL.cons z2f (SumL.cons z2i (SumL.cons z1b (SumL.cons z13 (SumL.cons z24 (SumL.cons z2h (SumL.cons z35 (SumL.cons z20 (SumL.cons z45 (SumL.cons z1z (SumL.cons z2d (SumL.cons z2n (SumL.cons z2e (SumL.cons z2c (SumL.cons z25 (SumL.cons z40 (SumL.cons z32 (SumL.cons z2q (SumL.cons z42 (SumL.cons z0e (SumL.cons z08 (SumL.cons z57 (SumL.nil))))))))))))))))))))))))))))))))))))))))))))))))
theorem lt5_ok : LpL Try.prog fnTab lt5 := LpL.cons z12 (LpL.cons z17 (LpL.cons z16 (LpL.cons z0y (LpL.cons z1h (LpL.cons z05 (LpL.cons z03 (LpL.cons z34 (LpL.cons z09 (LpL.nil)))))))))
noncomputable def z5f : List PT → Option (Bool × AV × List Blk)
  | [.agg [.row 1 q0l (.fl .f32 q0r), .row 1 q0m (.fl .f32 q0t), .row 1 q0n (.fl .f32 q0u), .row 3 q12 (.fl .f32 q1e), .s (.int .i64 q1v), .s (.flt .f32 q28), .s (.flt .f32 q27)], .agg [.row 1 q29 (.fl .f32 q2d), .row 1 q2a (.fl .f32 q2g), .row 1 q2b (.fl .f32 q2e), .row 3 q2l (.fl .f32 q2n), .s (.int .i64 q30), .s (.flt .f32 q33), .s (.flt .f32 q32)]] => some ((zhe q0l q0r q0m q0t q0n q0u q12 q1e q1v q28 q27 q29 q2d q2a q2g q2b q2e q2l q2n q30 q33 q32), ((AV.v (TV.one (At.bool (zg0 q0l q0r q0m q0t q0n q0u q12 q1e q1v q28 q27 q29 q2d q2a q2g q2b q2e q2l q2n q30 q33 q32)))), []))
  | _ => none
def zow (q0l : Nat) (q0r : List Nat) (q0m : Nat) (q0t : List Nat) (q0n : Nat) (q0u : List Nat) (q12 : Nat) (q1e : List Nat) (q1v : Int) (q28 : Nat) (q27 : Nat) (q29 : Nat) (q2d : List Nat) (q2a : Nat) (q2g : List Nat) (q2b : Nat) (q2e : List Nat) (q2l : Nat) (q2n : List Nat) (q30 : Int) (q33 : Nat) (q32 : Nat) : Option (Bool) → Option (AV × List Blk)
  | some r => some ((AV.v (TV.one (At.bool r))), [])
  | none => none
theorem zuy (q0l : Nat) (q0r : List Nat) (q0m : Nat) (q0t : List Nat) (q0n : Nat) (q0u : List Nat) (q12 : Nat) (q1e : List Nat) (q1v : Int) (q28 : Nat) (q27 : Nat) (q29 : Nat) (q2d : List Nat) (q2a : Nat) (q2g : List Nat) (q2b : Nat) (q2e : List Nat) (q2l : Nat) (q2n : List Nat) (q30 : Int) (q33 : Nat) (q32 : Nat) : evFn Γ5 8 8 56 (impTs 0 [.agg [.row 1 q0l (.fl .f32 q0r), .row 1 q0m (.fl .f32 q0t), .row 1 q0n (.fl .f32 q0u), .row 3 q12 (.fl .f32 q1e), .s (.int .i64 q1v), .s (.flt .f32 q28), .s (.flt .f32 q27)], .agg [.row 1 q29 (.fl .f32 q2d), .row 1 q2a (.fl .f32 q2g), .row 1 q2b (.fl .f32 q2e), .row 3 q2l (.fl .f32 q2n), .s (.int .i64 q30), .s (.flt .f32 q33), .s (.flt .f32 q32)]]).1 (impTs 0 [.agg [.row 1 q0l (.fl .f32 q0r), .row 1 q0m (.fl .f32 q0t), .row 1 q0n (.fl .f32 q0u), .row 3 q12 (.fl .f32 q1e), .s (.int .i64 q1v), .s (.flt .f32 q28), .s (.flt .f32 q27)], .agg [.row 1 q29 (.fl .f32 q2d), .row 1 q2a (.fl .f32 q2g), .row 1 q2b (.fl .f32 q2e), .row 3 q2l (.fl .f32 q2n), .s (.int .i64 q30), .s (.flt .f32 q33), .s (.flt .f32 q32)]]).2 (expo (impTs 0 [.agg [.row 1 q0l (.fl .f32 q0r), .row 1 q0m (.fl .f32 q0t), .row 1 q0n (.fl .f32 q0u), .row 3 q12 (.fl .f32 q1e), .s (.int .i64 q1v), .s (.flt .f32 q28), .s (.flt .f32 q27)], .agg [.row 1 q29 (.fl .f32 q2d), .row 1 q2a (.fl .f32 q2g), .row 1 q2b (.fl .f32 q2e), .row 3 q2l (.fl .f32 q2n), .s (.int .i64 q30), .s (.flt .f32 q33), .s (.flt .f32 q32)]]).2.length) = zdx q0l q0r q0m q0t q0n q0u q12 q1e q1v q28 q27 q29 q2d q2a q2g q2b q2e q2l q2n q30 q33 q32 (fun c0_ => some ((AV.v (TV.one (At.bool c0_))), [])) := by kernel_rfl
theorem z4d : SumOne Try.prog 56 z5f := sum_of (Γ := Γ5) (fuel := 8) (d := 8) tyTab_ok (FnL.ok fnTab_ok _ _) (LpL.ok lt5_ok) (SumL.ok tb5_ok _) mixed (by
  intro pts v news hp hc
  clear hc
  unfold z5f at hp
  split at hp
  · rename_i q0l q0r q0m q0t q0n q0u q12 q1e q1v q28 q27 q29 q2d q2a q2g q2b q2e q2l q2n q30 q33 q32
    exact Eq.trans (Eq.trans (zuy q0l q0r q0m q0t q0n q0u q12 q1e q1v q28 q27 q29 q2d q2a q2g q2b q2e q2l q2n q30 q33 q32) (zr9 (zow q0l q0r q0m q0t q0n q0u q12 q1e q1v q28 q27 q29 q2d q2a q2g q2b q2e q2l q2n q30 q33 q32) rfl q0l q0r q0m q0t q0n q0u q12 q1e q1v q28 q27 q29 q2d q2a q2g q2b q2e q2l q2n q30 q33 q32 (fun c0_ => some c0_))) (fin_out (o := (zow q0l q0r q0m q0t q0n q0u q12 q1e q1v q28 q27 q29 q2d q2a q2g q2b q2e q2l q2n q30 q33 q32)) (x := ze1 q0l q0r q0m q0t q0n q0u q12 q1e q1v q28 q27 q29 q2d q2a q2g q2b q2e q2l q2n q30 q33 q32) (d := default) (V := fun r => ((AV.v (TV.one (At.bool r))), [])) (fun r => rfl) hp)
  · cases hp)
noncomputable def z6c : List PT → Option (Bool × AV × List Blk)
  | [.one (.s (.flt .f64 x))] => some ((zju x), ((AV.v (TV.one (At.flt FloatKind.f64 (za4 x)))), []))
  | _ => none
def zr3 (x : Nat) : Option (Nat) → Option (AV × List Blk)
  | some r => some ((AV.v (TV.one (At.flt FloatKind.f64 r))), [])
  | none => none
theorem zvb (x : Nat) : evFn Γ5 8 8 170 (impTs 0 [.one (.s (.flt .f64 x))]).1 (impTs 0 [.one (.s (.flt .f64 x))]).2 (expo (impTs 0 [.one (.s (.flt .f64 x))]).2.length) = zi2 x (fun c0_ => some ((AV.v (TV.one (At.flt FloatKind.f64 c0_))), [])) := by kernel_rfl
theorem z5s : SumOne Try.prog 170 z6c := sum_of (Γ := Γ5) (fuel := 8) (d := 8) tyTab_ok (FnL.ok fnTab_ok _ _) (LpL.ok lt5_ok) (SumL.ok tb5_ok _) mixed (by
  intro pts v news hp hc
  clear hc
  unfold z6c at hp
  split at hp
  · rename_i x
    exact Eq.trans (Eq.trans (zvb x) (zth (zr3 x) rfl x (fun c0_ => some c0_))) (fin_out (o := (zr3 x)) (x := zhq x) (d := default) (V := fun r => ((AV.v (TV.one (At.flt FloatKind.f64 r))), [])) (fun r => rfl) hp)
  · cases hp)
noncomputable def z0h : List PT → Option (Bool × AV × List Blk)
  | [.one (.row 1 s_n (.fl .f32 s)), .fn 154 []] => some ((z7j s_n s), ((AV.v (TV.one (At.int IntKind.i64 (z7d s_n s)))), []))
  | _ => none
def zbs (s_n : Nat) (s : List Nat) : Option (Int) → Option (AV × List Blk)
  | some r => some ((AV.v (TV.one (At.int IntKind.i64 r))), [])
  | none => none
theorem zj4 (s_n : Nat) (s : List Nat) : evFn Γ5 8 8 178 (impTs 0 [.one (.row 1 s_n (.fl .f32 s)), .fn 154 []]).1 (impTs 0 [.one (.row 1 s_n (.fl .f32 s)), .fn 154 []]).2 (expo (impTs 0 [.one (.row 1 s_n (.fl .f32 s)), .fn 154 []]).2.length) = z5e s_n s (fun c0_ => some ((AV.v (TV.one (At.int IntKind.i64 c0_))), [])) := by kernel_rfl
theorem z0l : SumOne Try.prog 178 z0h := sum_of (Γ := Γ5) (fuel := 8) (d := 8) tyTab_ok (FnL.ok fnTab_ok _ _) (LpL.ok lt5_ok) (SumL.ok tb5_ok _) mixed (by
  intro pts v news hp hc
  clear hc
  unfold z0h at hp
  split at hp
  · rename_i s_n s
    exact Eq.trans (Eq.trans (zj4 s_n s) (zhz (zbs s_n s) rfl s_n s (fun c0_ => some c0_))) (fin_out (o := (zbs s_n s)) (x := z5c s_n s) (d := default) (V := fun r => ((AV.v (TV.one (At.int IntKind.i64 r))), [])) (fun r => rfl) hp)
  · cases hp)
noncomputable def z5d : Nat → St → Option (Bool × LO)
  | 0, (St.mk [(4, (AV.v (TV.one (At.bool q36)))), (5, (AV.v (TV.one (At.flt FloatKind.f64 z)))), (6, (AV.v (TV.one (At.flt FloatKind.f64 u)))), (7, (AV.v (TV.one (At.flt FloatKind.f64 p)))), (8, (AV.v (TV.one (At.flt FloatKind.f64 k))))] []) => some ((zaf u p k), (LO.one (Ex.exit 0) (St.mk [(4, (AV.v (TV.one (At.bool q36)))), (5, (AV.v (TV.one (At.flt FloatKind.f64 z)))), (6, (AV.v (TV.one (At.flt FloatKind.f64 u)))), (7, (AV.v (TV.one (At.flt FloatKind.f64 (z8o u p k))))), (8, (AV.v (TV.one (At.flt FloatKind.f64 (zkf u p k))))), (25, (AV.v (TV.one (At.bool (zkg u p k)))))] [])))
  | _, _ => none
def zk2 (q36 : Bool) (z : Nat) (u : Nat) : Option ((Nat × Nat × Bool)) → Option (Ex × St)
  | none => none
  | some r => some ((Ex.exit 0), (St.mk [(4, (AV.v (TV.one (At.bool q36)))), (5, (AV.v (TV.one (At.flt FloatKind.f64 z)))), (6, (AV.v (TV.one (At.flt FloatKind.f64 u)))), (7, (AV.v (TV.one (At.flt FloatKind.f64 r.1)))), (8, (AV.v (TV.one (At.flt FloatKind.f64 r.2.1)))), (25, (AV.v (TV.one (At.bool r.2.2))))] []))
def ztz (q36 : Bool) (z : Nat) (u : Nat) (x : Option ((Nat × Nat × Bool))) : LO := (LO.one (Ex.exit 0) (St.mk [(4, (AV.v (TV.one (At.bool q36)))), (5, (AV.v (TV.one (At.flt FloatKind.f64 z)))), (6, (AV.v (TV.one (At.flt FloatKind.f64 u)))), (7, (AV.v (TV.one (At.flt FloatKind.f64 (x.getD default).1)))), (8, (AV.v (TV.one (At.flt FloatKind.f64 (x.getD default).2.1)))), (25, (AV.v (TV.one (At.bool (x.getD default).2.2))))] []))
theorem zuq (q36 : Bool) (z : Nat) (u : Nat) : ∀ x : Option ((Nat × Nat × Bool)), x.isSome = true → (zk2 q36 z u) x = some (pick (ztz q36 z u x))
  | none, h => by cases h
  | some r, _ => rfl
theorem zug (q36 : Bool) (z : Nat) (u : Nat) (p : Nat) (k : Nat) (K : Ex → St → Option (Ex × St)) : evC (R := Ex × St) Γ5 (evFn Γ5 8 8) 105 0 fi105.nt fi105.live fi105.nl 8 (findL 9 (loopsIn fi105.code)) (St.mk [(4, (AV.v (TV.one (At.bool q36)))), (5, (AV.v (TV.one (At.flt FloatKind.f64 z)))), (6, (AV.v (TV.one (At.flt FloatKind.f64 u)))), (7, (AV.v (TV.one (At.flt FloatKind.f64 p)))), (8, (AV.v (TV.one (At.flt FloatKind.f64 k))))] []) K = z9a u p k (fun p' k' => K .normal (St.mk [(4, (AV.v (TV.one (At.bool q36)))), (5, (AV.v (TV.one (At.flt FloatKind.f64 z)))), (6, (AV.v (TV.one (At.flt FloatKind.f64 u)))), (7, (AV.v (TV.one (At.flt FloatKind.f64 p')))), (8, (AV.v (TV.one (At.flt FloatKind.f64 k'))))] [])) (fun c0_ c1_ c2_ => K (Ex.exit 0) (St.mk [(4, (AV.v (TV.one (At.bool q36)))), (5, (AV.v (TV.one (At.flt FloatKind.f64 z)))), (6, (AV.v (TV.one (At.flt FloatKind.f64 u)))), (7, (AV.v (TV.one (At.flt FloatKind.f64 c0_)))), (8, (AV.v (TV.one (At.flt FloatKind.f64 c1_)))), (25, (AV.v (TV.one (At.bool c2_))))] [])) := by kernel_rfl
theorem zuj (q36 : Bool) (z : Nat) (u : Nat) : ∀ (n : Nat) (p : Nat) (k : Nat), iter 105 9 0 (evC (R := Ex × St) Γ5 (evFn Γ5 8 8) 105 0 fi105.nt fi105.live fi105.nl 8 (findL 9 (loopsIn fi105.code))) n (St.mk [(4, (AV.v (TV.one (At.bool q36)))), (5, (AV.v (TV.one (At.flt FloatKind.f64 z)))), (6, (AV.v (TV.one (At.flt FloatKind.f64 u)))), (7, (AV.v (TV.one (At.flt FloatKind.f64 p)))), (8, (AV.v (TV.one (At.flt FloatKind.f64 k))))] []) (fun e st => some (e, st)) = (zk2 q36 z u) (z6t u n p k) := by
  intro n
  induction n with
  | zero => intros; rfl
  | succ n ih =>
    intro p k
    refine Eq.trans (iter_succ ..) (Eq.trans (zug q36 z u p k (nextK 105 9 0 (evC (R := Ex × St) Γ5 (evFn Γ5 8 8) 105 0 fi105.nt fi105.live fi105.nl 8 (findL 9 (loopsIn fi105.code))) n (fun e st => some (e, st)))) (Eq.trans ?_ (zrk (zk2 q36 z u) rfl u p k (fun p' k' => z6t u n p' k') (fun c0_ c1_ c2_ => some (c0_, c1_, c2_)))))
    exact congrArg (fun kn_ => z9a u p k kn_ (fun c0_ c1_ c2_ => (zk2 q36 z u) (some (c0_, c1_, c2_)))) (funext fun p' => funext fun k' => ih p' k')
theorem z4c : LoopOne Try.prog fnTab 105 9 z5d := lp_of (Γ := Γ5) tyTab_ok (FnL.ok fnTab_ok _ _) (LpL.ok lt5_ok) (SumL.ok tb5_ok _) mixed (fi := fi105) (by kernel_rfl) (by kernel_rfl) (by
  intro lo st out hp
  unfold z5d at hp
  split at hp
  · rename_i q36 z u p k
    injection hp with hp
    injection hp with h1 h2
    subst h2
    exact ⟨8, 8, big, Eq.trans (zuj q36 z u big p k) (zuq q36 z u (z6t u big p k) h1)⟩
  · cases hp)
noncomputable def tb6 : List (Nat × (List PT → Option (Bool × AV × List Blk))) := [(156, z0s), (181, z1a), (182, z22), (189, z21), (26, z2r), (55, z29), (84, z0x), (89, z3u), (102, z63), (112, z1y), (115, z2a), (123, z2p), (126, z4h), (157, z62), (160, z1x), (162, z4j), (167, z28), (175, z3t), (176, z1o), (187, z2b), (74, z3m), (83, z0w), (85, z46), (90, z3l), (103, z47), (111, z2m), (116, z31), (138, z2z), (148, z1v), (150, z18), (169, z2l), (185, z30), (52, z3v), (154, z2k), (158, z5i), (166, z2j), (104, z2u), (119, z39), (120, z2t), (168, z2s), (188, z2g), (54, z4v), (121, z3n), (122, z36), (165, z4x), (178, z0b), (178, z07), (184, z65), (56, z5f), (170, z6c), (178, z0h)]
noncomputable def lt6 : List ((Nat × Nat) × (Nat → St → Option (Bool × LO))) := [((166, 3), z15), ((120, 3), z1g), ((168, 4), z1e), ((188, 17), z10), ((122, 4), z1p), ((178, 2), z04), ((178, 2), z02), ((184, 5), z3r), ((178, 2), z06), ((105, 9), z5d)]
noncomputable def Γ6 : Ctx := ⟨tyTab, fnTab, tblSum tb6, tblLp lt6⟩
theorem tb6_ok : SumL Try.prog tb6 := SumL.cons z0r (SumL.cons z11 (SumL.cons z1i (SumL.cons z1j (SumL.cons z26 (SumL.cons z1u (SumL.cons z0t (SumL.cons z2x (SumL.cons z4q (SumL.cons z1c (SumL.cons z1s (SumL.cons z27 (SumL.cons z3h (SumL.cons z4r (SumL.cons z1f (SumL.cons z3f (SumL.cons z1t (SumL.cons z2y (SumL.cons z14 (SumL.cons z1r (SumL.cons z2v (SumL.cons z0v (SumL.cons z3b (SumL.cons z2w (SumL.cons z38 (SumL.cons z23 (SumL.cons z2f (SumL.cons z2i (SumL.cons z1b (SumL.cons z13 (SumL.cons z24 (SumL.cons z2h (SumL.cons z35 (SumL.cons z20 (SumL.cons z45 (SumL.cons z1z (SumL.cons z2d (SumL.cons z2n (SumL.cons z2e (SumL.cons z2c (SumL.cons z25 (SumL.cons z40 (SumL.cons z32 (SumL.cons z2q (SumL.cons z42 (SumL.cons z0e (SumL.cons z08 (SumL.cons z57 (SumL.cons z4d (SumL.cons z5s (SumL.cons z0l (SumL.nil)))))))))))))))))))))))))))))))))))))))))))))))))))
theorem lt6_ok : LpL Try.prog fnTab lt6 := LpL.cons z12 (LpL.cons z17 (LpL.cons z16 (LpL.cons z0y (LpL.cons z1h (LpL.cons z05 (LpL.cons z03 (LpL.cons z34 (LpL.cons z09 (LpL.cons z4c (LpL.nil))))))))))
noncomputable def z7a : List PT → Option (Bool × AV × List Blk)
  | [.one (.s (.flt .f64 q2f))] => some ((zlh q2f), ((AV.v (TV.one (At.flt FloatKind.f64 (zjx q2f)))), []))
  | _ => none
def zst (q2f : Nat) : Option (Nat) → Option (AV × List Blk)
  | some r => some ((AV.v (TV.one (At.flt FloatKind.f64 r))), [])
  | none => none
theorem zvk (q2f : Nat) : evFn Γ6 8 8 105 (impTs 0 [.one (.s (.flt .f64 q2f))]).1 (impTs 0 [.one (.s (.flt .f64 q2f))]).2 (expo (impTs 0 [.one (.s (.flt .f64 q2f))]).2.length) = zj2 q2f (fun c0_ => some ((AV.v (TV.one (At.flt FloatKind.f64 c0_))), [])) := by kernel_rfl
theorem z6g : SumOne Try.prog 105 z7a := sum_of (Γ := Γ6) (fuel := 8) (d := 8) tyTab_ok (FnL.ok fnTab_ok _ _) (LpL.ok lt6_ok) (SumL.ok tb6_ok _) mixed (by
  intro pts v news hp hc
  clear hc
  unfold z7a at hp
  split at hp
  · rename_i q2f
    exact Eq.trans (Eq.trans (zvk q2f) (zu4 (zst q2f) rfl q2f (fun c0_ => some c0_))) (fin_out (o := (zst q2f)) (x := zj0 q2f) (d := default) (V := fun r => ((AV.v (TV.one (At.flt FloatKind.f64 r))), [])) (fun r => rfl) hp)
  · cases hp)
noncomputable def z4g : List PT → Option (Bool × AV × List Blk)
  | [.one (.s (.flt .f32 x))] => some ((zim x), ((AV.v (TV.one (At.flt FloatKind.f32 (z37 x)))), []))
  | _ => none
def zmh (x : Nat) : Option (Nat) → Option (AV × List Blk)
  | some r => some ((AV.v (TV.one (At.flt FloatKind.f32 r))), [])
  | none => none
theorem zt1 (x : Nat) : evFn Γ6 8 8 124 (impTs 0 [.one (.s (.flt .f32 x))]).1 (impTs 0 [.one (.s (.flt .f32 x))]).2 (expo (impTs 0 [.one (.s (.flt .f32 x))]).2.length) = zc4 x (fun c0_ => some ((AV.v (TV.one (At.flt FloatKind.f32 c0_))), [])) := by kernel_rfl
theorem z43 : SumOne Try.prog 124 z4g := sum_of (Γ := Γ6) (fuel := 8) (d := 8) tyTab_ok (FnL.ok fnTab_ok _ _) (LpL.ok lt6_ok) (SumL.ok tb6_ok _) mixed (by
  intro pts v news hp hc
  clear hc
  unfold z4g at hp
  split at hp
  · rename_i x
    exact Eq.trans (Eq.trans (zt1 x) (zpu (zmh x) rfl x (fun c0_ => some c0_))) (fin_out (o := (zmh x)) (x := zc9 x) (d := default) (V := fun r => ((AV.v (TV.one (At.flt FloatKind.f32 r))), [])) (fun r => rfl) hp)
  · cases hp)
noncomputable def z0d : List PT → Option (Bool × AV × List Blk)
  | [.one (.row 1 s_n (.fl .f32 s)), .fn 148 []] => some ((z6u s_n s), ((AV.v (TV.one (At.bool (z6q s_n s)))), []))
  | _ => none
def zal (s_n : Nat) (s : List Nat) : Option (Bool) → Option (AV × List Blk)
  | some r => some ((AV.v (TV.one (At.bool r))), [])
  | none => none
theorem zhw (s_n : Nat) (s : List Nat) : evFn Γ6 8 8 147 (impTs 0 [.one (.row 1 s_n (.fl .f32 s)), .fn 148 []]).1 (impTs 0 [.one (.row 1 s_n (.fl .f32 s)), .fn 148 []]).2 (expo (impTs 0 [.one (.row 1 s_n (.fl .f32 s)), .fn 148 []]).2.length) = z4a s_n s (fun c0_ => some ((AV.v (TV.one (At.bool c0_))), [])) := by kernel_rfl
theorem z0j : SumOne Try.prog 147 z0d := sum_of (Γ := Γ6) (fuel := 8) (d := 8) tyTab_ok (FnL.ok fnTab_ok _ _) (LpL.ok lt6_ok) (SumL.ok tb6_ok _) mixed (by
  intro pts v news hp hc
  clear hc
  unfold z0d at hp
  split at hp
  · rename_i s_n s
    exact Eq.trans (Eq.trans (zhw s_n s) (zey (zal s_n s) rfl s_n s (fun c0_ => some c0_))) (fin_out (o := (zal s_n s)) (x := z4b s_n s) (d := default) (V := fun r => ((AV.v (TV.one (At.bool r))), [])) (fun r => rfl) hp)
  · cases hp)
noncomputable def z0a : List PT → Option (Bool × AV × List Blk)
  | [.one (.row 1 s_n (.fl .f32 s)), .fn 150 []] => some ((z6m s_n s), ((AV.v (TV.one (At.bool (z6e s_n s)))), []))
  | _ => none
def za2 (s_n : Nat) (s : List Nat) : Option (Bool) → Option (AV × List Blk)
  | some r => some ((AV.v (TV.one (At.bool r))), [])
  | none => none
theorem zgh (s_n : Nat) (s : List Nat) : evFn Γ6 8 8 147 (impTs 0 [.one (.row 1 s_n (.fl .f32 s)), .fn 150 []]).1 (impTs 0 [.one (.row 1 s_n (.fl .f32 s)), .fn 150 []]).2 (expo (impTs 0 [.one (.row 1 s_n (.fl .f32 s)), .fn 150 []]).2.length) = z3z s_n s (fun c0_ => some ((AV.v (TV.one (At.bool c0_))), [])) := by kernel_rfl
theorem z0f : SumOne Try.prog 147 z0a := sum_of (Γ := Γ6) (fuel := 8) (d := 8) tyTab_ok (FnL.ok fnTab_ok _ _) (LpL.ok lt6_ok) (SumL.ok tb6_ok _) mixed (by
  intro pts v news hp hc
  clear hc
  unfold z0a at hp
  split at hp
  · rename_i s_n s
    exact Eq.trans (Eq.trans (zgh s_n s) (zed (za2 s_n s) rfl s_n s (fun c0_ => some c0_))) (fin_out (o := (za2 s_n s)) (x := z3w s_n s) (d := default) (V := fun r => ((AV.v (TV.one (At.bool r))), [])) (fun r => rfl) hp)
  · cases hp)
noncomputable def z0g : List PT → Option (Bool × AV × List Blk)
  | [.one (.row 1 s_n (.fl .f32 s)), .fn 154 []] => some ((z72 s_n s), ((AV.v (TV.one (At.bool (z6w s_n s)))), []))
  | _ => none
def zam (s_n : Nat) (s : List Nat) : Option (Bool) → Option (AV × List Blk)
  | some r => some ((AV.v (TV.one (At.bool r))), [])
  | none => none
theorem zi9 (s_n : Nat) (s : List Nat) : evFn Γ6 8 8 147 (impTs 0 [.one (.row 1 s_n (.fl .f32 s)), .fn 154 []]).1 (impTs 0 [.one (.row 1 s_n (.fl .f32 s)), .fn 154 []]).2 (expo (impTs 0 [.one (.row 1 s_n (.fl .f32 s)), .fn 154 []]).2.length) = z4k s_n s (fun c0_ => some ((AV.v (TV.one (At.bool c0_))), [])) := by kernel_rfl
theorem z0k : SumOne Try.prog 147 z0g := sum_of (Γ := Γ6) (fuel := 8) (d := 8) tyTab_ok (FnL.ok fnTab_ok _ _) (LpL.ok lt6_ok) (SumL.ok tb6_ok _) mixed (by
  intro pts v news hp hc
  clear hc
  unfold z0g at hp
  split at hp
  · rename_i s_n s
    exact Eq.trans (Eq.trans (zi9 s_n s) (zg6 (zam s_n s) rfl s_n s (fun c0_ => some c0_))) (fin_out (o := (zam s_n s)) (x := z4l s_n s) (d := default) (V := fun r => ((AV.v (TV.one (At.bool r))), [])) (fun r => rfl) hp)
  · cases hp)
noncomputable def z5x : List PT → Option (Bool × AV × List Blk)
  | [.one (.s (.flt .f32 x))] => some ((zk4 x), ((AV.v (TV.one (At.flt FloatKind.f32 (z01 x)))), []))
  | _ => none
def zop (x : Nat) : Option (Nat) → Option (AV × List Blk)
  | some r => some ((AV.v (TV.one (At.flt FloatKind.f32 r))), [])
  | none => none
theorem zun (x : Nat) : evFn Γ6 8 8 198 (impTs 0 [.one (.s (.flt .f32 x))]).1 (impTs 0 [.one (.s (.flt .f32 x))]).2 (expo (impTs 0 [.one (.s (.flt .f32 x))]).2.length) = zdu x (fun c0_ => some ((AV.v (TV.one (At.flt FloatKind.f32 c0_))), [])) := by kernel_rfl
theorem z50 : SumOne Try.prog 198 z5x := sum_of (Γ := Γ6) (fuel := 8) (d := 8) tyTab_ok (FnL.ok fnTab_ok _ _) (LpL.ok lt6_ok) (SumL.ok tb6_ok _) mixed (by
  intro pts v news hp hc
  clear hc
  unfold z5x at hp
  split at hp
  · rename_i x
    exact Eq.trans (Eq.trans (zun x) (zra (zop x) rfl x (fun c0_ => some c0_))) (fin_out (o := (zop x)) (x := zdw x) (d := default) (V := fun r => ((AV.v (TV.one (At.flt FloatKind.f32 r))), [])) (fun r => rfl) hp)
  · cases hp)
noncomputable def z58 : Nat → St → Option (Bool × LO)
  | 5, (St.mk [(0, (AV.v (TV.one (At.ptr 4 0 7)))), (4, (AV.v (TV.one (At.flt FloatKind.f32 t4)))), (57, (AV.v (TV.one (At.int IntKind.i64 t57)))), (58, (AV.v (TV.one (At.int IntKind.i64 t58))))] [(Blk.mk Bool.false (Body.fl FloatKind.f32 b0)), (Blk.mk Bool.false (Body.fl FloatKind.f32 b1)), (Blk.mk Bool.false (Body.fl FloatKind.f32 b2)), (Blk.mk Bool.false (Body.fl FloatKind.f32 b3)), (Blk.mk Bool.false (Body.cells [(At.vw 0 0 q1q 1), (At.vw 1 0 q1o 1), (At.vw 2 0 q1p 1), (At.vw 3 0 q1d 3), (At.int IntKind.i64 q20), (At.flt FloatKind.f32 q1z), (At.flt FloatKind.f32 q1g)]))]) => some ((zaq t57 b3 q1d q1g t4 t58), (LO.two (za6 t57 b3 q1d q1g t4 t58) (LO.one Ex.ret (St.mk [(2, (AV.v (TV.one (At.bool Bool.false))))] [(Blk.mk Bool.false (Body.fl FloatKind.f32 b0)), (Blk.mk Bool.false (Body.fl FloatKind.f32 b1)), (Blk.mk Bool.false (Body.fl FloatKind.f32 b2)), (Blk.mk Bool.false (Body.fl FloatKind.f32 b3)), (Blk.mk Bool.false (Body.cells [(At.vw 0 0 q1q 1), (At.vw 1 0 q1o 1), (At.vw 2 0 q1p 1), (At.vw 3 0 q1d 3), (At.int IntKind.i64 q20), (At.flt FloatKind.f32 q1z), (At.flt FloatKind.f32 q1g)]))])) (LO.one (Ex.exit 0) (St.mk [(0, (AV.v (TV.one (At.ptr 4 0 7)))), (4, (AV.v (TV.one (At.flt FloatKind.f32 (zjj t57 b3 q1d q1g t4 t58))))), (57, (AV.v (TV.one (At.int IntKind.i64 t57)))), (58, (AV.v (TV.one (At.int IntKind.i64 (zjn t57 b3 q1d q1g t4 t58))))), (59, (AV.v (TV.one (At.bool (zjs t57 b3 q1d q1g t4 t58)))))] [(Blk.mk Bool.false (Body.fl FloatKind.f32 b0)), (Blk.mk Bool.false (Body.fl FloatKind.f32 b1)), (Blk.mk Bool.false (Body.fl FloatKind.f32 b2)), (Blk.mk Bool.false (Body.fl FloatKind.f32 b3)), (Blk.mk Bool.false (Body.cells [(At.vw 0 0 q1q 1), (At.vw 1 0 q1o 1), (At.vw 2 0 q1p 1), (At.vw 3 0 q1d 3), (At.int IntKind.i64 q20), (At.flt FloatKind.f32 q1z), (At.flt FloatKind.f32 q1g)]))]))))
  | _, _ => none
def zfv (t57 : Int) (b0 : List Nat) (b1 : List Nat) (b2 : List Nat) (b3 : List Nat) (q1q : Nat) (q1o : Nat) (q1p : Nat) (q1d : Nat) (q20 : Int) (q1z : Nat) (q1g : Nat) : Option ((Unit) ⊕ (Nat × Int × Bool)) → Option (Ex × St)
  | none => none
  | some (Sum.inl r) => some (Ex.ret, (St.mk [(2, (AV.v (TV.one (At.bool Bool.false))))] [(Blk.mk Bool.false (Body.fl FloatKind.f32 b0)), (Blk.mk Bool.false (Body.fl FloatKind.f32 b1)), (Blk.mk Bool.false (Body.fl FloatKind.f32 b2)), (Blk.mk Bool.false (Body.fl FloatKind.f32 b3)), (Blk.mk Bool.false (Body.cells [(At.vw 0 0 q1q 1), (At.vw 1 0 q1o 1), (At.vw 2 0 q1p 1), (At.vw 3 0 q1d 3), (At.int IntKind.i64 q20), (At.flt FloatKind.f32 q1z), (At.flt FloatKind.f32 q1g)]))]))
  | some (Sum.inr r) => some ((Ex.exit 0), (St.mk [(0, (AV.v (TV.one (At.ptr 4 0 7)))), (4, (AV.v (TV.one (At.flt FloatKind.f32 r.1)))), (57, (AV.v (TV.one (At.int IntKind.i64 t57)))), (58, (AV.v (TV.one (At.int IntKind.i64 r.2.1)))), (59, (AV.v (TV.one (At.bool r.2.2))))] [(Blk.mk Bool.false (Body.fl FloatKind.f32 b0)), (Blk.mk Bool.false (Body.fl FloatKind.f32 b1)), (Blk.mk Bool.false (Body.fl FloatKind.f32 b2)), (Blk.mk Bool.false (Body.fl FloatKind.f32 b3)), (Blk.mk Bool.false (Body.cells [(At.vw 0 0 q1q 1), (At.vw 1 0 q1o 1), (At.vw 2 0 q1p 1), (At.vw 3 0 q1d 3), (At.int IntKind.i64 q20), (At.flt FloatKind.f32 q1z), (At.flt FloatKind.f32 q1g)]))]))
def ztf (t57 : Int) (b0 : List Nat) (b1 : List Nat) (b2 : List Nat) (b3 : List Nat) (q1q : Nat) (q1o : Nat) (q1p : Nat) (q1d : Nat) (q20 : Int) (q1z : Nat) (q1g : Nat) (x : Option ((Unit) ⊕ (Nat × Int × Bool))) : LO := (LO.two (oL x) (LO.one Ex.ret (St.mk [(2, (AV.v (TV.one (At.bool Bool.false))))] [(Blk.mk Bool.false (Body.fl FloatKind.f32 b0)), (Blk.mk Bool.false (Body.fl FloatKind.f32 b1)), (Blk.mk Bool.false (Body.fl FloatKind.f32 b2)), (Blk.mk Bool.false (Body.fl FloatKind.f32 b3)), (Blk.mk Bool.false (Body.cells [(At.vw 0 0 q1q 1), (At.vw 1 0 q1o 1), (At.vw 2 0 q1p 1), (At.vw 3 0 q1d 3), (At.int IntKind.i64 q20), (At.flt FloatKind.f32 q1z), (At.flt FloatKind.f32 q1g)]))])) (LO.one (Ex.exit 0) (St.mk [(0, (AV.v (TV.one (At.ptr 4 0 7)))), (4, (AV.v (TV.one (At.flt FloatKind.f32 ((tR x).getD default).1)))), (57, (AV.v (TV.one (At.int IntKind.i64 t57)))), (58, (AV.v (TV.one (At.int IntKind.i64 ((tR x).getD default).2.1)))), (59, (AV.v (TV.one (At.bool ((tR x).getD default).2.2))))] [(Blk.mk Bool.false (Body.fl FloatKind.f32 b0)), (Blk.mk Bool.false (Body.fl FloatKind.f32 b1)), (Blk.mk Bool.false (Body.fl FloatKind.f32 b2)), (Blk.mk Bool.false (Body.fl FloatKind.f32 b3)), (Blk.mk Bool.false (Body.cells [(At.vw 0 0 q1q 1), (At.vw 1 0 q1o 1), (At.vw 2 0 q1p 1), (At.vw 3 0 q1d 3), (At.int IntKind.i64 q20), (At.flt FloatKind.f32 q1z), (At.flt FloatKind.f32 q1g)]))])))
theorem ztw (t57 : Int) (b0 : List Nat) (b1 : List Nat) (b2 : List Nat) (b3 : List Nat) (q1q : Nat) (q1o : Nat) (q1p : Nat) (q1d : Nat) (q20 : Int) (q1z : Nat) (q1g : Nat) : ∀ x : Option ((Unit) ⊕ (Nat × Int × Bool)), x.isSome = true → (zfv t57 b0 b1 b2 b3 q1q q1o q1p q1d q20 q1z q1g) x = some (pick (ztf t57 b0 b1 b2 b3 q1q q1o q1p q1d q20 q1z q1g x))
  | none, h => by cases h
  | some (Sum.inl r), _ => rfl
  | some (Sum.inr r), _ => rfl
theorem zu5 (t4 : Nat) (t57 : Int) (t58 : Int) (b0 : List Nat) (b1 : List Nat) (b2 : List Nat) (b3 : List Nat) (q1q : Nat) (q1o : Nat) (q1p : Nat) (q1d : Nat) (q20 : Int) (q1z : Nat) (q1g : Nat) (K : Ex → St → Option (Ex × St)) : evC (R := Ex × St) Γ6 (evFn Γ6 8 8) 161 5 fi161.nt fi161.live fi161.nl 8 (findL 6 (loopsIn fi161.code)) (St.mk [(0, (AV.v (TV.one (At.ptr 4 0 7)))), (4, (AV.v (TV.one (At.flt FloatKind.f32 t4)))), (57, (AV.v (TV.one (At.int IntKind.i64 t57)))), (58, (AV.v (TV.one (At.int IntKind.i64 t58))))] [(Blk.mk Bool.false (Body.fl FloatKind.f32 b0)), (Blk.mk Bool.false (Body.fl FloatKind.f32 b1)), (Blk.mk Bool.false (Body.fl FloatKind.f32 b2)), (Blk.mk Bool.false (Body.fl FloatKind.f32 b3)), (Blk.mk Bool.false (Body.cells [(At.vw 0 0 q1q 1), (At.vw 1 0 q1o 1), (At.vw 2 0 q1p 1), (At.vw 3 0 q1d 3), (At.int IntKind.i64 q20), (At.flt FloatKind.f32 q1z), (At.flt FloatKind.f32 q1g)]))]) K = z8t t57 b3 q1d q1g t4 t58 (fun t4' t58' => K .normal (St.mk [(0, (AV.v (TV.one (At.ptr 4 0 7)))), (4, (AV.v (TV.one (At.flt FloatKind.f32 t4')))), (57, (AV.v (TV.one (At.int IntKind.i64 t57)))), (58, (AV.v (TV.one (At.int IntKind.i64 t58'))))] [(Blk.mk Bool.false (Body.fl FloatKind.f32 b0)), (Blk.mk Bool.false (Body.fl FloatKind.f32 b1)), (Blk.mk Bool.false (Body.fl FloatKind.f32 b2)), (Blk.mk Bool.false (Body.fl FloatKind.f32 b3)), (Blk.mk Bool.false (Body.cells [(At.vw 0 0 q1q 1), (At.vw 1 0 q1o 1), (At.vw 2 0 q1p 1), (At.vw 3 0 q1d 3), (At.int IntKind.i64 q20), (At.flt FloatKind.f32 q1z), (At.flt FloatKind.f32 q1g)]))])) (fun _ => K Ex.ret (St.mk [(2, (AV.v (TV.one (At.bool Bool.false))))] [(Blk.mk Bool.false (Body.fl FloatKind.f32 b0)), (Blk.mk Bool.false (Body.fl FloatKind.f32 b1)), (Blk.mk Bool.false (Body.fl FloatKind.f32 b2)), (Blk.mk Bool.false (Body.fl FloatKind.f32 b3)), (Blk.mk Bool.false (Body.cells [(At.vw 0 0 q1q 1), (At.vw 1 0 q1o 1), (At.vw 2 0 q1p 1), (At.vw 3 0 q1d 3), (At.int IntKind.i64 q20), (At.flt FloatKind.f32 q1z), (At.flt FloatKind.f32 q1g)]))])) (fun c0_ c1_ c2_ => K (Ex.exit 0) (St.mk [(0, (AV.v (TV.one (At.ptr 4 0 7)))), (4, (AV.v (TV.one (At.flt FloatKind.f32 c0_)))), (57, (AV.v (TV.one (At.int IntKind.i64 t57)))), (58, (AV.v (TV.one (At.int IntKind.i64 c1_)))), (59, (AV.v (TV.one (At.bool c2_))))] [(Blk.mk Bool.false (Body.fl FloatKind.f32 b0)), (Blk.mk Bool.false (Body.fl FloatKind.f32 b1)), (Blk.mk Bool.false (Body.fl FloatKind.f32 b2)), (Blk.mk Bool.false (Body.fl FloatKind.f32 b3)), (Blk.mk Bool.false (Body.cells [(At.vw 0 0 q1q 1), (At.vw 1 0 q1o 1), (At.vw 2 0 q1p 1), (At.vw 3 0 q1d 3), (At.int IntKind.i64 q20), (At.flt FloatKind.f32 q1z), (At.flt FloatKind.f32 q1g)]))])) := by kernel_rfl
theorem zu9 (t57 : Int) (b0 : List Nat) (b1 : List Nat) (b2 : List Nat) (b3 : List Nat) (q1q : Nat) (q1o : Nat) (q1p : Nat) (q1d : Nat) (q20 : Int) (q1z : Nat) (q1g : Nat) : ∀ (n : Nat) (t4 : Nat) (t58 : Int), iter 161 6 5 (evC (R := Ex × St) Γ6 (evFn Γ6 8 8) 161 5 fi161.nt fi161.live fi161.nl 8 (findL 6 (loopsIn fi161.code))) n (St.mk [(0, (AV.v (TV.one (At.ptr 4 0 7)))), (4, (AV.v (TV.one (At.flt FloatKind.f32 t4)))), (57, (AV.v (TV.one (At.int IntKind.i64 t57)))), (58, (AV.v (TV.one (At.int IntKind.i64 t58))))] [(Blk.mk Bool.false (Body.fl FloatKind.f32 b0)), (Blk.mk Bool.false (Body.fl FloatKind.f32 b1)), (Blk.mk Bool.false (Body.fl FloatKind.f32 b2)), (Blk.mk Bool.false (Body.fl FloatKind.f32 b3)), (Blk.mk Bool.false (Body.cells [(At.vw 0 0 q1q 1), (At.vw 1 0 q1o 1), (At.vw 2 0 q1p 1), (At.vw 3 0 q1d 3), (At.int IntKind.i64 q20), (At.flt FloatKind.f32 q1z), (At.flt FloatKind.f32 q1g)]))]) (fun e st => some (e, st)) = (zfv t57 b0 b1 b2 b3 q1q q1o q1p q1d q20 q1z q1g) (z56 t57 b3 q1d q1g n t4 t58) := by
  intro n
  induction n with
  | zero => intros; rfl
  | succ n ih =>
    intro t4 t58
    refine Eq.trans (iter_succ ..) (Eq.trans (zu5 t4 t57 t58 b0 b1 b2 b3 q1q q1o q1p q1d q20 q1z q1g (nextK 161 6 5 (evC (R := Ex × St) Γ6 (evFn Γ6 8 8) 161 5 fi161.nt fi161.live fi161.nl 8 (findL 6 (loopsIn fi161.code))) n (fun e st => some (e, st)))) (Eq.trans ?_ (zqf (zfv t57 b0 b1 b2 b3 q1q q1o q1p q1d q20 q1z q1g) rfl t57 b3 q1d q1g t4 t58 (fun t4' t58' => z56 t57 b3 q1d q1g n t4' t58') (fun _ => some (Sum.inl ())) (fun c0_ c1_ c2_ => some (Sum.inr (c0_, c1_, c2_))))))
    exact congrArg (fun kn_ => z8t t57 b3 q1d q1g t4 t58 kn_ (fun _ => (zfv t57 b0 b1 b2 b3 q1q q1o q1p q1d q20 q1z q1g) (some (Sum.inl ()))) (fun c0_ c1_ c2_ => (zfv t57 b0 b1 b2 b3 q1q q1o q1p q1d q20 q1z q1g) (some (Sum.inr (c0_, c1_, c2_))))) (funext fun t4' => funext fun t58' => ih t4' t58')
theorem z4e : LoopOne Try.prog fnTab 161 6 z58 := lp_of (Γ := Γ6) tyTab_ok (FnL.ok fnTab_ok _ _) (LpL.ok lt6_ok) (SumL.ok tb6_ok _) mixed (fi := fi161) (by kernel_rfl) (by kernel_rfl) (by
  intro lo st out hp
  unfold z58 at hp
  split at hp
  · rename_i t4 t57 t58 b0 b1 b2 b3 q1q q1o q1p q1d q20 q1z q1g
    injection hp with hp
    injection hp with h1 h2
    subst h2
    exact ⟨8, 8, big, Eq.trans (zu9 t57 b0 b1 b2 b3 q1q q1o q1p q1d q20 q1z q1g big t4 t58) (ztw t57 b0 b1 b2 b3 q1q q1o q1p q1d q20 q1z q1g (z56 t57 b3 q1d q1g big t4 t58) h1)⟩
  · cases hp)
noncomputable def tb7 : List (Nat × (List PT → Option (Bool × AV × List Blk))) := [(156, z0s), (181, z1a), (182, z22), (189, z21), (26, z2r), (55, z29), (84, z0x), (89, z3u), (102, z63), (112, z1y), (115, z2a), (123, z2p), (126, z4h), (157, z62), (160, z1x), (162, z4j), (167, z28), (175, z3t), (176, z1o), (187, z2b), (74, z3m), (83, z0w), (85, z46), (90, z3l), (103, z47), (111, z2m), (116, z31), (138, z2z), (148, z1v), (150, z18), (169, z2l), (185, z30), (52, z3v), (154, z2k), (158, z5i), (166, z2j), (104, z2u), (119, z39), (120, z2t), (168, z2s), (188, z2g), (54, z4v), (121, z3n), (122, z36), (165, z4x), (178, z0b), (178, z07), (184, z65), (56, z5f), (170, z6c), (178, z0h), (105, z7a), (124, z4g), (147, z0d), (147, z0a), (147, z0g), (198, z5x)]
noncomputable def lt7 : List ((Nat × Nat) × (Nat → St → Option (Bool × LO))) := [((166, 3), z15), ((120, 3), z1g), ((168, 4), z1e), ((188, 17), z10), ((122, 4), z1p), ((178, 2), z04), ((178, 2), z02), ((184, 5), z3r), ((178, 2), z06), ((105, 9), z5d), ((161, 6), z58)]
noncomputable def Γ7 : Ctx := ⟨tyTab, fnTab, tblSum tb7, tblLp lt7⟩
theorem tb7_ok : SumL Try.prog tb7 := SumL.cons z0r (SumL.cons z11 (SumL.cons z1i (SumL.cons z1j (SumL.cons z26 (SumL.cons z1u (SumL.cons z0t (SumL.cons z2x (SumL.cons z4q (SumL.cons z1c (SumL.cons z1s (SumL.cons z27 (SumL.cons z3h (SumL.cons z4r (SumL.cons z1f (SumL.cons z3f (SumL.cons z1t (SumL.cons z2y (SumL.cons z14 (SumL.cons z1r (SumL.cons z2v (SumL.cons z0v (SumL.cons z3b (SumL.cons z2w (SumL.cons z38 (SumL.cons z23 (SumL.cons z2f (SumL.cons z2i (SumL.cons z1b (SumL.cons z13 (SumL.cons z24 (SumL.cons z2h (SumL.cons z35 (SumL.cons z20 (SumL.cons z45 (SumL.cons z1z (SumL.cons z2d (SumL.cons z2n (SumL.cons z2e (SumL.cons z2c (SumL.cons z25 (SumL.cons z40 (SumL.cons z32 (SumL.cons z2q (SumL.cons z42 (SumL.cons z0e (SumL.cons z08 (SumL.cons z57 (SumL.cons z4d (SumL.cons z5s (SumL.cons z0l (SumL.cons z6g (SumL.cons z43 (SumL.cons z0j (SumL.cons z0f (SumL.cons z0k (SumL.cons z50 (SumL.nil)))))))))))))))))))))))))))))))))))))))))))))))))))))))))
theorem lt7_ok : LpL Try.prog fnTab lt7 := LpL.cons z12 (LpL.cons z17 (LpL.cons z16 (LpL.cons z0y (LpL.cons z1h (LpL.cons z05 (LpL.cons z03 (LpL.cons z34 (LpL.cons z09 (LpL.cons z4c (LpL.cons z4e (LpL.nil)))))))))))
noncomputable def z54 : List PT → Option (Bool × AV × List Blk)
  | [.one (.row 1 q1s (.fl .f32 q26))] => some ((zil q1s q26), ((AV.v (TV.one (At.bool (zh2 q1s q26)))), []))
  | _ => none
def zmm (q1s : Nat) (q26 : List Nat) : Option (Bool) → Option (AV × List Blk)
  | some r => some ((AV.v (TV.one (At.bool r))), [])
  | none => none
theorem zti (q1s : Nat) (q26 : List Nat) : evFn Γ7 8 8 77 (impTs 0 [.one (.row 1 q1s (.fl .f32 q26))]).1 (impTs 0 [.one (.row 1 q1s (.fl .f32 q26))]).2 (expo (impTs 0 [.one (.row 1 q1s (.fl .f32 q26))]).2.length) = zbw q1s q26 (fun c0_ => some ((AV.v (TV.one (At.bool c0_))), [])) := by kernel_rfl
theorem z4s : SumOne Try.prog 77 z54 := sum_of (Γ := Γ7) (fuel := 8) (d := 8) tyTab_ok (FnL.ok fnTab_ok _ _) (LpL.ok lt7_ok) (SumL.ok tb7_ok _) mixed (by
  intro pts v news hp hc
  clear hc
  unfold z54 at hp
  split at hp
  · rename_i q1s q26
    exact Eq.trans (Eq.trans (zti q1s q26) (zp3 (zmm q1s q26) rfl q1s q26 (fun c0_ => some c0_))) (fin_out (o := (zmm q1s q26)) (x := zch q1s q26) (d := default) (V := fun r => ((AV.v (TV.one (At.bool r))), [])) (fun r => rfl) hp)
  · cases hp)
noncomputable def z41 : List PT → Option (Bool × AV × List Blk)
  | [.one (.row 1 q1s (.fl .f32 q26))] => some ((za9 q1s q26), ((AV.v (TV.one (At.bool (z9w q1s q26)))), []))
  | _ => none
def zln (q1s : Nat) (q26 : List Nat) : Option (Bool) → Option (AV × List Blk)
  | some r => some ((AV.v (TV.one (At.bool r))), [])
  | none => none
theorem zr0 (q1s : Nat) (q26 : List Nat) : evFn Γ7 8 8 88 (impTs 0 [.one (.row 1 q1s (.fl .f32 q26))]).1 (impTs 0 [.one (.row 1 q1s (.fl .f32 q26))]).2 (expo (impTs 0 [.one (.row 1 q1s (.fl .f32 q26))]).2.length) = zak q1s q26 (fun c0_ => some ((AV.v (TV.one (At.bool c0_))), [])) := by kernel_rfl
theorem z3p : SumOne Try.prog 88 z41 := sum_of (Γ := Γ7) (fuel := 8) (d := 8) tyTab_ok (FnL.ok fnTab_ok _ _) (LpL.ok lt7_ok) (SumL.ok tb7_ok _) mixed (by
  intro pts v news hp hc
  clear hc
  unfold z41 at hp
  split at hp
  · rename_i q1s q26
    exact Eq.trans (Eq.trans (zr0 q1s q26) (znj (zln q1s q26) rfl q1s q26 (fun c0_ => some c0_))) (fin_out (o := (zln q1s q26)) (x := z8d q1s q26) (d := default) (V := fun r => ((AV.v (TV.one (At.bool r))), [])) (fun r => rfl) hp)
  · cases hp)
noncomputable def z5r : List PT → Option (Bool × AV × List Blk)
  | [.one (.row 1 q1s (.fl .f32 q26))] => some ((zjd q1s q26), ((AV.v (TV.one (At.bool (zio q1s q26)))), []))
  | _ => none
def znf (q1s : Nat) (q26 : List Nat) : Option (Bool) → Option (AV × List Blk)
  | some r => some ((AV.v (TV.one (At.bool r))), [])
  | none => none
theorem zu2 (q1s : Nat) (q26 : List Nat) : evFn Γ7 8 8 97 (impTs 0 [.one (.row 1 q1s (.fl .f32 q26))]).1 (impTs 0 [.one (.row 1 q1s (.fl .f32 q26))]).2 (expo (impTs 0 [.one (.row 1 q1s (.fl .f32 q26))]).2.length) = zd2 q1s q26 (fun c0_ => some ((AV.v (TV.one (At.bool c0_))), [])) := by kernel_rfl
theorem z59 : SumOne Try.prog 97 z5r := sum_of (Γ := Γ7) (fuel := 8) (d := 8) tyTab_ok (FnL.ok fnTab_ok _ _) (LpL.ok lt7_ok) (SumL.ok tb7_ok _) mixed (by
  intro pts v news hp hc
  clear hc
  unfold z5r at hp
  split at hp
  · rename_i q1s q26
    exact Eq.trans (Eq.trans (zu2 q1s q26) (zqd (znf q1s q26) rfl q1s q26 (fun c0_ => some c0_))) (fin_out (o := (znf q1s q26)) (x := zcx q1s q26) (d := default) (V := fun r => ((AV.v (TV.one (At.bool r))), [])) (fun r => rfl) hp)
  · cases hp)
noncomputable def z53 : List PT → Option (Bool × AV × List Blk)
  | [.one (.s (.flt .f32 x))] => some ((z83 x), ((AV.v (TV.one (At.flt FloatKind.f32 (z5q x)))), []))
  | _ => none
def zmf (x : Nat) : Option (Nat) → Option (AV × List Blk)
  | some r => some ((AV.v (TV.one (At.flt FloatKind.f32 r))), [])
  | none => none
theorem zt5 (x : Nat) : evFn Γ7 8 8 109 (impTs 0 [.one (.s (.flt .f32 x))]).1 (impTs 0 [.one (.s (.flt .f32 x))]).2 (expo (impTs 0 [.one (.s (.flt .f32 x))]).2.length) = zc6 x (fun c0_ => some ((AV.v (TV.one (At.flt FloatKind.f32 c0_))), [])) := by kernel_rfl
theorem z4t : SumOne Try.prog 109 z53 := sum_of (Γ := Γ7) (fuel := 8) (d := 8) tyTab_ok (FnL.ok fnTab_ok _ _) (LpL.ok lt7_ok) (SumL.ok tb7_ok _) mixed (by
  intro pts v news hp hc
  clear hc
  unfold z53 at hp
  split at hp
  · rename_i x
    exact Eq.trans (Eq.trans (zt5 x) (zpl (zmf x) rfl x (fun c0_ => some c0_))) (fin_out (o := (zmf x)) (x := zc0 x) (d := default) (V := fun r => ((AV.v (TV.one (At.flt FloatKind.f32 r))), [])) (fun r => rfl) hp)
  · cases hp)
noncomputable def z73 : List PT → Option (Bool × AV × List Blk)
  | [.ptr [.row 1 q11 (.fl .f32 q17), .row 1 q15 (.fl .f32 q1b), .row 1 q14 (.fl .f32 q1a), .row 3 q1c (.fl .f32 q1r), .s (.int .i64 q1x), .s (.flt .f32 q23), .s (.flt .f32 q22)]] => some ((zl4 q11 q17 q15 q1b q14 q1a q1c q1r q1x q23 q22), ((AV.v (TV.one (At.bool (zko q11 q17 q15 q1b q14 q1a q1c q1r q1x q23 q22)))), []))
  | _ => none
def zr8 (q11 : Nat) (q17 : List Nat) (q15 : Nat) (q1b : List Nat) (q14 : Nat) (q1a : List Nat) (q1c : Nat) (q1r : List Nat) (q1x : Int) (q23 : Nat) (q22 : Nat) : Option (Bool) → Option (AV × List Blk)
  | some r => some ((AV.v (TV.one (At.bool r))), [])
  | none => none
theorem zvh (q11 : Nat) (q17 : List Nat) (q15 : Nat) (q1b : List Nat) (q14 : Nat) (q1a : List Nat) (q1c : Nat) (q1r : List Nat) (q1x : Int) (q23 : Nat) (q22 : Nat) : evFn Γ7 8 8 161 (impTs 0 [.ptr [.row 1 q11 (.fl .f32 q17), .row 1 q15 (.fl .f32 q1b), .row 1 q14 (.fl .f32 q1a), .row 3 q1c (.fl .f32 q1r), .s (.int .i64 q1x), .s (.flt .f32 q23), .s (.flt .f32 q22)]]).1 (impTs 0 [.ptr [.row 1 q11 (.fl .f32 q17), .row 1 q15 (.fl .f32 q1b), .row 1 q14 (.fl .f32 q1a), .row 3 q1c (.fl .f32 q1r), .s (.int .i64 q1x), .s (.flt .f32 q23), .s (.flt .f32 q22)]]).2 (expo (impTs 0 [.ptr [.row 1 q11 (.fl .f32 q17), .row 1 q15 (.fl .f32 q1b), .row 1 q14 (.fl .f32 q1a), .row 3 q1c (.fl .f32 q1r), .s (.int .i64 q1x), .s (.flt .f32 q23), .s (.flt .f32 q22)]]).2.length) = zhf q11 q17 q15 q1b q14 q1a q1c q1r q1x q23 q22 (fun c0_ => some ((AV.v (TV.one (At.bool c0_))), [])) := by kernel_rfl
theorem z6d : SumOne Try.prog 161 z73 := sum_of (Γ := Γ7) (fuel := 8) (d := 8) tyTab_ok (FnL.ok fnTab_ok _ _) (LpL.ok lt7_ok) (SumL.ok tb7_ok _) mixed (by
  intro pts v news hp hc
  clear hc
  unfold z73 at hp
  split at hp
  · rename_i q11 q17 q15 q1b q14 q1a q1c q1r q1x q23 q22
    exact Eq.trans (Eq.trans (zvh q11 q17 q15 q1b q14 q1a q1c q1r q1x q23 q22) (zte (zr8 q11 q17 q15 q1b q14 q1a q1c q1r q1x q23 q22) rfl q11 q17 q15 q1b q14 q1a q1c q1r q1x q23 q22 (fun c0_ => some c0_))) (fin_out (o := (zr8 q11 q17 q15 q1b q14 q1a q1c q1r q1x q23 q22)) (x := zi0 q11 q17 q15 q1b q14 q1a q1c q1r q1x q23 q22) (d := default) (V := fun r => ((AV.v (TV.one (At.bool r))), [])) (fun r => rfl) hp)
  · cases hp)
noncomputable def tb8 : List (Nat × (List PT → Option (Bool × AV × List Blk))) := [(156, z0s), (181, z1a), (182, z22), (189, z21), (26, z2r), (55, z29), (84, z0x), (89, z3u), (102, z63), (112, z1y), (115, z2a), (123, z2p), (126, z4h), (157, z62), (160, z1x), (162, z4j), (167, z28), (175, z3t), (176, z1o), (187, z2b), (74, z3m), (83, z0w), (85, z46), (90, z3l), (103, z47), (111, z2m), (116, z31), (138, z2z), (148, z1v), (150, z18), (169, z2l), (185, z30), (52, z3v), (154, z2k), (158, z5i), (166, z2j), (104, z2u), (119, z39), (120, z2t), (168, z2s), (188, z2g), (54, z4v), (121, z3n), (122, z36), (165, z4x), (178, z0b), (178, z07), (184, z65), (56, z5f), (170, z6c), (178, z0h), (105, z7a), (124, z4g), (147, z0d), (147, z0a), (147, z0g), (198, z5x), (77, z54), (88, z41), (97, z5r), (109, z53), (161, z73)]
noncomputable def lt8 : List ((Nat × Nat) × (Nat → St → Option (Bool × LO))) := [((166, 3), z15), ((120, 3), z1g), ((168, 4), z1e), ((188, 17), z10), ((122, 4), z1p), ((178, 2), z04), ((178, 2), z02), ((184, 5), z3r), ((178, 2), z06), ((105, 9), z5d), ((161, 6), z58)]
noncomputable def Γ8 : Ctx := ⟨tyTab, fnTab, tblSum tb8, tblLp lt8⟩
theorem tb8_ok : SumL Try.prog tb8 := SumL.cons z0r (SumL.cons z11 (SumL.cons z1i (SumL.cons z1j (SumL.cons z26 (SumL.cons z1u (SumL.cons z0t (SumL.cons z2x (SumL.cons z4q (SumL.cons z1c (SumL.cons z1s (SumL.cons z27 (SumL.cons z3h (SumL.cons z4r (SumL.cons z1f (SumL.cons z3f (SumL.cons z1t (SumL.cons z2y (SumL.cons z14 (SumL.cons z1r (SumL.cons z2v (SumL.cons z0v (SumL.cons z3b (SumL.cons z2w (SumL.cons z38 (SumL.cons z23 (SumL.cons z2f (SumL.cons z2i (SumL.cons z1b (SumL.cons z13 (SumL.cons z24 (SumL.cons z2h (SumL.cons z35 (SumL.cons z20 (SumL.cons z45 (SumL.cons z1z (SumL.cons z2d (SumL.cons z2n (SumL.cons z2e (SumL.cons z2c (SumL.cons z25 (SumL.cons z40 (SumL.cons z32 (SumL.cons z2q (SumL.cons z42 (SumL.cons z0e (SumL.cons z08 (SumL.cons z57 (SumL.cons z4d (SumL.cons z5s (SumL.cons z0l (SumL.cons z6g (SumL.cons z43 (SumL.cons z0j (SumL.cons z0f (SumL.cons z0k (SumL.cons z50 (SumL.cons z4s (SumL.cons z3p (SumL.cons z59 (SumL.cons z4t (SumL.cons z6d (SumL.nil))))))))))))))))))))))))))))))))))))))))))))))))))))))))))))))
theorem lt8_ok : LpL Try.prog fnTab lt8 := LpL.cons z12 (LpL.cons z17 (LpL.cons z16 (LpL.cons z0y (LpL.cons z1h (LpL.cons z05 (LpL.cons z03 (LpL.cons z34 (LpL.cons z09 (LpL.cons z4c (LpL.cons z4e (LpL.nil)))))))))))
noncomputable def z3a : List PT → Option (Bool × AV × List Blk)
  | [.agg [.row 1 q00 (.fl .f32 q03), .row 1 q02 (.fl .f32 q05), .row 1 q01 (.fl .f32 q04), .row 3 q06 (.fl .f32 q08), .s (.int .i64 q0d), .s (.flt .f32 q0g), .s (.flt .f32 q0f)], .one (.s (.int .i64 i)), .one (.s (.flt .f32 q16))] => some ((zcs q00 q03 q02 q05 q01 q04 q06 q08 q0d q0g q0f i q16), ((AV.v (TV.one (At.flt FloatKind.f32 (za0 q00 q03 q02 q05 q01 q04 q06 q08 q0d q0g q0f i q16)))), []))
  | _ => none
def zky (q00 : Nat) (q03 : List Nat) (q02 : Nat) (q05 : List Nat) (q01 : Nat) (q04 : List Nat) (q06 : Nat) (q08 : List Nat) (q0d : Int) (q0g : Nat) (q0f : Nat) (i : Int) (q16 : Nat) : Option (Nat) → Option (AV × List Blk)
  | some r => some ((AV.v (TV.one (At.flt FloatKind.f32 r))), [])
  | none => none
theorem zoi (q00 : Nat) (q03 : List Nat) (q02 : Nat) (q05 : List Nat) (q01 : Nat) (q04 : List Nat) (q06 : Nat) (q08 : List Nat) (q0d : Int) (q0g : Nat) (q0f : Nat) (i : Int) (q16 : Nat) : evFn Γ8 8 8 86 (impTs 0 [.agg [.row 1 q00 (.fl .f32 q03), .row 1 q02 (.fl .f32 q05), .row 1 q01 (.fl .f32 q04), .row 3 q06 (.fl .f32 q08), .s (.int .i64 q0d), .s (.flt .f32 q0g), .s (.flt .f32 q0f)], .one (.s (.int .i64 i)), .one (.s (.flt .f32 q16))]).1 (impTs 0 [.agg [.row 1 q00 (.fl .f32 q03), .row 1 q02 (.fl .f32 q05), .row 1 q01 (.fl .f32 q04), .row 3 q06 (.fl .f32 q08), .s (.int .i64 q0d), .s (.flt .f32 q0g), .s (.flt .f32 q0f)], .one (.s (.int .i64 i)), .one (.s (.flt .f32 q16))]).2 (expo (impTs 0 [.agg [.row 1 q00 (.fl .f32 q03), .row 1 q02 (.fl .f32 q05), .row 1 q01 (.fl .f32 q04), .row 3 q06 (.fl .f32 q08), .s (.int .i64 q0d), .s (.flt .f32 q0g), .s (.flt .f32 q0f)], .one (.s (.int .i64 i)), .one (.s (.flt .f32 q16))]).2.length) = z8w q00 q03 q02 q05 q01 q04 q06 q08 q0d q0g q0f i q16 (fun c0_ => some ((AV.v (TV.one (At.flt FloatKind.f32 c0_))), [])) := by kernel_rfl
theorem z3c : SumOne Try.prog 86 z3a := sum_of (Γ := Γ8) (fuel := 8) (d := 8) tyTab_ok (FnL.ok fnTab_ok _ _) (LpL.ok lt8_ok) (SumL.ok tb8_ok _) mixed (by
  intro pts v news hp hc
  clear hc
  unfold z3a at hp
  split at hp
  · rename_i q00 q03 q02 q05 q01 q04 q06 q08 q0d q0g q0f i q16
    exact Eq.trans (Eq.trans (zoi q00 q03 q02 q05 q01 q04 q06 q08 q0d q0g q0f i q16) (zm7 (zky q00 q03 q02 q05 q01 q04 q06 q08 q0d q0g q0f i q16) rfl q00 q03 q02 q05 q01 q04 q06 q08 q0d q0g q0f i q16 (fun c0_ => some c0_))) (fin_out (o := (zky q00 q03 q02 q05 q01 q04 q06 q08 q0d q0g q0f i q16)) (x := z8z q00 q03 q02 q05 q01 q04 q06 q08 q0d q0g q0f i q16) (d := default) (V := fun r => ((AV.v (TV.one (At.flt FloatKind.f32 r))), [])) (fun r => rfl) hp)
  · cases hp)
noncomputable def z51 : List PT → Option (Bool × AV × List Blk)
  | [.ptr [.row 1 q00 (.fl .f32 q03), .row 1 q02 (.fl .f32 q05), .row 1 q01 (.fl .f32 q04), .row 3 q06 (.fl .f32 q08), .s (.int .i64 q0d), .s (.flt .f32 q0g), .s (.flt .f32 q0f)], .one (.s (.int .i64 i))] => some ((zgw q00 q03 q02 q05 q01 q04 q06 q08 q0d q0g q0f i), ((AV.v (TV.one (At.bool (zgb q00 q03 q02 q05 q01 q04 q06 q08 q0d q0g q0f i)))), []))
  | _ => none
def zlv (q00 : Nat) (q03 : List Nat) (q02 : Nat) (q05 : List Nat) (q01 : Nat) (q04 : List Nat) (q06 : Nat) (q08 : List Nat) (q0d : Int) (q0g : Nat) (q0f : Nat) (i : Int) : Option (Bool) → Option (AV × List Blk)
  | some r => some ((AV.v (TV.one (At.bool r))), [])
  | none => none
theorem zs9 (q00 : Nat) (q03 : List Nat) (q02 : Nat) (q05 : List Nat) (q01 : Nat) (q04 : List Nat) (q06 : Nat) (q08 : List Nat) (q0d : Int) (q0g : Nat) (q0f : Nat) (i : Int) : evFn Γ8 8 8 113 (impTs 0 [.ptr [.row 1 q00 (.fl .f32 q03), .row 1 q02 (.fl .f32 q05), .row 1 q01 (.fl .f32 q04), .row 3 q06 (.fl .f32 q08), .s (.int .i64 q0d), .s (.flt .f32 q0g), .s (.flt .f32 q0f)], .one (.s (.int .i64 i))]).1 (impTs 0 [.ptr [.row 1 q00 (.fl .f32 q03), .row 1 q02 (.fl .f32 q05), .row 1 q01 (.fl .f32 q04), .row 3 q06 (.fl .f32 q08), .s (.int .i64 q0d), .s (.flt .f32 q0g), .s (.flt .f32 q0f)], .one (.s (.int .i64 i))]).2 (expo (impTs 0 [.ptr [.row 1 q00 (.fl .f32 q03), .row 1 q02 (.fl .f32 q05), .row 1 q01 (.fl .f32 q04), .row 3 q06 (.fl .f32 q08), .s (.int .i64 q0d), .s (.flt .f32 q0g), .s (.flt .f32 q0f)], .one (.s (.int .i64 i))]).2.length) = zay q00 q03 q02 q05 q01 q04 q06 q08 q0d q0g q0f i (fun c0_ => some ((AV.v (TV.one (At.bool c0_))), [])) := by kernel_rfl
theorem z4u : SumOne Try.prog 113 z51 := sum_of (Γ := Γ8) (fuel := 8) (d := 8) tyTab_ok (FnL.ok fnTab_ok _ _) (LpL.ok lt8_ok) (SumL.ok tb8_ok _) mixed (by
  intro pts v news hp hc
  clear hc
  unfold z51 at hp
  split at hp
  · rename_i q00 q03 q02 q05 q01 q04 q06 q08 q0d q0g q0f i
    exact Eq.trans (Eq.trans (zs9 q00 q03 q02 q05 q01 q04 q06 q08 q0d q0g q0f i) (zod (zlv q00 q03 q02 q05 q01 q04 q06 q08 q0d q0g q0f i) rfl q00 q03 q02 q05 q01 q04 q06 q08 q0d q0g q0f i (fun c0_ => some c0_))) (fin_out (o := (zlv q00 q03 q02 q05 q01 q04 q06 q08 q0d q0g q0f i)) (x := zb5 q00 q03 q02 q05 q01 q04 q06 q08 q0d q0g q0f i) (d := default) (V := fun r => ((AV.v (TV.one (At.bool r))), [])) (fun r => rfl) hp)
  · cases hp)
noncomputable def z0i : Nat → St → Option (Bool × LO)
  | 5, (St.mk [(0, (AV.v (TV.one (At.vw 0 0 sn 1)))), (1, (AV.v (TV.one (At.fn 179 [(At.ptr 4 0 1)])))), (7, (AV.v (TV.one (At.int IntKind.i64 t7)))), (8, (AV.v (TV.one (At.int IntKind.i64 t8))))] [(Blk.mk Bool.false (Body.fl FloatKind.f32 b0)), (Blk.mk Bool.false (Body.fl FloatKind.f32 b1)), (Blk.mk Bool.false (Body.fl FloatKind.f32 b2)), (Blk.mk Bool.true (Body.cells [(At.vw 0 0 q1l 1), (At.vw 1 0 q25 1), (At.vw 2 0 q24 1)])), (Blk.mk Bool.true (Body.cells [(At.flt FloatKind.f32 b4)]))]) => some ((z3s sn t7 b0 b4 t8), (LO.two (z3k sn t7 b0 b4 t8) (LO.one Ex.ret (St.mk [(4, (AV.v (TV.one (At.int IntKind.i64 (z0q sn t7 b0 b4 t8)))))] [(Blk.mk Bool.false (Body.fl FloatKind.f32 b0)), (Blk.mk Bool.false (Body.fl FloatKind.f32 b1)), (Blk.mk Bool.false (Body.fl FloatKind.f32 b2)), (Blk.mk Bool.true (Body.cells [(At.vw 0 0 q1l 1), (At.vw 1 0 q25 1), (At.vw 2 0 q24 1)])), (Blk.mk Bool.true (Body.cells [(At.flt FloatKind.f32 b4)]))])) (LO.one (Ex.exit 0) (St.mk [(0, (AV.v (TV.one (At.vw 0 0 sn 1)))), (1, (AV.v (TV.one (At.fn 179 [(At.ptr 4 0 1)])))), (7, (AV.v (TV.one (At.int IntKind.i64 t7)))), (8, (AV.v (TV.one (At.int IntKind.i64 (z7i sn t7 b0 b4 t8))))), (9, (AV.v (TV.one (At.bool (z7g sn t7 b0 b4 t8)))))] [(Blk.mk Bool.false (Body.fl FloatKind.f32 b0)), (Blk.mk Bool.false (Body.fl FloatKind.f32 b1)), (Blk.mk Bool.false (Body.fl FloatKind.f32 b2)), (Blk.mk Bool.true (Body.cells [(At.vw 0 0 q1l 1), (At.vw 1 0 q25 1), (At.vw 2 0 q24 1)])), (Blk.mk Bool.true (Body.cells [(At.flt FloatKind.f32 b4)]))]))))
  | _, _ => none
def z5a (sn : Nat) (t7 : Int) (b0 : List Nat) (b1 : List Nat) (b2 : List Nat) (q1l : Nat) (q25 : Nat) (q24 : Nat) (b4 : Nat) : Option ((Int) ⊕ (Int × Bool)) → Option (Ex × St)
  | none => none
  | some (Sum.inl r) => some (Ex.ret, (St.mk [(4, (AV.v (TV.one (At.int IntKind.i64 r))))] [(Blk.mk Bool.false (Body.fl FloatKind.f32 b0)), (Blk.mk Bool.false (Body.fl FloatKind.f32 b1)), (Blk.mk Bool.false (Body.fl FloatKind.f32 b2)), (Blk.mk Bool.true (Body.cells [(At.vw 0 0 q1l 1), (At.vw 1 0 q25 1), (At.vw 2 0 q24 1)])), (Blk.mk Bool.true (Body.cells [(At.flt FloatKind.f32 b4)]))]))
  | some (Sum.inr r) => some ((Ex.exit 0), (St.mk [(0, (AV.v (TV.one (At.vw 0 0 sn 1)))), (1, (AV.v (TV.one (At.fn 179 [(At.ptr 4 0 1)])))), (7, (AV.v (TV.one (At.int IntKind.i64 t7)))), (8, (AV.v (TV.one (At.int IntKind.i64 r.1)))), (9, (AV.v (TV.one (At.bool r.2))))] [(Blk.mk Bool.false (Body.fl FloatKind.f32 b0)), (Blk.mk Bool.false (Body.fl FloatKind.f32 b1)), (Blk.mk Bool.false (Body.fl FloatKind.f32 b2)), (Blk.mk Bool.true (Body.cells [(At.vw 0 0 q1l 1), (At.vw 1 0 q25 1), (At.vw 2 0 q24 1)])), (Blk.mk Bool.true (Body.cells [(At.flt FloatKind.f32 b4)]))]))
def zf6 (sn : Nat) (t7 : Int) (b0 : List Nat) (b1 : List Nat) (b2 : List Nat) (q1l : Nat) (q25 : Nat) (q24 : Nat) (b4 : Nat) (x : Option ((Int) ⊕ (Int × Bool))) : LO := (LO.two (oL x) (LO.one Ex.ret (St.mk [(4, (AV.v (TV.one (At.int IntKind.i64 ((tL x).getD default)))))] [(Blk.mk Bool.false (Body.fl FloatKind.f32 b0)), (Blk.mk Bool.false (Body.fl FloatKind.f32 b1)), (Blk.mk Bool.false (Body.fl FloatKind.f32 b2)), (Blk.mk Bool.true (Body.cells [(At.vw 0 0 q1l 1), (At.vw 1 0 q25 1), (At.vw 2 0 q24 1)])), (Blk.mk Bool.true (Body.cells [(At.flt FloatKind.f32 b4)]))])) (LO.one (Ex.exit 0) (St.mk [(0, (AV.v (TV.one (At.vw 0 0 sn 1)))), (1, (AV.v (TV.one (At.fn 179 [(At.ptr 4 0 1)])))), (7, (AV.v (TV.one (At.int IntKind.i64 t7)))), (8, (AV.v (TV.one (At.int IntKind.i64 ((tR x).getD default).1)))), (9, (AV.v (TV.one (At.bool ((tR x).getD default).2))))] [(Blk.mk Bool.false (Body.fl FloatKind.f32 b0)), (Blk.mk Bool.false (Body.fl FloatKind.f32 b1)), (Blk.mk Bool.false (Body.fl FloatKind.f32 b2)), (Blk.mk Bool.true (Body.cells [(At.vw 0 0 q1l 1), (At.vw 1 0 q25 1), (At.vw 2 0 q24 1)])), (Blk.mk Bool.true (Body.cells [(At.flt FloatKind.f32 b4)]))])))
theorem zfp (sn : Nat) (t7 : Int) (b0 : List Nat) (b1 : List Nat) (b2 : List Nat) (q1l : Nat) (q25 : Nat) (q24 : Nat) (b4 : Nat) : ∀ x : Option ((Int) ⊕ (Int × Bool)), x.isSome = true → (z5a sn t7 b0 b1 b2 q1l q25 q24 b4) x = some (pick (zf6 sn t7 b0 b1 b2 q1l q25 q24 b4 x))
  | none, h => by cases h
  | some (Sum.inl r), _ => rfl
  | some (Sum.inr r), _ => rfl
theorem zgc (sn : Nat) (t7 : Int) (t8 : Int) (b0 : List Nat) (b1 : List Nat) (b2 : List Nat) (q1l : Nat) (q25 : Nat) (q24 : Nat) (b4 : Nat) (K : Ex → St → Option (Ex × St)) : evC (R := Ex × St) Γ8 (evFn Γ8 8 8) 178 5 fi178.nt fi178.live fi178.nl 8 (findL 2 (loopsIn fi178.code)) (St.mk [(0, (AV.v (TV.one (At.vw 0 0 sn 1)))), (1, (AV.v (TV.one (At.fn 179 [(At.ptr 4 0 1)])))), (7, (AV.v (TV.one (At.int IntKind.i64 t7)))), (8, (AV.v (TV.one (At.int IntKind.i64 t8))))] [(Blk.mk Bool.false (Body.fl FloatKind.f32 b0)), (Blk.mk Bool.false (Body.fl FloatKind.f32 b1)), (Blk.mk Bool.false (Body.fl FloatKind.f32 b2)), (Blk.mk Bool.true (Body.cells [(At.vw 0 0 q1l 1), (At.vw 1 0 q25 1), (At.vw 2 0 q24 1)])), (Blk.mk Bool.true (Body.cells [(At.flt FloatKind.f32 b4)]))]) K = z19 sn t7 b0 b4 t8 (fun t8' => K .normal (St.mk [(0, (AV.v (TV.one (At.vw 0 0 sn 1)))), (1, (AV.v (TV.one (At.fn 179 [(At.ptr 4 0 1)])))), (7, (AV.v (TV.one (At.int IntKind.i64 t7)))), (8, (AV.v (TV.one (At.int IntKind.i64 t8'))))] [(Blk.mk Bool.false (Body.fl FloatKind.f32 b0)), (Blk.mk Bool.false (Body.fl FloatKind.f32 b1)), (Blk.mk Bool.false (Body.fl FloatKind.f32 b2)), (Blk.mk Bool.true (Body.cells [(At.vw 0 0 q1l 1), (At.vw 1 0 q25 1), (At.vw 2 0 q24 1)])), (Blk.mk Bool.true (Body.cells [(At.flt FloatKind.f32 b4)]))])) (fun c0_ => K Ex.ret (St.mk [(4, (AV.v (TV.one (At.int IntKind.i64 c0_))))] [(Blk.mk Bool.false (Body.fl FloatKind.f32 b0)), (Blk.mk Bool.false (Body.fl FloatKind.f32 b1)), (Blk.mk Bool.false (Body.fl FloatKind.f32 b2)), (Blk.mk Bool.true (Body.cells [(At.vw 0 0 q1l 1), (At.vw 1 0 q25 1), (At.vw 2 0 q24 1)])), (Blk.mk Bool.true (Body.cells [(At.flt FloatKind.f32 b4)]))])) (fun c0_ c1_ => K (Ex.exit 0) (St.mk [(0, (AV.v (TV.one (At.vw 0 0 sn 1)))), (1, (AV.v (TV.one (At.fn 179 [(At.ptr 4 0 1)])))), (7, (AV.v (TV.one (At.int IntKind.i64 t7)))), (8, (AV.v (TV.one (At.int IntKind.i64 c0_)))), (9, (AV.v (TV.one (At.bool c1_))))] [(Blk.mk Bool.false (Body.fl FloatKind.f32 b0)), (Blk.mk Bool.false (Body.fl FloatKind.f32 b1)), (Blk.mk Bool.false (Body.fl FloatKind.f32 b2)), (Blk.mk Bool.true (Body.cells [(At.vw 0 0 q1l 1), (At.vw 1 0 q25 1), (At.vw 2 0 q24 1)])), (Blk.mk Bool.true (Body.cells [(At.flt FloatKind.f32 b4)]))])) := by kernel_rfl
theorem zg9 (sn : Nat) (t7 : Int) (b0 : List Nat) (b1 : List Nat) (b2 : List Nat) (q1l : Nat) (q25 : Nat) (q24 : Nat) (b4 : Nat) : ∀ (n : Nat) (t8 : Int), iter 178 2 5 (evC (R := Ex × St) Γ8 (evFn Γ8 8 8) 178 5 fi178.nt fi178.live fi178.nl 8 (findL 2 (loopsIn fi178.code))) n (St.mk [(0, (AV.v (TV.one (At.vw 0 0 sn 1)))), (1, (AV.v (TV.one (At.fn 179 [(At.ptr 4 0 1)])))), (7, (AV.v (TV.one (At.int IntKind.i64 t7)))), (8, (AV.v (TV.one (At.int IntKind.i64 t8))))] [(Blk.mk Bool.false (Body.fl FloatKind.f32 b0)), (Blk.mk Bool.false (Body.fl FloatKind.f32 b1)), (Blk.mk Bool.false (Body.fl FloatKind.f32 b2)), (Blk.mk Bool.true (Body.cells [(At.vw 0 0 q1l 1), (At.vw 1 0 q25 1), (At.vw 2 0 q24 1)])), (Blk.mk Bool.true (Body.cells [(At.flt FloatKind.f32 b4)]))]) (fun e st => some (e, st)) = (z5a sn t7 b0 b1 b2 q1l q25 q24 b4) (z0c sn t7 b0 b4 n t8) := by
  intro n
  induction n with
  | zero => intros; rfl
  | succ n ih =>
    intro t8
    refine Eq.trans (iter_succ ..) (Eq.trans (zgc sn t7 t8 b0 b1 b2 q1l q25 q24 b4 (nextK 178 2 5 (evC (R := Ex × St) Γ8 (evFn Γ8 8 8) 178 5 fi178.nt fi178.live fi178.nl 8 (findL 2 (loopsIn fi178.code))) n (fun e st => some (e, st)))) (Eq.trans ?_ (zdr (z5a sn t7 b0 b1 b2 q1l q25 q24 b4) rfl sn t7 b0 b4 t8 (fun t8' => z0c sn t7 b0 b4 n t8') (fun c0_ => some (Sum.inl c0_)) (fun c0_ c1_ => some (Sum.inr (c0_, c1_))))))
    exact congrArg (fun kn_ => z19 sn t7 b0 b4 t8 kn_ (fun c0_ => (z5a sn t7 b0 b1 b2 q1l q25 q24 b4) (some (Sum.inl c0_))) (fun c0_ c1_ => (z5a sn t7 b0 b1 b2 q1l q25 q24 b4) (some (Sum.inr (c0_, c1_))))) (funext fun t8' => ih t8')
theorem z0m : LoopOne Try.prog fnTab 178 2 z0i := lp_of (Γ := Γ8) tyTab_ok (FnL.ok fnTab_ok _ _) (LpL.ok lt8_ok) (SumL.ok tb8_ok _) mixed (fi := fi178) (by kernel_rfl) (by kernel_rfl) (by
  intro lo st out hp
  unfold z0i at hp
  split at hp
  · rename_i sn t7 t8 b0 b1 b2 q1l q25 q24 b4
    injection hp with hp
    injection hp with h1 h2
    subst h2
    exact ⟨8, 8, big, Eq.trans (zg9 sn t7 b0 b1 b2 q1l q25 q24 b4 big t8) (zfp sn t7 b0 b1 b2 q1l q25 q24 b4 (z0c sn t7 b0 b4 big t8) h1)⟩
  · cases hp)
noncomputable def z55 : Nat → St → Option (Bool × LO)
  | 4, (St.mk [(0, (AV.v (TV.one (At.ptr 3 0 3)))), (8, (AV.v (TV.one (At.flt FloatKind.f32 t8)))), (9, (AV.v (TV.one (At.int IntKind.i64 t9)))), (10, (AV.v (TV.one (At.int IntKind.i64 t10))))] [(Blk.mk Bool.false (Body.fl FloatKind.f32 b0)), (Blk.mk Bool.false (Body.fl FloatKind.f32 b1)), (Blk.mk Bool.false (Body.fl FloatKind.f32 b2)), (Blk.mk Bool.false (Body.cells [(At.vw 0 0 q1l 1), (At.vw 1 0 q25 1), (At.vw 2 0 q24 1)]))]) => some ((zh6 t8 b0 q1l t10), (LO.one (Ex.exit 0) (St.mk [(0, (AV.v (TV.one (At.ptr 3 0 3)))), (8, (AV.v (TV.one (At.flt FloatKind.f32 t8)))), (9, (AV.v (TV.one (At.int IntKind.i64 t9)))), (10, (AV.v (TV.one (At.int IntKind.i64 (z00 t8 b0 q1l t10))))), (36, (AV.v (TV.one (At.bool (zir t8 b0 q1l t10)))))] [(Blk.mk Bool.false (Body.fl FloatKind.f32 b0)), (Blk.mk Bool.false (Body.fl FloatKind.f32 b1)), (Blk.mk Bool.false (Body.fl FloatKind.f32 b2)), (Blk.mk Bool.false (Body.cells [(At.vw 0 0 q1l 1), (At.vw 1 0 q25 1), (At.vw 2 0 q24 1)]))])))
  | _, _ => none
def zh5 (t8 : Nat) (t9 : Int) (b0 : List Nat) (b1 : List Nat) (b2 : List Nat) (q1l : Nat) (q25 : Nat) (q24 : Nat) : Option ((Int × Bool)) → Option (Ex × St)
  | none => none
  | some r => some ((Ex.exit 0), (St.mk [(0, (AV.v (TV.one (At.ptr 3 0 3)))), (8, (AV.v (TV.one (At.flt FloatKind.f32 t8)))), (9, (AV.v (TV.one (At.int IntKind.i64 t9)))), (10, (AV.v (TV.one (At.int IntKind.i64 r.1)))), (36, (AV.v (TV.one (At.bool r.2))))] [(Blk.mk Bool.false (Body.fl FloatKind.f32 b0)), (Blk.mk Bool.false (Body.fl FloatKind.f32 b1)), (Blk.mk Bool.false (Body.fl FloatKind.f32 b2)), (Blk.mk Bool.false (Body.cells [(At.vw 0 0 q1l 1), (At.vw 1 0 q25 1), (At.vw 2 0 q24 1)]))]))
def zqw (t8 : Nat) (t9 : Int) (b0 : List Nat) (b1 : List Nat) (b2 : List Nat) (q1l : Nat) (q25 : Nat) (q24 : Nat) (x : Option ((Int × Bool))) : LO := (LO.one (Ex.exit 0) (St.mk [(0, (AV.v (TV.one (At.ptr 3 0 3)))), (8, (AV.v (TV.one (At.flt FloatKind.f32 t8)))), (9, (AV.v (TV.one (At.int IntKind.i64 t9)))), (10, (AV.v (TV.one (At.int IntKind.i64 (x.getD default).1)))), (36, (AV.v (TV.one (At.bool (x.getD default).2))))] [(Blk.mk Bool.false (Body.fl FloatKind.f32 b0)), (Blk.mk Bool.false (Body.fl FloatKind.f32 b1)), (Blk.mk Bool.false (Body.fl FloatKind.f32 b2)), (Blk.mk Bool.false (Body.cells [(At.vw 0 0 q1l 1), (At.vw 1 0 q25 1), (At.vw 2 0 q24 1)]))]))
theorem zsj (t8 : Nat) (t9 : Int) (b0 : List Nat) (b1 : List Nat) (b2 : List Nat) (q1l : Nat) (q25 : Nat) (q24 : Nat) : ∀ x : Option ((Int × Bool)), x.isSome = true → (zh5 t8 t9 b0 b1 b2 q1l q25 q24) x = some (pick (zqw t8 t9 b0 b1 b2 q1l q25 q24 x))
  | none, h => by cases h
  | some r, _ => rfl
theorem zrv (t8 : Nat) (t9 : Int) (t10 : Int) (b0 : List Nat) (b1 : List Nat) (b2 : List Nat) (q1l : Nat) (q25 : Nat) (q24 : Nat) (K : Ex → St → Option (Ex × St)) : evC (R := Ex × St) Γ8 (evFn Γ8 8 8) 193 4 fi193.nt fi193.live fi193.nl 8 (findL 4 (loopsIn fi193.code)) (St.mk [(0, (AV.v (TV.one (At.ptr 3 0 3)))), (8, (AV.v (TV.one (At.flt FloatKind.f32 t8)))), (9, (AV.v (TV.one (At.int IntKind.i64 t9)))), (10, (AV.v (TV.one (At.int IntKind.i64 t10))))] [(Blk.mk Bool.false (Body.fl FloatKind.f32 b0)), (Blk.mk Bool.false (Body.fl FloatKind.f32 b1)), (Blk.mk Bool.false (Body.fl FloatKind.f32 b2)), (Blk.mk Bool.false (Body.cells [(At.vw 0 0 q1l 1), (At.vw 1 0 q25 1), (At.vw 2 0 q24 1)]))]) K = z88 t8 b0 q1l t10 (fun t10' => K .normal (St.mk [(0, (AV.v (TV.one (At.ptr 3 0 3)))), (8, (AV.v (TV.one (At.flt FloatKind.f32 t8)))), (9, (AV.v (TV.one (At.int IntKind.i64 t9)))), (10, (AV.v (TV.one (At.int IntKind.i64 t10'))))] [(Blk.mk Bool.false (Body.fl FloatKind.f32 b0)), (Blk.mk Bool.false (Body.fl FloatKind.f32 b1)), (Blk.mk Bool.false (Body.fl FloatKind.f32 b2)), (Blk.mk Bool.false (Body.cells [(At.vw 0 0 q1l 1), (At.vw 1 0 q25 1), (At.vw 2 0 q24 1)]))])) (fun c0_ c1_ => K (Ex.exit 0) (St.mk [(0, (AV.v (TV.one (At.ptr 3 0 3)))), (8, (AV.v (TV.one (At.flt FloatKind.f32 t8)))), (9, (AV.v (TV.one (At.int IntKind.i64 t9)))), (10, (AV.v (TV.one (At.int IntKind.i64 c0_)))), (36, (AV.v (TV.one (At.bool c1_))))] [(Blk.mk Bool.false (Body.fl FloatKind.f32 b0)), (Blk.mk Bool.false (Body.fl FloatKind.f32 b1)), (Blk.mk Bool.false (Body.fl FloatKind.f32 b2)), (Blk.mk Bool.false (Body.cells [(At.vw 0 0 q1l 1), (At.vw 1 0 q25 1), (At.vw 2 0 q24 1)]))])) := by kernel_rfl
theorem zrt (t8 : Nat) (t9 : Int) (b0 : List Nat) (b1 : List Nat) (b2 : List Nat) (q1l : Nat) (q25 : Nat) (q24 : Nat) : ∀ (n : Nat) (t10 : Int), iter 193 4 4 (evC (R := Ex × St) Γ8 (evFn Γ8 8 8) 193 4 fi193.nt fi193.live fi193.nl 8 (findL 4 (loopsIn fi193.code))) n (St.mk [(0, (AV.v (TV.one (At.ptr 3 0 3)))), (8, (AV.v (TV.one (At.flt FloatKind.f32 t8)))), (9, (AV.v (TV.one (At.int IntKind.i64 t9)))), (10, (AV.v (TV.one (At.int IntKind.i64 t10))))] [(Blk.mk Bool.false (Body.fl FloatKind.f32 b0)), (Blk.mk Bool.false (Body.fl FloatKind.f32 b1)), (Blk.mk Bool.false (Body.fl FloatKind.f32 b2)), (Blk.mk Bool.false (Body.cells [(At.vw 0 0 q1l 1), (At.vw 1 0 q25 1), (At.vw 2 0 q24 1)]))]) (fun e st => some (e, st)) = (zh5 t8 t9 b0 b1 b2 q1l q25 q24) (z6i t8 b0 q1l n t10) := by
  intro n
  induction n with
  | zero => intros; rfl
  | succ n ih =>
    intro t10
    refine Eq.trans (iter_succ ..) (Eq.trans (zrv t8 t9 t10 b0 b1 b2 q1l q25 q24 (nextK 193 4 4 (evC (R := Ex × St) Γ8 (evFn Γ8 8 8) 193 4 fi193.nt fi193.live fi193.nl 8 (findL 4 (loopsIn fi193.code))) n (fun e st => some (e, st)))) (Eq.trans ?_ (zog (zh5 t8 t9 b0 b1 b2 q1l q25 q24) rfl t8 b0 q1l t10 (fun t10' => z6i t8 b0 q1l n t10') (fun c0_ c1_ => some (c0_, c1_)))))
    exact congrArg (fun kn_ => z88 t8 b0 q1l t10 kn_ (fun c0_ c1_ => (zh5 t8 t9 b0 b1 b2 q1l q25 q24) (some (c0_, c1_)))) (funext fun t10' => ih t10')
theorem z4w : LoopOne Try.prog fnTab 193 4 z55 := lp_of (Γ := Γ8) tyTab_ok (FnL.ok fnTab_ok _ _) (LpL.ok lt8_ok) (SumL.ok tb8_ok _) mixed (fi := fi193) (by kernel_rfl) (by kernel_rfl) (by
  intro lo st out hp
  unfold z55 at hp
  split at hp
  · rename_i t8 t9 t10 b0 b1 b2 q1l q25 q24
    injection hp with hp
    injection hp with h1 h2
    subst h2
    exact ⟨8, 8, big, Eq.trans (zrt t8 t9 b0 b1 b2 q1l q25 q24 big t10) (zsj t8 t9 b0 b1 b2 q1l q25 q24 (z6i t8 b0 q1l big t10) h1)⟩
  · cases hp)
noncomputable def tb9 : List (Nat × (List PT → Option (Bool × AV × List Blk))) := [(156, z0s), (181, z1a), (182, z22), (189, z21), (26, z2r), (55, z29), (84, z0x), (89, z3u), (102, z63), (112, z1y), (115, z2a), (123, z2p), (126, z4h), (157, z62), (160, z1x), (162, z4j), (167, z28), (175, z3t), (176, z1o), (187, z2b), (74, z3m), (83, z0w), (85, z46), (90, z3l), (103, z47), (111, z2m), (116, z31), (138, z2z), (148, z1v), (150, z18), (169, z2l), (185, z30), (52, z3v), (154, z2k), (158, z5i), (166, z2j), (104, z2u), (119, z39), (120, z2t), (168, z2s), (188, z2g), (54, z4v), (121, z3n), (122, z36), (165, z4x), (178, z0b), (178, z07), (184, z65), (56, z5f), (170, z6c), (178, z0h), (105, z7a), (124, z4g), (147, z0d), (147, z0a), (147, z0g), (198, z5x), (77, z54), (88, z41), (97, z5r), (109, z53), (161, z73), (86, z3a), (113, z51)]
noncomputable def lt9 : List ((Nat × Nat) × (Nat → St → Option (Bool × LO))) := [((166, 3), z15), ((120, 3), z1g), ((168, 4), z1e), ((188, 17), z10), ((122, 4), z1p), ((178, 2), z04), ((178, 2), z02), ((184, 5), z3r), ((178, 2), z06), ((105, 9), z5d), ((161, 6), z58), ((178, 2), z0i), ((193, 4), z55)]
noncomputable def Γ9 : Ctx := ⟨tyTab, fnTab, tblSum tb9, tblLp lt9⟩
theorem tb9_ok : SumL Try.prog tb9 := SumL.cons z0r (SumL.cons z11 (SumL.cons z1i (SumL.cons z1j (SumL.cons z26 (SumL.cons z1u (SumL.cons z0t (SumL.cons z2x (SumL.cons z4q (SumL.cons z1c (SumL.cons z1s (SumL.cons z27 (SumL.cons z3h (SumL.cons z4r (SumL.cons z1f (SumL.cons z3f (SumL.cons z1t (SumL.cons z2y (SumL.cons z14 (SumL.cons z1r (SumL.cons z2v (SumL.cons z0v (SumL.cons z3b (SumL.cons z2w (SumL.cons z38 (SumL.cons z23 (SumL.cons z2f (SumL.cons z2i (SumL.cons z1b (SumL.cons z13 (SumL.cons z24 (SumL.cons z2h (SumL.cons z35 (SumL.cons z20 (SumL.cons z45 (SumL.cons z1z (SumL.cons z2d (SumL.cons z2n (SumL.cons z2e (SumL.cons z2c (SumL.cons z25 (SumL.cons z40 (SumL.cons z32 (SumL.cons z2q (SumL.cons z42 (SumL.cons z0e (SumL.cons z08 (SumL.cons z57 (SumL.cons z4d (SumL.cons z5s (SumL.cons z0l (SumL.cons z6g (SumL.cons z43 (SumL.cons z0j (SumL.cons z0f (SumL.cons z0k (SumL.cons z50 (SumL.cons z4s (SumL.cons z3p (SumL.cons z59 (SumL.cons z4t (SumL.cons z6d (SumL.cons z3c (SumL.cons z4u (SumL.nil))))))))))))))))))))))))))))))))))))))))))))))))))))))))))))))))
theorem lt9_ok : LpL Try.prog fnTab lt9 := LpL.cons z12 (LpL.cons z17 (LpL.cons z16 (LpL.cons z0y (LpL.cons z1h (LpL.cons z05 (LpL.cons z03 (LpL.cons z34 (LpL.cons z09 (LpL.cons z4c (LpL.cons z4e (LpL.cons z0m (LpL.cons z4w (LpL.nil)))))))))))))
noncomputable def z7c : List PT → Option (Bool × AV × List Blk)
  | [.ptr [.row 1 q00 (.fl .f32 q03), .row 1 q02 (.fl .f32 q05), .row 1 q01 (.fl .f32 q04), .row 3 q06 (.fl .f32 q08), .s (.int .i64 q0d), .s (.flt .f32 q0g), .s (.flt .f32 q0f)], .one (.s (.int .i64 i)), .one (.s (.flt .f32 q10)), .one (.s (.flt .f32 q0q)), .one (.s (.flt .f32 q0h))] => some ((zkl q00 q03 q02 q05 q01 q04 q06 q08 q0d q0g q0f i q10 q0q q0h), ((AV.v (TV.one (At.bool (zk5 q00 q03 q02 q05 q01 q04 q06 q08 q0d q0g q0f i q10 q0q q0h)))), []))
  | _ => none
def zq8 (q00 : Nat) (q03 : List Nat) (q02 : Nat) (q05 : List Nat) (q01 : Nat) (q04 : List Nat) (q06 : Nat) (q08 : List Nat) (q0d : Int) (q0g : Nat) (q0f : Nat) (i : Int) (q10 : Nat) (q0q : Nat) (q0h : Nat) : Option (Bool) → Option (AV × List Blk)
  | some r => some ((AV.v (TV.one (At.bool r))), [])
  | none => none
theorem zv5 (q00 : Nat) (q03 : List Nat) (q02 : Nat) (q05 : List Nat) (q01 : Nat) (q04 : List Nat) (q06 : Nat) (q08 : List Nat) (q0d : Int) (q0g : Nat) (q0f : Nat) (i : Int) (q10 : Nat) (q0q : Nat) (q0h : Nat) : evFn Γ9 8 8 130 (impTs 0 [.ptr [.row 1 q00 (.fl .f32 q03), .row 1 q02 (.fl .f32 q05), .row 1 q01 (.fl .f32 q04), .row 3 q06 (.fl .f32 q08), .s (.int .i64 q0d), .s (.flt .f32 q0g), .s (.flt .f32 q0f)], .one (.s (.int .i64 i)), .one (.s (.flt .f32 q10)), .one (.s (.flt .f32 q0q)), .one (.s (.flt .f32 q0h))]).1 (impTs 0 [.ptr [.row 1 q00 (.fl .f32 q03), .row 1 q02 (.fl .f32 q05), .row 1 q01 (.fl .f32 q04), .row 3 q06 (.fl .f32 q08), .s (.int .i64 q0d), .s (.flt .f32 q0g), .s (.flt .f32 q0f)], .one (.s (.int .i64 i)), .one (.s (.flt .f32 q10)), .one (.s (.flt .f32 q0q)), .one (.s (.flt .f32 q0h))]).2 (expo (impTs 0 [.ptr [.row 1 q00 (.fl .f32 q03), .row 1 q02 (.fl .f32 q05), .row 1 q01 (.fl .f32 q04), .row 3 q06 (.fl .f32 q08), .s (.int .i64 q0d), .s (.flt .f32 q0g), .s (.flt .f32 q0f)], .one (.s (.int .i64 i)), .one (.s (.flt .f32 q10)), .one (.s (.flt .f32 q0q)), .one (.s (.flt .f32 q0h))]).2.length) = zf9 q00 q03 q02 q05 q01 q04 q06 q08 q0d q0g q0f i q10 q0q q0h (fun c0_ => some ((AV.v (TV.one (At.bool c0_))), [])) := by kernel_rfl
theorem z6y : SumOne Try.prog 130 z7c := sum_of (Γ := Γ9) (fuel := 8) (d := 8) tyTab_ok (FnL.ok fnTab_ok _ _) (LpL.ok lt9_ok) (SumL.ok tb9_ok _) mixed (by
  intro pts v news hp hc
  clear hc
  unfold z7c at hp
  split at hp
  · rename_i q00 q03 q02 q05 q01 q04 q06 q08 q0d q0g q0f i q10 q0q q0h
    exact Eq.trans (Eq.trans (zv5 q00 q03 q02 q05 q01 q04 q06 q08 q0d q0g q0f i q10 q0q q0h) (zsi (zq8 q00 q03 q02 q05 q01 q04 q06 q08 q0d q0g q0f i q10 q0q q0h) rfl q00 q03 q02 q05 q01 q04 q06 q08 q0d q0g q0f i q10 q0q q0h (fun c0_ => some c0_))) (fin_out (o := (zq8 q00 q03 q02 q05 q01 q04 q06 q08 q0d q0g q0f i q10 q0q q0h)) (x := zfd q00 q03 q02 q05 q01 q04 q06 q08 q0d q0g q0f i q10 q0q q0h) (d := default) (V := fun r => ((AV.v (TV.one (At.bool r))), [])) (fun r => rfl) hp)
  · cases hp)
noncomputable def z3g : List PT → Option (Bool × AV × List Blk)
  | [.agg [.row 1 q07 (.fl .f32 q0c), .row 1 q0o (.fl .f32 q0w), .row 1 q0p (.fl .f32 q0v)], .one (.s (.flt .f32 x1))] => some ((zcp q07 q0c q0o q0w q0p q0v x1), ((AV.tup [(TV.one (At.int IntKind.i64 (z68 q07 q0c q0o q0w q0p q0v x1))), (TV.one (At.int IntKind.i64 (z69 q07 q0c q0o q0w q0p q0v x1))), (TV.one (At.flt FloatKind.f32 (z70 q07 q0c q0o q0w q0p q0v x1))), (TV.one (At.flt FloatKind.f32 (z8e q07 q0c q0o q0w q0p q0v x1))), (TV.one (At.flt FloatKind.f32 (z9k q07 q0c q0o q0w q0p q0v x1)))]), []))
  | _ => none
def zkh (q07 : Nat) (q0c : List Nat) (q0o : Nat) (q0w : List Nat) (q0p : Nat) (q0v : List Nat) (x1 : Nat) : Option (Int × Int × Nat × Nat × Nat) → Option (AV × List Blk)
  | some r => some ((AV.tup [(TV.one (At.int IntKind.i64 r.1)), (TV.one (At.int IntKind.i64 r.2.1)), (TV.one (At.flt FloatKind.f32 r.2.2.1)), (TV.one (At.flt FloatKind.f32 r.2.2.2.1)), (TV.one (At.flt FloatKind.f32 r.2.2.2.2))]), [])
  | none => none
theorem znp (q07 : Nat) (q0c : List Nat) (q0o : Nat) (q0w : List Nat) (q0p : Nat) (q0v : List Nat) (x1 : Nat) : evFn Γ9 8 8 146 (impTs 0 [.agg [.row 1 q07 (.fl .f32 q0c), .row 1 q0o (.fl .f32 q0w), .row 1 q0p (.fl .f32 q0v)], .one (.s (.flt .f32 x1))]).1 (impTs 0 [.agg [.row 1 q07 (.fl .f32 q0c), .row 1 q0o (.fl .f32 q0w), .row 1 q0p (.fl .f32 q0v)], .one (.s (.flt .f32 x1))]).2 (expo (impTs 0 [.agg [.row 1 q07 (.fl .f32 q0c), .row 1 q0o (.fl .f32 q0w), .row 1 q0p (.fl .f32 q0v)], .one (.s (.flt .f32 x1))]).2.length) = z82 q07 q0c q0o q0w q0p q0v x1 (fun c0_ c1_ c2_ c3_ c4_ => some ((AV.tup [(TV.one (At.int IntKind.i64 c0_)), (TV.one (At.int IntKind.i64 c1_)), (TV.one (At.flt FloatKind.f32 c2_)), (TV.one (At.flt FloatKind.f32 c3_)), (TV.one (At.flt FloatKind.f32 c4_))]), [])) := by kernel_rfl
theorem z3j : SumOne Try.prog 146 z3g := sum_of (Γ := Γ9) (fuel := 8) (d := 8) tyTab_ok (FnL.ok fnTab_ok _ _) (LpL.ok lt9_ok) (SumL.ok tb9_ok _) mixed (by
  intro pts v news hp hc
  clear hc
  unfold z3g at hp
  split at hp
  · rename_i q07 q0c q0o q0w q0p q0v x1
    exact Eq.trans (Eq.trans (znp q07 q0c q0o q0w q0p q0v x1) (zlr (zkh q07 q0c q0o q0w q0p q0v x1) rfl q07 q0c q0o q0w q0p q0v x1 (fun c0_ c1_ c2_ c3_ c4_ => some (c0_, c1_, c2_, c3_, c4_)))) (fin_out (o := (zkh q07 q0c q0o q0w q0p q0v x1)) (x := z5h q07 q0c q0o q0w q0p q0v x1) (d := default) (V := fun r => ((AV.tup [(TV.one (At.int IntKind.i64 r.1)), (TV.one (At.int IntKind.i64 r.2.1)), (TV.one (At.flt FloatKind.f32 r.2.2.1)), (TV.one (At.flt FloatKind.f32 r.2.2.2.1)), (TV.one (At.flt FloatKind.f32 r.2.2.2.2))]), [])) (fun r => rfl) hp)
  · cases hp)
noncomputable def z6v : List PT → Option (Bool × AV × List Blk)
  | [.ptr [.row 1 q07 (.fl .f32 q0c), .row 1 q0o (.fl .f32 q0w), .row 1 q0p (.fl .f32 q0v)], .one (.s (.flt .f32 x1))] => some ((zk1 q07 q0c q0o q0w q0p q0v x1), ((AV.tup [(TV.one (At.int IntKind.i64 (zaw q07 q0c q0o q0w q0p q0v x1))), (TV.one (At.int IntKind.i64 (zfl q07 q0c q0o q0w q0p q0v x1))), (TV.one (At.flt FloatKind.f32 (zj8 q07 q0c q0o q0w q0p q0v x1))), (TV.one (At.flt FloatKind.f32 (zl1 q07 q0c q0o q0w q0p q0v x1)))]), []))
  | _ => none
def zot (q07 : Nat) (q0c : List Nat) (q0o : Nat) (q0w : List Nat) (q0p : Nat) (q0v : List Nat) (x1 : Nat) : Option (Int × Int × Nat × Nat) → Option (AV × List Blk)
  | some r => some ((AV.tup [(TV.one (At.int IntKind.i64 r.1)), (TV.one (At.int IntKind.i64 r.2.1)), (TV.one (At.flt FloatKind.f32 r.2.2.1)), (TV.one (At.flt FloatKind.f32 r.2.2.2))]), [])
  | none => none
theorem zud (q07 : Nat) (q0c : List Nat) (q0o : Nat) (q0w : List Nat) (q0p : Nat) (q0v : List Nat) (x1 : Nat) : evFn Γ9 8 8 193 (impTs 0 [.ptr [.row 1 q07 (.fl .f32 q0c), .row 1 q0o (.fl .f32 q0w), .row 1 q0p (.fl .f32 q0v)], .one (.s (.flt .f32 x1))]).1 (impTs 0 [.ptr [.row 1 q07 (.fl .f32 q0c), .row 1 q0o (.fl .f32 q0w), .row 1 q0p (.fl .f32 q0v)], .one (.s (.flt .f32 x1))]).2 (expo (impTs 0 [.ptr [.row 1 q07 (.fl .f32 q0c), .row 1 q0o (.fl .f32 q0w), .row 1 q0p (.fl .f32 q0v)], .one (.s (.flt .f32 x1))]).2.length) = zcd q07 q0c q0o q0w q0p q0v x1 (fun c0_ c1_ c2_ c3_ => some ((AV.tup [(TV.one (At.int IntKind.i64 c0_)), (TV.one (At.int IntKind.i64 c1_)), (TV.one (At.flt FloatKind.f32 c2_)), (TV.one (At.flt FloatKind.f32 c3_))]), [])) := by kernel_rfl
theorem z6j : SumOne Try.prog 193 z6v := sum_of (Γ := Γ9) (fuel := 8) (d := 8) tyTab_ok (FnL.ok fnTab_ok _ _) (LpL.ok lt9_ok) (SumL.ok tb9_ok _) mixed (by
  intro pts v news hp hc
  clear hc
  unfold z6v at hp
  split at hp
  · rename_i q07 q0c q0o q0w q0p q0v x1
    exact Eq.trans (Eq.trans (zud q07 q0c q0o q0w q0p q0v x1) (zrg (zot q07 q0c q0o q0w q0p q0v x1) rfl q07 q0c q0o q0w q0p q0v x1 (fun c0_ c1_ c2_ c3_ => some (c0_, c1_, c2_, c3_)))) (fin_out (o := (zot q07 q0c q0o q0w q0p q0v x1)) (x := z8m q07 q0c q0o q0w q0p q0v x1) (d := default) (V := fun r => ((AV.tup [(TV.one (At.int IntKind.i64 r.1)), (TV.one (At.int IntKind.i64 r.2.1)), (TV.one (At.flt FloatKind.f32 r.2.2.1)), (TV.one (At.flt FloatKind.f32 r.2.2.2))]), [])) (fun r => rfl) hp)
  · cases hp)
noncomputable def z3e : Nat → St → Option (Bool × LO)
  | 3, (St.mk [(1, (AV.v (TV.one (At.ptr 3 0 3)))), (42, (AV.v (TV.one (At.vw 0 0 q2r 1)))), (43, (AV.v (TV.one (At.int IntKind.i64 t43)))), (44, (AV.v (TV.one (At.int IntKind.i64 t44))))] [(Blk.mk Bool.false (Body.fl FloatKind.f32 b0)), (Blk.mk Bool.false (Body.fl FloatKind.f32 b1)), (Blk.mk Bool.false (Body.fl FloatKind.f32 b2)), (Blk.mk Bool.true (Body.cells [(At.vw 0 0 q1l 1), (At.vw 1 0 q25 1), (At.vw 2 0 q24 1)]))]) => some ((z85 q2r t43 b0 q1l t44), (LO.two (z7s q2r t43 b0 q1l t44) (LO.one Ex.ret (St.mk [(2, (AV.v (TV.one (At.bool Bool.false))))] [(Blk.mk Bool.false (Body.fl FloatKind.f32 b0)), (Blk.mk Bool.false (Body.fl FloatKind.f32 b1)), (Blk.mk Bool.false (Body.fl FloatKind.f32 b2))])) (LO.one (Ex.exit 0) (St.mk [(1, (AV.v (TV.one (At.ptr 3 0 3)))), (42, (AV.v (TV.one (At.vw 0 0 q2r 1)))), (43, (AV.v (TV.one (At.int IntKind.i64 t43)))), (44, (AV.v (TV.one (At.int IntKind.i64 (zdk q2r t43 b0 q1l t44))))), (45, (AV.v (TV.one (At.bool (zdd q2r t43 b0 q1l t44)))))] [(Blk.mk Bool.false (Body.fl FloatKind.f32 b0)), (Blk.mk Bool.false (Body.fl FloatKind.f32 b1)), (Blk.mk Bool.false (Body.fl FloatKind.f32 b2)), (Blk.mk Bool.true (Body.cells [(At.vw 0 0 q1l 1), (At.vw 1 0 q25 1), (At.vw 2 0 q24 1)]))]))))
  | _, _ => none
def z9z (q2r : Nat) (t43 : Int) (b0 : List Nat) (b1 : List Nat) (b2 : List Nat) (q1l : Nat) (q25 : Nat) (q24 : Nat) : Option ((Unit) ⊕ (Int × Bool)) → Option (Ex × St)
  | none => none
  | some (Sum.inl r) => some (Ex.ret, (St.mk [(2, (AV.v (TV.one (At.bool Bool.false))))] [(Blk.mk Bool.false (Body.fl FloatKind.f32 b0)), (Blk.mk Bool.false (Body.fl FloatKind.f32 b1)), (Blk.mk Bool.false (Body.fl FloatKind.f32 b2))]))
  | some (Sum.inr r) => some ((Ex.exit 0), (St.mk [(1, (AV.v (TV.one (At.ptr 3 0 3)))), (42, (AV.v (TV.one (At.vw 0 0 q2r 1)))), (43, (AV.v (TV.one (At.int IntKind.i64 t43)))), (44, (AV.v (TV.one (At.int IntKind.i64 r.1)))), (45, (AV.v (TV.one (At.bool r.2))))] [(Blk.mk Bool.false (Body.fl FloatKind.f32 b0)), (Blk.mk Bool.false (Body.fl FloatKind.f32 b1)), (Blk.mk Bool.false (Body.fl FloatKind.f32 b2)), (Blk.mk Bool.true (Body.cells [(At.vw 0 0 q1l 1), (At.vw 1 0 q25 1), (At.vw 2 0 q24 1)]))]))
def zn7 (q2r : Nat) (t43 : Int) (b0 : List Nat) (b1 : List Nat) (b2 : List Nat) (q1l : Nat) (q25 : Nat) (q24 : Nat) (x : Option ((Unit) ⊕ (Int × Bool))) : LO := (LO.two (oL x) (LO.one Ex.ret (St.mk [(2, (AV.v (TV.one (At.bool Bool.false))))] [(Blk.mk Bool.false (Body.fl FloatKind.f32 b0)), (Blk.mk Bool.false (Body.fl FloatKind.f32 b1)), (Blk.mk Bool.false (Body.fl FloatKind.f32 b2))])) (LO.one (Ex.exit 0) (St.mk [(1, (AV.v (TV.one (At.ptr 3 0 3)))), (42, (AV.v (TV.one (At.vw 0 0 q2r 1)))), (43, (AV.v (TV.one (At.int IntKind.i64 t43)))), (44, (AV.v (TV.one (At.int IntKind.i64 ((tR x).getD default).1)))), (45, (AV.v (TV.one (At.bool ((tR x).getD default).2))))] [(Blk.mk Bool.false (Body.fl FloatKind.f32 b0)), (Blk.mk Bool.false (Body.fl FloatKind.f32 b1)), (Blk.mk Bool.false (Body.fl FloatKind.f32 b2)), (Blk.mk Bool.true (Body.cells [(At.vw 0 0 q1l 1), (At.vw 1 0 q25 1), (At.vw 2 0 q24 1)]))])))
theorem znh (q2r : Nat) (t43 : Int) (b0 : List Nat) (b1 : List Nat) (b2 : List Nat) (q1l : Nat) (q25 : Nat) (q24 : Nat) : ∀ x : Option ((Unit) ⊕ (Int × Bool)), x.isSome = true → (z9z q2r t43 b0 b1 b2 q1l q25 q24) x = some (pick (zn7 q2r t43 b0 b1 b2 q1l q25 q24 x))
  | none, h => by cases h
  | some (Sum.inl r), _ => rfl
  | some (Sum.inr r), _ => rfl
theorem znq (q2r : Nat) (t43 : Int) (t44 : Int) (b0 : List Nat) (b1 : List Nat) (b2 : List Nat) (q1l : Nat) (q25 : Nat) (q24 : Nat) (K : Ex → St → Option (Ex × St)) : evC (R := Ex × St) Γ9 (evFn Γ9 8 8) 57 3 fi57.nt fi57.live fi57.nl 8 (findL 5 (loopsIn fi57.code)) (St.mk [(1, (AV.v (TV.one (At.ptr 3 0 3)))), (42, (AV.v (TV.one (At.vw 0 0 q2r 1)))), (43, (AV.v (TV.one (At.int IntKind.i64 t43)))), (44, (AV.v (TV.one (At.int IntKind.i64 t44))))] [(Blk.mk Bool.false (Body.fl FloatKind.f32 b0)), (Blk.mk Bool.false (Body.fl FloatKind.f32 b1)), (Blk.mk Bool.false (Body.fl FloatKind.f32 b2)), (Blk.mk Bool.true (Body.cells [(At.vw 0 0 q1l 1), (At.vw 1 0 q25 1), (At.vw 2 0 q24 1)]))]) K = z6o q2r t43 b0 q1l t44 (fun t44' => K .normal (St.mk [(1, (AV.v (TV.one (At.ptr 3 0 3)))), (42, (AV.v (TV.one (At.vw 0 0 q2r 1)))), (43, (AV.v (TV.one (At.int IntKind.i64 t43)))), (44, (AV.v (TV.one (At.int IntKind.i64 t44'))))] [(Blk.mk Bool.false (Body.fl FloatKind.f32 b0)), (Blk.mk Bool.false (Body.fl FloatKind.f32 b1)), (Blk.mk Bool.false (Body.fl FloatKind.f32 b2)), (Blk.mk Bool.true (Body.cells [(At.vw 0 0 q1l 1), (At.vw 1 0 q25 1), (At.vw 2 0 q24 1)]))])) (fun _ => K Ex.ret (St.mk [(2, (AV.v (TV.one (At.bool Bool.false))))] [(Blk.mk Bool.false (Body.fl FloatKind.f32 b0)), (Blk.mk Bool.false (Body.fl FloatKind.f32 b1)), (Blk.mk Bool.false (Body.fl FloatKind.f32 b2))])) (fun c0_ c1_ => K (Ex.exit 0) (St.mk [(1, (AV.v (TV.one (At.ptr 3 0 3)))), (42, (AV.v (TV.one (At.vw 0 0 q2r 1)))), (43, (AV.v (TV.one (At.int IntKind.i64 t43)))), (44, (AV.v (TV.one (At.int IntKind.i64 c0_)))), (45, (AV.v (TV.one (At.bool c1_))))] [(Blk.mk Bool.false (Body.fl FloatKind.f32 b0)), (Blk.mk Bool.false (Body.fl FloatKind.f32 b1)), (Blk.mk Bool.false (Body.fl FloatKind.f32 b2)), (Blk.mk Bool.true (Body.cells [(At.vw 0 0 q1l 1), (At.vw 1 0 q25 1), (At.vw 2 0 q24 1)]))])) := by kernel_rfl
theorem zni (q2r : Nat) (t43 : Int) (b0 : List Nat) (b1 : List Nat) (b2 : List Nat) (q1l : Nat) (q25 : Nat) (q24 : Nat) : ∀ (n : Nat) (t44 : Int), iter 57 5 3 (evC (R := Ex × St) Γ9 (evFn Γ9 8 8) 57 3 fi57.nt fi57.live fi57.nl 8 (findL 5 (loopsIn fi57.code))) n (St.mk [(1, (AV.v (TV.one (At.ptr 3 0 3)))), (42, (AV.v (TV.one (At.vw 0 0 q2r 1)))), (43, (AV.v (TV.one (At.int IntKind.i64 t43)))), (44, (AV.v (TV.one (At.int IntKind.i64 t44))))] [(Blk.mk Bool.false (Body.fl FloatKind.f32 b0)), (Blk.mk Bool.false (Body.fl FloatKind.f32 b1)), (Blk.mk Bool.false (Body.fl FloatKind.f32 b2)), (Blk.mk Bool.true (Body.cells [(At.vw 0 0 q1l 1), (At.vw 1 0 q25 1), (At.vw 2 0 q24 1)]))]) (fun e st => some (e, st)) = (z9z q2r t43 b0 b1 b2 q1l q25 q24) (z3x q2r t43 b0 q1l n t44) := by
  intro n
  induction n with
  | zero => intros; rfl
  | succ n ih =>
    intro t44
    refine Eq.trans (iter_succ ..) (Eq.trans (znq q2r t43 t44 b0 b1 b2 q1l q25 q24 (nextK 57 5 3 (evC (R := Ex × St) Γ9 (evFn Γ9 8 8) 57 3 fi57.nt fi57.live fi57.nl 8 (findL 5 (loopsIn fi57.code))) n (fun e st => some (e, st)))) (Eq.trans ?_ (zlp (z9z q2r t43 b0 b1 b2 q1l q25 q24) rfl q2r t43 b0 q1l t44 (fun t44' => z3x q2r t43 b0 q1l n t44') (fun _ => some (Sum.inl ())) (fun c0_ c1_ => some (Sum.inr (c0_, c1_))))))
    exact congrArg (fun kn_ => z6o q2r t43 b0 q1l t44 kn_ (fun _ => (z9z q2r t43 b0 b1 b2 q1l q25 q24) (some (Sum.inl ()))) (fun c0_ c1_ => (z9z q2r t43 b0 b1 b2 q1l q25 q24) (some (Sum.inr (c0_, c1_))))) (funext fun t44' => ih t44')
theorem z3i : LoopOne Try.prog fnTab 57 5 z3e := lp_of (Γ := Γ9) tyTab_ok (FnL.ok fnTab_ok _ _) (LpL.ok lt9_ok) (SumL.ok tb9_ok _) mixed (fi := fi57) (by kernel_rfl) (by kernel_rfl) (by
  intro lo st out hp
  unfold z3e at hp
  split at hp
  · rename_i q2r t43 t44 b0 b1 b2 q1l q25 q24
    injection hp with hp
    injection hp with h1 h2
    subst h2
    exact ⟨8, 8, big, Eq.trans (zni q2r t43 b0 b1 b2 q1l q25 q24 big t44) (znh q2r t43 b0 b1 b2 q1l q25 q24 (z3x q2r t43 b0 q1l big t44) h1)⟩
  · cases hp)
noncomputable def tb10 : List (Nat × (List PT → Option (Bool × AV × List Blk))) := [(156, z0s), (181, z1a), (182, z22), (189, z21), (26, z2r), (55, z29), (84, z0x), (89, z3u), (102, z63), (112, z1y), (115, z2a), (123, z2p), (126, z4h), (157, z62), (160, z1x), (162, z4j), (167, z28), (175, z3t), (176, z1o), (187, z2b), (74, z3m), (83, z0w), (85, z46), (90, z3l), (103, z47), (111, z2m), (116, z31), (138, z2z), (148, z1v), (150, z18), (169, z2l), (185, z30), (52, z3v), (154, z2k), (158, z5i), (166, z2j), (104, z2u), (119, z39), (120, z2t), (168, z2s), (188, z2g), (54, z4v), (121, z3n), (122, z36), (165, z4x), (178, z0b), (178, z07), (184, z65), (56, z5f), (170, z6c), (178, z0h), (105, z7a), (124, z4g), (147, z0d), (147, z0a), (147, z0g), (198, z5x), (77, z54), (88, z41), (97, z5r), (109, z53), (161, z73), (86, z3a), (113, z51), (130, z7c), (146, z3g), (193, z6v)]
noncomputable def lt10 : List ((Nat × Nat) × (Nat → St → Option (Bool × LO))) := [((166, 3), z15), ((120, 3), z1g), ((168, 4), z1e), ((188, 17), z10), ((122, 4), z1p), ((178, 2), z04), ((178, 2), z02), ((184, 5), z3r), ((178, 2), z06), ((105, 9), z5d), ((161, 6), z58), ((178, 2), z0i), ((193, 4), z55), ((57, 5), z3e)]
noncomputable def Γ10 : Ctx := ⟨tyTab, fnTab, tblSum tb10, tblLp lt10⟩
theorem tb10_ok : SumL Try.prog tb10 := SumL.cons z0r (SumL.cons z11 (SumL.cons z1i (SumL.cons z1j (SumL.cons z26 (SumL.cons z1u (SumL.cons z0t (SumL.cons z2x (SumL.cons z4q (SumL.cons z1c (SumL.cons z1s (SumL.cons z27 (SumL.cons z3h (SumL.cons z4r (SumL.cons z1f (SumL.cons z3f (SumL.cons z1t (SumL.cons z2y (SumL.cons z14 (SumL.cons z1r (SumL.cons z2v (SumL.cons z0v (SumL.cons z3b (SumL.cons z2w (SumL.cons z38 (SumL.cons z23 (SumL.cons z2f (SumL.cons z2i (SumL.cons z1b (SumL.cons z13 (SumL.cons z24 (SumL.cons z2h (SumL.cons z35 (SumL.cons z20 (SumL.cons z45 (SumL.cons z1z (SumL.cons z2d (SumL.cons z2n (SumL.cons z2e (SumL.cons z2c (SumL.cons z25 (SumL.cons z40 (SumL.cons z32 (SumL.cons z2q (SumL.cons z42 (SumL.cons z0e (SumL.cons z08 (SumL.cons z57 (SumL.cons z4d (SumL.cons z5s (SumL.cons z0l (SumL.cons z6g (SumL.cons z43 (SumL.cons z0j (SumL.cons z0f (SumL.cons z0k (SumL.cons z50 (SumL.cons z4s (SumL.cons z3p (SumL.cons z59 (SumL.cons z4t (SumL.cons z6d (SumL.cons z3c (SumL.cons z4u (SumL.cons z6y (SumL.cons z3j (SumL.cons z6j (SumL.nil)))))))))))))))))))))))))))))))))))))))))))))))))))))))))))))))))))
theorem lt10_ok : LpL Try.prog fnTab lt10 := LpL.cons z12 (LpL.cons z17 (LpL.cons z16 (LpL.cons z0y (LpL.cons z1h (LpL.cons z05 (LpL.cons z03 (LpL.cons z34 (LpL.cons z09 (LpL.cons z4c (LpL.cons z4e (LpL.cons z0m (LpL.cons z4w (LpL.cons z3i (LpL.nil))))))))))))))
noncomputable def z5b : List PT → Option (Bool × AV × List Blk)
  | [.agg [.row 1 q07 (.fl .f32 q0c), .row 1 q0o (.fl .f32 q0w), .row 1 q0p (.fl .f32 q0v)]] => some ((zek q07 q0c q0o q0w q0p q0v), ((AV.v (TV.one (At.bool (zdh q07 q0c q0o q0w q0p q0v)))), []))
  | _ => none
def zlf (q07 : Nat) (q0c : List Nat) (q0o : Nat) (q0w : List Nat) (q0p : Nat) (q0v : List Nat) : Option (Bool) → Option (AV × List Blk)
  | some r => some ((AV.v (TV.one (At.bool r))), [])
  | none => none
end Go.Proofs.Ytdhmognknjpemaa
