/-
  What functions answer: that the evaluator answers so. Printed by a program.
-/
import Derived.Test.YtdhmognknjpemaaBalanceOfC
set_option linter.unusedVariables false
set_option linter.unusedSimpArgs false
set_option maxRecDepth 100000
set_option maxHeartbeats 4000000
namespace Go.Proofs.Ytdhmognknjpemaa
open Go Go.Rf
def z0s : List PT → Option (Bool × AV × List Blk)
  | [.one (.s (.int .u64 x))] => some (okU .f64 x, A1 (.flt .f64 (cnI .f64 x)), [])
  | _ => none
theorem z0r : SumOne Try.prog 156 z0s := by
  intro pts v news hp w vals hv
  unfold z0s at hp
  split at hp
  · rename_i x
    injection hp with hp
    injection hp with h1 hp
    injection hp with h2 h3
    subst h2
    subst h3
    obtain ⟨l, hl⟩ : ∃ l, l = vals.toList := ⟨_, rfl⟩
    rw [← hl] at hv
    cases hv with
    | cons a1 a2 =>
      cases a2
      have hb1 : _ = Value.int .u64 x := a1
      subst hb1
      rename_i hx
      have hvals : vals = #[.int .u64 x] := by rw [← Array.toList_inj, ← hl]
      subst hvals
      have hw := okU_lt h1
      refine .inl ⟨_, w, by (simp only [callFunc, Sem.run_bind, run_program, Result.andThen_ok, Try.func156]; rfl), NoB, ⟨⟨(fun t b' h => by cases t <;> cases h), (fun t t' b1 b2 x x' _ h => by cases t <;> cases h)⟩, (fun t x h => by cases h), Fr.refl _ w⟩, ⟨_, rfl, hw, rfl⟩⟩
  · cases hp
def z19 : List PT → Option (Bool × AV × List Blk)
  | [.one (.s (.flt .f64 x))] => some (bnot (nanQ .f64 x), A1 (.int .u64 x), [])
  | _ => none
theorem z13 : SumOne Try.prog 181 z19 := by
  intro pts v news hp w vals hv
  unfold z19 at hp
  split at hp
  · rename_i x
    injection hp with hp
    injection hp with h1 hp
    injection hp with h2 h3
    subst h2
    subst h3
    obtain ⟨l, hl⟩ : ∃ l, l = vals.toList := ⟨_, rfl⟩
    rw [← hl] at hv
    cases hv with
    | cons a1 a2 =>
      cases a2
      obtain ⟨b, hb1, hb2, hb3⟩ := a1
      subst hb1
      rename_i hx
      have hvals : vals = #[.float .f64 b] := by rw [← Array.toList_inj, ← hl]
      subst hvals
      have hn : nanB .f64 b = false := by rw [← nanB_cn, hb3]; simpa [bnot, nanQ] using h1
      rw [cn_of_not hn] at hb3
      subst hb3
      refine .inl ⟨_, w, by (simp only [callFunc, Sem.run_bind, run_program, Result.andThen_ok, Try.func181]; rfl), NoB, ⟨⟨(fun t b' h => by cases t <;> cases h), (fun t t' b1 b2 x x' _ h => by cases t <;> cases h)⟩, (fun t x h => by cases h), Fr.refl _ w⟩, rfl⟩
  · cases hp
def z21 : List PT → Option (Bool × AV × List Blk)
  | [.one (.s (.flt .f64 x))] => some (bnot (nanQ .f64 x), A1 (.flt .f64 (fint .zero x)), [])
  | _ => none
theorem z1j : SumOne Try.prog 182 z21 := by
  intro pts v news hp w vals hv
  unfold z21 at hp
  split at hp
  · rename_i x
    injection hp with hp
    injection hp with h1 hp
    injection hp with h2 h3
    subst h2
    subst h3
    obtain ⟨l, hl⟩ : ∃ l, l = vals.toList := ⟨_, rfl⟩
    rw [← hl] at hv
    cases hv with
    | cons a1 a2 =>
      cases a2
      obtain ⟨b, hb1, hb2, hb3⟩ := a1
      subst hb1
      rename_i hx
      have hvals : vals = #[.float .f64 b] := by rw [← Array.toList_inj, ← hl]
      subst hvals
      have hn : nanB .f64 b = false := by rw [← nanB_cn, hb3]; simpa [bnot, nanQ] using h1
      rw [cn_of_not hn] at hb3
      subst hb3
      refine .inl ⟨_, w, by (simp only [callFunc, Sem.run_bind, run_program, Result.andThen_ok, Try.func182]; change (do let v ← Extern.MathFloor.toIntegral "math.archTrunc" .zero #[.float .f64 b]; pure (.value v) : Sem Next).run Try.prog w = _; rw [Sem.run_bind, run_fint hn]; rfl), NoB, ⟨⟨(fun t b' h => by cases t <;> cases h), (fun t t' b1 b2 x x' _ h => by cases t <;> cases h)⟩, (fun t x h => by cases h), Fr.refl _ w⟩, fint_rel hn⟩
  · cases hp
def z20 : List PT → Option (Bool × AV × List Blk)
  | [.one (.s (.flt .f64 x))] => some (bnot (nanQ .f64 x), A1 (.flt .f64 (fint .down x)), [])
  | _ => none
theorem z1i : SumOne Try.prog 189 z20 := by
  intro pts v news hp w vals hv
  unfold z20 at hp
  split at hp
  · rename_i x
    injection hp with hp
    injection hp with h1 hp
    injection hp with h2 h3
    subst h2
    subst h3
    obtain ⟨l, hl⟩ : ∃ l, l = vals.toList := ⟨_, rfl⟩
    rw [← hl] at hv
    cases hv with
    | cons a1 a2 =>
      cases a2
      obtain ⟨b, hb1, hb2, hb3⟩ := a1
      subst hb1
      rename_i hx
      have hvals : vals = #[.float .f64 b] := by rw [← Array.toList_inj, ← hl]
      subst hvals
      have hn : nanB .f64 b = false := by rw [← nanB_cn, hb3]; simpa [bnot, nanQ] using h1
      rw [cn_of_not hn] at hb3
      subst hb3
      refine .inl ⟨_, w, by (simp only [callFunc, Sem.run_bind, run_program, Result.andThen_ok, Try.func189]; change (do let v ← Extern.MathFloor.toIntegral "math.archFloor" .down #[.float .f64 b]; pure (.value v) : Sem Next).run Try.prog w = _; rw [Sem.run_bind, run_fint hn]; rfl), NoB, ⟨⟨(fun t b' h => by cases t <;> cases h), (fun t t' b1 b2 x x' _ h => by cases t <;> cases h)⟩, (fun t x h => by cases h), Fr.refl _ w⟩, fint_rel hn⟩
  · cases hp
noncomputable def tb0 : List (Nat × (List PT → Option (Bool × AV × List Blk))) := [(156, z0s), (181, z19), (182, z21), (189, z20)]
noncomputable def lt0 : List ((Nat × Nat) × (Nat → St → Option (Bool × LO))) := []
noncomputable def Γ0 : Ctx := ⟨tyTab, fnTab, tblSum tb0, tblLp lt0⟩
theorem tb0_ok : SumL Try.prog tb0 := SumL.cons z0r (SumL.cons z13 (SumL.cons z1j (SumL.cons z1i (SumL.nil))))
theorem lt0_ok : LpL Try.prog fnTab lt0 := LpL.nil
noncomputable def z2s : List PT → Option (Bool × AV × List Blk)
  | [.one (.s (.flt .f32 x))] => some ((z6z x), ((AV.v (TV.one (At.bool (z6j x)))), []))
  | _ => none
def zmq (x : Nat) : Option (Bool) → Option (AV × List Blk)
  | some r => some ((AV.v (TV.one (At.bool r))), [])
  | none => none
theorem zss (x : Nat) : evFn Γ0 8 8 26 (impTs 0 [.one (.s (.flt .f32 x))]).1 (impTs 0 [.one (.s (.flt .f32 x))]).2 (expo (impTs 0 [.one (.s (.flt .f32 x))]).2.length) = zft x (fun c0_ => some ((AV.v (TV.one (At.bool c0_))), [])) := by kernel_rfl
theorem z27 : SumOne Try.prog 26 z2s := sum_of (Γ := Γ0) (fuel := 8) (d := 8) tyTab_ok (FnL.ok fnTab_ok _ _) (LpL.ok lt0_ok) (SumL.ok tb0_ok _) mixed (by
  intro pts v news hp hc
  clear hc
  unfold z2s at hp
  split at hp
  · rename_i x
    exact Eq.trans (Eq.trans (zss x) (zpp (zmq x) rfl x (fun c0_ => some c0_))) (fin_out (o := (zmq x)) (x := zfc x) (d := default) (V := fun r => ((AV.v (TV.one (At.bool r))), [])) (fun r => rfl) hp)
  · cases hp)
noncomputable def z2b : List PT → Option (Bool × AV × List Blk)
  | [.one (.s (.flt .f64 a)), .one (.s (.flt .f64 b))] => some ((z88 a b), ((AV.v (TV.one (At.bool (z7t a b)))), []))
  | _ => none
def zm8 (a : Nat) (b : Nat) : Option (Bool) → Option (AV × List Blk)
  | some r => some ((AV.v (TV.one (At.bool r))), [])
  | none => none
theorem zsi (a : Nat) (b : Nat) : evFn Γ0 8 8 55 (impTs 0 [.one (.s (.flt .f64 a)), .one (.s (.flt .f64 b))]).1 (impTs 0 [.one (.s (.flt .f64 a)), .one (.s (.flt .f64 b))]).2 (expo (impTs 0 [.one (.s (.flt .f64 a)), .one (.s (.flt .f64 b))]).2.length) = zce a b (fun c0_ => some ((AV.v (TV.one (At.bool c0_))), [])) := by kernel_rfl
theorem z1r : SumOne Try.prog 55 z2b := sum_of (Γ := Γ0) (fuel := 8) (d := 8) tyTab_ok (FnL.ok fnTab_ok _ _) (LpL.ok lt0_ok) (SumL.ok tb0_ok _) mixed (by
  intro pts v news hp hc
  clear hc
  unfold z2b at hp
  split at hp
  · rename_i a b
    exact Eq.trans (Eq.trans (zsi a b) (zow (zm8 a b) rfl a b (fun c0_ => some c0_))) (fin_out (o := (zm8 a b)) (x := zbs a b) (d := default) (V := fun r => ((AV.v (TV.one (At.bool r))), [])) (fun r => rfl) hp)
  · cases hp)
noncomputable def z0x : List PT → Option (Bool × AV × List Blk)
  | [.agg [.row 1 q00 (.fl .f32 q03), .row 1 q02 (.fl .f32 q05), .row 1 q01 (.fl .f32 q04), .row 3 q06 (.fl .f32 q09), .s (.int .i64 q0e), .s (.flt .f32 q0h), .s (.flt .f32 q0g)], .one (.s (.int .i64 i))] => some ((zct q00 q03 q02 q05 q01 q04 q06 q09 q0e q0h q0g i), ((AV.v (TV.one (At.flt FloatKind.f32 (za3 q00 q03 q02 q05 q01 q04 q06 q09 q0e q0h q0g i)))), []))
  | _ => none
def zk9 (q00 : Nat) (q03 : List Nat) (q02 : Nat) (q05 : List Nat) (q01 : Nat) (q04 : List Nat) (q06 : Nat) (q09 : List Nat) (q0e : Int) (q0h : Nat) (q0g : Nat) (i : Int) : Option (Nat) → Option (AV × List Blk)
  | some r => some ((AV.v (TV.one (At.flt FloatKind.f32 r))), [])
  | none => none
theorem znx (q00 : Nat) (q03 : List Nat) (q02 : Nat) (q05 : List Nat) (q01 : Nat) (q04 : List Nat) (q06 : Nat) (q09 : List Nat) (q0e : Int) (q0h : Nat) (q0g : Nat) (i : Int) : evFn Γ0 8 8 84 (impTs 0 [.agg [.row 1 q00 (.fl .f32 q03), .row 1 q02 (.fl .f32 q05), .row 1 q01 (.fl .f32 q04), .row 3 q06 (.fl .f32 q09), .s (.int .i64 q0e), .s (.flt .f32 q0h), .s (.flt .f32 q0g)], .one (.s (.int .i64 i))]).1 (impTs 0 [.agg [.row 1 q00 (.fl .f32 q03), .row 1 q02 (.fl .f32 q05), .row 1 q01 (.fl .f32 q04), .row 3 q06 (.fl .f32 q09), .s (.int .i64 q0e), .s (.flt .f32 q0h), .s (.flt .f32 q0g)], .one (.s (.int .i64 i))]).2 (expo (impTs 0 [.agg [.row 1 q00 (.fl .f32 q03), .row 1 q02 (.fl .f32 q05), .row 1 q01 (.fl .f32 q04), .row 3 q06 (.fl .f32 q09), .s (.int .i64 q0e), .s (.flt .f32 q0h), .s (.flt .f32 q0g)], .one (.s (.int .i64 i))]).2.length) = z91 q00 q03 q02 q05 q01 q04 q06 q09 q0e q0h q0g i (fun c0_ => some ((AV.v (TV.one (At.flt FloatKind.f32 c0_))), [])) := by kernel_rfl
theorem z0t : SumOne Try.prog 84 z0x := sum_of (Γ := Γ0) (fuel := 8) (d := 8) tyTab_ok (FnL.ok fnTab_ok _ _) (LpL.ok lt0_ok) (SumL.ok tb0_ok _) mixed (by
  intro pts v news hp hc
  clear hc
  unfold z0x at hp
  split at hp
  · rename_i q00 q03 q02 q05 q01 q04 q06 q09 q0e q0h q0g i
    exact Eq.trans (Eq.trans (znx q00 q03 q02 q05 q01 q04 q06 q09 q0e q0h q0g i) (zli (zk9 q00 q03 q02 q05 q01 q04 q06 q09 q0e q0h q0g i) rfl q00 q03 q02 q05 q01 q04 q06 q09 q0e q0h q0g i (fun c0_ => some c0_))) (fin_out (o := (zk9 q00 q03 q02 q05 q01 q04 q06 q09 q0e q0h q0g i)) (x := z94 q00 q03 q02 q05 q01 q04 q06 q09 q0e q0h q0g i) (d := default) (V := fun r => ((AV.v (TV.one (At.flt FloatKind.f32 r))), [])) (fun r => rfl) hp)
  · cases hp)
noncomputable def z3w : List PT → Option (Bool × AV × List Blk)
  | [.one (.s (.int .i64 n_)), .one (.s (.int .i64 low)), .one (.s (.int .i64 q2g))] => some ((zif n_ low q2g), ((AV.v (TV.one (At.bool (zhe n_ low q2g)))), []))
  | _ => none
def zpd (n_ : Int) (low : Int) (q2g : Int) : Option (Bool) → Option (AV × List Blk)
  | some r => some ((AV.v (TV.one (At.bool r))), [])
  | none => none
theorem ztz (n_ : Int) (low : Int) (q2g : Int) : evFn Γ0 8 8 89 (impTs 0 [.one (.s (.int .i64 n_)), .one (.s (.int .i64 low)), .one (.s (.int .i64 q2g))]).1 (impTs 0 [.one (.s (.int .i64 n_)), .one (.s (.int .i64 low)), .one (.s (.int .i64 q2g))]).2 (expo (impTs 0 [.one (.s (.int .i64 n_)), .one (.s (.int .i64 low)), .one (.s (.int .i64 q2g))]).2.length) = zf8 n_ low q2g (fun c0_ => some ((AV.v (TV.one (At.bool c0_))), [])) := by kernel_rfl
theorem z30 : SumOne Try.prog 89 z3w := sum_of (Γ := Γ0) (fuel := 8) (d := 8) tyTab_ok (FnL.ok fnTab_ok _ _) (LpL.ok lt0_ok) (SumL.ok tb0_ok _) mixed (by
  intro pts v news hp hc
  clear hc
  unfold z3w at hp
  split at hp
  · rename_i n_ low q2g
    exact Eq.trans (Eq.trans (ztz n_ low q2g) (zr7 (zpd n_ low q2g) rfl n_ low q2g (fun c0_ => some c0_))) (fin_out (o := (zpd n_ low q2g)) (x := zf7 n_ low q2g) (d := default) (V := fun r => ((AV.v (TV.one (At.bool r))), [])) (fun r => rfl) hp)
  · cases hp)
noncomputable def z64 : List PT → Option (Bool × AV × List Blk)
  | [] => some (zkc, ((AV.v (TV.one (At.flt FloatKind.f64 zij))), []))
  | _ => none
def zt4  : Option (Nat) → Option (AV × List Blk)
  | some r => some ((AV.v (TV.one (At.flt FloatKind.f64 r))), [])
  | none => none
theorem zuj  : evFn Γ0 8 8 102 (impTs 0 []).1 (impTs 0 []).2 (expo (impTs 0 []).2.length) = zjg (fun c0_ => some ((AV.v (TV.one (At.flt FloatKind.f64 c0_))), [])) := by kernel_rfl
theorem z4t : SumOne Try.prog 102 z64 := sum_of (Γ := Γ0) (fuel := 8) (d := 8) tyTab_ok (FnL.ok fnTab_ok _ _) (LpL.ok lt0_ok) (SumL.ok tb0_ok _) mixed (by
  intro pts v news hp hc
  clear hc
  unfold z64 at hp
  split at hp
  · exact Eq.trans (Eq.trans (zuj) (ztw zt4 rfl  (fun c0_ => some c0_))) (fin_out (o := zt4) (x := zjh) (d := default) (V := fun r => ((AV.v (TV.one (At.flt FloatKind.f64 r))), [])) (fun r => rfl) hp)
  · cases hp)
noncomputable def z1y : List PT → Option (Bool × AV × List Blk)
  | [.one (.row 3 a_n (.fl .f32 a)), .one (.s (.int .i64 q25))] => some ((zgw a_n a q25), ((AV.v (TV.one (At.int IntKind.i64 (zcl a_n a q25)))), []))
  | _ => none
def zl4 (a_n : Nat) (a : List Nat) (q25 : Int) : Option (Int) → Option (AV × List Blk)
  | some r => some ((AV.v (TV.one (At.int IntKind.i64 r))), [])
  | none => none
theorem zr5 (a_n : Nat) (a : List Nat) (q25 : Int) : evFn Γ0 8 8 112 (impTs 0 [.one (.row 3 a_n (.fl .f32 a)), .one (.s (.int .i64 q25))]).1 (impTs 0 [.one (.row 3 a_n (.fl .f32 a)), .one (.s (.int .i64 q25))]).2 (expo (impTs 0 [.one (.row 3 a_n (.fl .f32 a)), .one (.s (.int .i64 q25))]).2.length) = zay a_n a q25 (fun c0_ => some ((AV.v (TV.one (At.int IntKind.i64 c0_))), [])) := by kernel_rfl
theorem z1d : SumOne Try.prog 112 z1y := sum_of (Γ := Γ0) (fuel := 8) (d := 8) tyTab_ok (FnL.ok fnTab_ok _ _) (LpL.ok lt0_ok) (SumL.ok tb0_ok _) mixed (by
  intro pts v news hp hc
  clear hc
  unfold z1y at hp
  split at hp
  · rename_i a_n a q25
    exact Eq.trans (Eq.trans (zr5 a_n a q25) (znd (zl4 a_n a q25) rfl a_n a q25 (fun c0_ => some c0_))) (fin_out (o := (zl4 a_n a q25)) (x := zb4 a_n a q25) (d := default) (V := fun r => ((AV.v (TV.one (At.int IntKind.i64 r))), [])) (fun r => rfl) hp)
  · cases hp)
noncomputable def z3f : List PT → Option (Bool × AV × List Blk)
  | [.one (.s (.flt .f32 x))] => some ((zjn x), ((AV.v (TV.one (At.bool (ziq x)))), []))
  | _ => none
def znv (x : Nat) : Option (Bool) → Option (AV × List Blk)
  | some r => some ((AV.v (TV.one (At.bool r))), [])
  | none => none
theorem ztk (x : Nat) : evFn Γ0 8 8 114 (impTs 0 [.one (.s (.flt .f32 x))]).1 (impTs 0 [.one (.s (.flt .f32 x))]).2 (expo (impTs 0 [.one (.s (.flt .f32 x))]).2.length) = zdq x (fun c0_ => some ((AV.v (TV.one (At.bool c0_))), [])) := by kernel_rfl
theorem z2k : SumOne Try.prog 114 z3f := sum_of (Γ := Γ0) (fuel := 8) (d := 8) tyTab_ok (FnL.ok fnTab_ok _ _) (LpL.ok lt0_ok) (SumL.ok tb0_ok _) mixed (by
  intro pts v news hp hc
  clear hc
  unfold z3f at hp
  split at hp
  · rename_i x
    exact Eq.trans (Eq.trans (ztk x) (zqd (znv x) rfl x (fun c0_ => some c0_))) (fin_out (o := (znv x)) (x := ze3 x) (d := default) (V := fun r => ((AV.v (TV.one (At.bool r))), [])) (fun r => rfl) hp)
  · cases hp)
noncomputable def z2c : List PT → Option (Bool × AV × List Blk)
  | [.one (.s (.flt .f32 x))] => some ((z5p x), ((AV.v (TV.one (At.bool (z53 x)))), []))
  | _ => none
def zm4 (x : Nat) : Option (Bool) → Option (AV × List Blk)
  | some r => some ((AV.v (TV.one (At.bool r))), [])
  | none => none
theorem zrx (x : Nat) : evFn Γ0 8 8 115 (impTs 0 [.one (.s (.flt .f32 x))]).1 (impTs 0 [.one (.s (.flt .f32 x))]).2 (expo (impTs 0 [.one (.s (.flt .f32 x))]).2.length) = zee x (fun c0_ => some ((AV.v (TV.one (At.bool c0_))), [])) := by kernel_rfl
theorem z1u : SumOne Try.prog 115 z2c := sum_of (Γ := Γ0) (fuel := 8) (d := 8) tyTab_ok (FnL.ok fnTab_ok _ _) (LpL.ok lt0_ok) (SumL.ok tb0_ok _) mixed (by
  intro pts v news hp hc
  clear hc
  unfold z2c at hp
  split at hp
  · rename_i x
    exact Eq.trans (Eq.trans (zrx x) (zop (zm4 x) rfl x (fun c0_ => some c0_))) (fin_out (o := (zm4 x)) (x := zeb x) (d := default) (V := fun r => ((AV.v (TV.one (At.bool r))), [])) (fun r => rfl) hp)
  · cases hp)
noncomputable def z2u : List PT → Option (Bool × AV × List Blk)
  | [.one (.s (.flt .f32 x)), .one (.s (.flt .f32 low)), .one (.s (.flt .f32 q2g))] => some ((zfj x low q2g), ((AV.v (TV.one (At.bool (zec x low q2g)))), []))
  | _ => none
def zml (x : Nat) (low : Nat) (q2g : Nat) : Option (Bool) → Option (AV × List Blk)
  | some r => some ((AV.v (TV.one (At.bool r))), [])
  | none => none
theorem zt9 (x : Nat) (low : Nat) (q2g : Nat) : evFn Γ0 8 8 123 (impTs 0 [.one (.s (.flt .f32 x)), .one (.s (.flt .f32 low)), .one (.s (.flt .f32 q2g))]).1 (impTs 0 [.one (.s (.flt .f32 x)), .one (.s (.flt .f32 low)), .one (.s (.flt .f32 q2g))]).2 (expo (impTs 0 [.one (.s (.flt .f32 x)), .one (.s (.flt .f32 low)), .one (.s (.flt .f32 q2g))]).2.length) = zcm x low q2g (fun c0_ => some ((AV.v (TV.one (At.bool c0_))), [])) := by kernel_rfl
theorem z28 : SumOne Try.prog 123 z2u := sum_of (Γ := Γ0) (fuel := 8) (d := 8) tyTab_ok (FnL.ok fnTab_ok _ _) (LpL.ok lt0_ok) (SumL.ok tb0_ok _) mixed (by
  intro pts v news hp hc
  clear hc
  unfold z2u at hp
  split at hp
  · rename_i x low q2g
    exact Eq.trans (Eq.trans (zt9 x low q2g) (zpl (zml x low q2g) rfl x low q2g (fun c0_ => some c0_))) (fin_out (o := (zml x low q2g)) (x := zcs x low q2g) (d := default) (V := fun r => ((AV.v (TV.one (At.bool r))), [])) (fun r => rfl) hp)
  · cases hp)
noncomputable def z4l : List PT → Option (Bool × AV × List Blk)
  | [.one (.s (.flt .f32 a)), .one (.s (.flt .f32 b)), .one (.s (.flt .f32 q35))] => some ((zj2 a b q35), ((AV.v (TV.one (At.flt FloatKind.f32 (zig a b q35)))), []))
  | _ => none
def zqp (a : Nat) (b : Nat) (q35 : Nat) : Option (Nat) → Option (AV × List Blk)
  | some r => some ((AV.v (TV.one (At.flt FloatKind.f32 r))), [])
  | none => none
theorem zuc (a : Nat) (b : Nat) (q35 : Nat) : evFn Γ0 8 8 126 (impTs 0 [.one (.s (.flt .f32 a)), .one (.s (.flt .f32 b)), .one (.s (.flt .f32 q35))]).1 (impTs 0 [.one (.s (.flt .f32 a)), .one (.s (.flt .f32 b)), .one (.s (.flt .f32 q35))]).2 (expo (impTs 0 [.one (.s (.flt .f32 a)), .one (.s (.flt .f32 b)), .one (.s (.flt .f32 q35))]).2.length) = zj7 a b q35 (fun c0_ => some ((AV.v (TV.one (At.flt FloatKind.f32 c0_))), [])) := by kernel_rfl
theorem z3k : SumOne Try.prog 126 z4l := sum_of (Γ := Γ0) (fuel := 8) (d := 8) tyTab_ok (FnL.ok fnTab_ok _ _) (LpL.ok lt0_ok) (SumL.ok tb0_ok _) mixed (by
  intro pts v news hp hc
  clear hc
  unfold z4l at hp
  split at hp
  · rename_i a b q35
    exact Eq.trans (Eq.trans (zuc a b q35) (zrw (zqp a b q35) rfl a b q35 (fun c0_ => some c0_))) (fin_out (o := (zqp a b q35)) (x := zjb a b q35) (d := default) (V := fun r => ((AV.v (TV.one (At.flt FloatKind.f32 r))), [])) (fun r => rfl) hp)
  · cases hp)
noncomputable def z65 : List PT → Option (Bool × AV × List Blk)
  | [.one (.s (.flt .f64 x))] => some ((zlh x), ((AV.v (TV.one (At.flt FloatKind.f64 (zks x)))), []))
  | _ => none
def ztb (x : Nat) : Option (Nat) → Option (AV × List Blk)
  | some r => some ((AV.v (TV.one (At.flt FloatKind.f64 r))), [])
  | none => none
theorem zui (x : Nat) : evFn Γ0 8 8 157 (impTs 0 [.one (.s (.flt .f64 x))]).1 (impTs 0 [.one (.s (.flt .f64 x))]).2 (expo (impTs 0 [.one (.s (.flt .f64 x))]).2.length) = zjj x (fun c0_ => some ((AV.v (TV.one (At.flt FloatKind.f64 c0_))), [])) := by kernel_rfl
theorem z4s : SumOne Try.prog 157 z65 := sum_of (Γ := Γ0) (fuel := 8) (d := 8) tyTab_ok (FnL.ok fnTab_ok _ _) (LpL.ok lt0_ok) (SumL.ok tb0_ok _) mixed (by
  intro pts v news hp hc
  clear hc
  unfold z65 at hp
  split at hp
  · rename_i x
    exact Eq.trans (Eq.trans (zui x) (ztt (ztb x) rfl x (fun c0_ => some c0_))) (fin_out (o := (ztb x)) (x := zjr x) (d := default) (V := fun r => ((AV.v (TV.one (At.flt FloatKind.f64 r))), [])) (fun r => rfl) hp)
  · cases hp)
noncomputable def z1x : List PT → Option (Bool × AV × List Blk)
  | [.one (.row 1 a_n (.fl .f32 a)), .one (.s (.int .i64 q25))] => some ((zb1 a_n a q25), ((AV.v (TV.one (At.int IntKind.i64 (z4j a_n a q25)))), []))
  | _ => none
def zl8 (a_n : Nat) (a : List Nat) (q25 : Int) : Option (Int) → Option (AV × List Blk)
  | some r => some ((AV.v (TV.one (At.int IntKind.i64 r))), [])
  | none => none
theorem zr2 (a_n : Nat) (a : List Nat) (q25 : Int) : evFn Γ0 8 8 160 (impTs 0 [.one (.row 1 a_n (.fl .f32 a)), .one (.s (.int .i64 q25))]).1 (impTs 0 [.one (.row 1 a_n (.fl .f32 a)), .one (.s (.int .i64 q25))]).2 (expo (impTs 0 [.one (.row 1 a_n (.fl .f32 a)), .one (.s (.int .i64 q25))]).2.length) = zbh a_n a q25 (fun c0_ => some ((AV.v (TV.one (At.int IntKind.i64 c0_))), [])) := by kernel_rfl
theorem z1e : SumOne Try.prog 160 z1x := sum_of (Γ := Γ0) (fuel := 8) (d := 8) tyTab_ok (FnL.ok fnTab_ok _ _) (LpL.ok lt0_ok) (SumL.ok tb0_ok _) mixed (by
  intro pts v news hp hc
  clear hc
  unfold z1x at hp
  split at hp
  · rename_i a_n a q25
    exact Eq.trans (Eq.trans (zr2 a_n a q25) (zo1 (zl8 a_n a q25) rfl a_n a q25 (fun c0_ => some c0_))) (fin_out (o := (zl8 a_n a q25)) (x := zbb a_n a q25) (d := default) (V := fun r => ((AV.v (TV.one (At.int IntKind.i64 r))), [])) (fun r => rfl) hp)
  · cases hp)
noncomputable def z4h : List PT → Option (Bool × AV × List Blk)
  | [.one (.s (.int .i64 n_)), .one (.s (.int .i64 low)), .one (.s (.int .i64 q2g))] => some ((zj6 n_ low q2g), ((AV.v (TV.one (At.bool (zic n_ low q2g)))), []))
  | _ => none
def zpz (n_ : Int) (low : Int) (q2g : Int) : Option (Bool) → Option (AV × List Blk)
  | some r => some ((AV.v (TV.one (At.bool r))), [])
  | none => none
theorem zue (n_ : Int) (low : Int) (q2g : Int) : evFn Γ0 8 8 162 (impTs 0 [.one (.s (.int .i64 n_)), .one (.s (.int .i64 low)), .one (.s (.int .i64 q2g))]).1 (impTs 0 [.one (.s (.int .i64 n_)), .one (.s (.int .i64 low)), .one (.s (.int .i64 q2g))]).2 (expo (impTs 0 [.one (.s (.int .i64 n_)), .one (.s (.int .i64 low)), .one (.s (.int .i64 q2g))]).2.length) = zhq n_ low q2g (fun c0_ => some ((AV.v (TV.one (At.bool c0_))), [])) := by kernel_rfl
theorem z3j : SumOne Try.prog 162 z4h := sum_of (Γ := Γ0) (fuel := 8) (d := 8) tyTab_ok (FnL.ok fnTab_ok _ _) (LpL.ok lt0_ok) (SumL.ok tb0_ok _) mixed (by
  intro pts v news hp hc
  clear hc
  unfold z4h at hp
  split at hp
  · rename_i n_ low q2g
    exact Eq.trans (Eq.trans (zue n_ low q2g) (zse (zpz n_ low q2g) rfl n_ low q2g (fun c0_ => some c0_))) (fin_out (o := (zpz n_ low q2g)) (x := zh6 n_ low q2g) (d := default) (V := fun r => ((AV.v (TV.one (At.bool r))), [])) (fun r => rfl) hp)
  · cases hp)
noncomputable def z2a : List PT → Option (Bool × AV × List Blk)
  | [.agg [.s (.flt .f32 q2c), .s (.flt .f32 q2d), .s (.flt .f32 q2e)]] => some ((zk7 q2c q2d q2e), ((AV.v (TV.agg [(At.flt FloatKind.f32 q2c), (At.flt FloatKind.f32 q2d), (At.flt FloatKind.f32 q2e)])), []))
  | _ => none
def zln (q2c : Nat) (q2d : Nat) (q2e : Nat) : Option (Unit) → Option (AV × List Blk)
  | some r => some ((AV.v (TV.agg [(At.flt FloatKind.f32 q2c), (At.flt FloatKind.f32 q2d), (At.flt FloatKind.f32 q2e)])), [])
  | none => none
theorem zsa (q2c : Nat) (q2d : Nat) (q2e : Nat) : evFn Γ0 8 8 167 (impTs 0 [.agg [.s (.flt .f32 q2c), .s (.flt .f32 q2d), .s (.flt .f32 q2e)]]).1 (impTs 0 [.agg [.s (.flt .f32 q2c), .s (.flt .f32 q2d), .s (.flt .f32 q2e)]]).2 (expo (impTs 0 [.agg [.s (.flt .f32 q2c), .s (.flt .f32 q2d), .s (.flt .f32 q2e)]]).2.length) = zed q2c q2d q2e (fun _ => some ((AV.v (TV.agg [(At.flt FloatKind.f32 q2c), (At.flt FloatKind.f32 q2d), (At.flt FloatKind.f32 q2e)])), [])) := by kernel_rfl
theorem z1s : SumOne Try.prog 167 z2a := sum_of (Γ := Γ0) (fuel := 8) (d := 8) tyTab_ok (FnL.ok fnTab_ok _ _) (LpL.ok lt0_ok) (SumL.ok tb0_ok _) mixed (by
  intro pts v news hp hc
  clear hc
  unfold z2a at hp
  split at hp
  · rename_i q2c q2d q2e
    exact Eq.trans (Eq.trans (zsa q2c q2d q2e) (zp9 (zln q2c q2d q2e) rfl q2c q2d q2e (fun _ => some ()))) (fin_out (o := (zln q2c q2d q2e)) (x := zlp q2c q2d q2e) (d := default) (V := fun r => ((AV.v (TV.agg [(At.flt FloatKind.f32 q2c), (At.flt FloatKind.f32 q2d), (At.flt FloatKind.f32 q2e)])), [])) (fun r => rfl) hp)
  · cases hp)
noncomputable def z3x : List PT → Option (Bool × AV × List Blk)
  | [.ptr [.row 1 q00 (.fl .f32 q03), .row 1 q02 (.fl .f32 q05), .row 1 q01 (.fl .f32 q04), .row 3 q06 (.fl .f32 q09), .s (.int .i64 q0e), .s (.flt .f32 q0h), .s (.flt .f32 q0g)], .one (.s (.int .i64 i)), .one (.s (.flt .f32 q36))] => some ((zk3 q00 q03 q02 q05 q01 q04 q06 q09 q0e q0h q0g i q36), ((AV.v (TV.one (At.flt FloatKind.f32 (zhn q00 q03 q02 q05 q01 q04 q06 q09 q0e q0h q0g i q36)))), []))
  | _ => none
def zpi (q00 : Nat) (q03 : List Nat) (q02 : Nat) (q05 : List Nat) (q01 : Nat) (q04 : List Nat) (q06 : Nat) (q09 : List Nat) (q0e : Int) (q0h : Nat) (q0g : Nat) (i : Int) (q36 : Nat) : Option (Nat) → Option (AV × List Blk)
  | some r => some ((AV.v (TV.one (At.flt FloatKind.f32 r))), [])
  | none => none
theorem zu1 (q00 : Nat) (q03 : List Nat) (q02 : Nat) (q05 : List Nat) (q01 : Nat) (q04 : List Nat) (q06 : Nat) (q09 : List Nat) (q0e : Int) (q0h : Nat) (q0g : Nat) (i : Int) (q36 : Nat) : evFn Γ0 8 8 175 (impTs 0 [.ptr [.row 1 q00 (.fl .f32 q03), .row 1 q02 (.fl .f32 q05), .row 1 q01 (.fl .f32 q04), .row 3 q06 (.fl .f32 q09), .s (.int .i64 q0e), .s (.flt .f32 q0h), .s (.flt .f32 q0g)], .one (.s (.int .i64 i)), .one (.s (.flt .f32 q36))]).1 (impTs 0 [.ptr [.row 1 q00 (.fl .f32 q03), .row 1 q02 (.fl .f32 q05), .row 1 q01 (.fl .f32 q04), .row 3 q06 (.fl .f32 q09), .s (.int .i64 q0e), .s (.flt .f32 q0h), .s (.flt .f32 q0g)], .one (.s (.int .i64 i)), .one (.s (.flt .f32 q36))]).2 (expo (impTs 0 [.ptr [.row 1 q00 (.fl .f32 q03), .row 1 q02 (.fl .f32 q05), .row 1 q01 (.fl .f32 q04), .row 3 q06 (.fl .f32 q09), .s (.int .i64 q0e), .s (.flt .f32 q0h), .s (.flt .f32 q0g)], .one (.s (.int .i64 i)), .one (.s (.flt .f32 q36))]).2.length) = zfb q00 q03 q02 q05 q01 q04 q06 q09 q0e q0h q0g i q36 (fun c0_ => some ((AV.v (TV.one (At.flt FloatKind.f32 c0_))), [])) := by kernel_rfl
theorem z31 : SumOne Try.prog 175 z3x := sum_of (Γ := Γ0) (fuel := 8) (d := 8) tyTab_ok (FnL.ok fnTab_ok _ _) (LpL.ok lt0_ok) (SumL.ok tb0_ok _) mixed (by
  intro pts v news hp hc
  clear hc
  unfold z3x at hp
  split at hp
  · rename_i q00 q03 q02 q05 q01 q04 q06 q09 q0e q0h q0g i q36
    exact Eq.trans (Eq.trans (zu1 q00 q03 q02 q05 q01 q04 q06 q09 q0e q0h q0g i q36) (zrp (zpi q00 q03 q02 q05 q01 q04 q06 q09 q0e q0h q0g i q36) rfl q00 q03 q02 q05 q01 q04 q06 q09 q0e q0h q0g i q36 (fun c0_ => some c0_))) (fin_out (o := (zpi q00 q03 q02 q05 q01 q04 q06 q09 q0e q0h q0g i q36)) (x := zf4 q00 q03 q02 q05 q01 q04 q06 q09 q0e q0h q0g i q36) (d := default) (V := fun r => ((AV.v (TV.one (At.flt FloatKind.f32 r))), [])) (fun r => rfl) hp)
  · cases hp)
noncomputable def z1o : List PT → Option (Bool × AV × List Blk)
  | [.ptr [.row 1 q00 (.fl .f32 q03), .row 1 q02 (.fl .f32 q05), .row 1 q01 (.fl .f32 q04), .row 3 q06 (.fl .f32 q09), .s (.int .i64 q0e), .s (.flt .f32 q0h), .s (.flt .f32 q0g)], .one (.s (.int .i64 i))] => some ((zfs q00 q03 q02 q05 q01 q04 q06 q09 q0e q0h q0g i), ((AV.v (TV.one (At.flt FloatKind.f32 (zbq q00 q03 q02 q05 q01 q04 q06 q09 q0e q0h q0g i)))), []))
  | _ => none
def zkx (q00 : Nat) (q03 : List Nat) (q02 : Nat) (q05 : List Nat) (q01 : Nat) (q04 : List Nat) (q06 : Nat) (q09 : List Nat) (q0e : Int) (q0h : Nat) (q0g : Nat) (i : Int) : Option (Nat) → Option (AV × List Blk)
  | some r => some ((AV.v (TV.one (At.flt FloatKind.f32 r))), [])
  | none => none
theorem zqk (q00 : Nat) (q03 : List Nat) (q02 : Nat) (q05 : List Nat) (q01 : Nat) (q04 : List Nat) (q06 : Nat) (q09 : List Nat) (q0e : Int) (q0h : Nat) (q0g : Nat) (i : Int) : evFn Γ0 8 8 176 (impTs 0 [.ptr [.row 1 q00 (.fl .f32 q03), .row 1 q02 (.fl .f32 q05), .row 1 q01 (.fl .f32 q04), .row 3 q06 (.fl .f32 q09), .s (.int .i64 q0e), .s (.flt .f32 q0h), .s (.flt .f32 q0g)], .one (.s (.int .i64 i))]).1 (impTs 0 [.ptr [.row 1 q00 (.fl .f32 q03), .row 1 q02 (.fl .f32 q05), .row 1 q01 (.fl .f32 q04), .row 3 q06 (.fl .f32 q09), .s (.int .i64 q0e), .s (.flt .f32 q0h), .s (.flt .f32 q0g)], .one (.s (.int .i64 i))]).2 (expo (impTs 0 [.ptr [.row 1 q00 (.fl .f32 q03), .row 1 q02 (.fl .f32 q05), .row 1 q01 (.fl .f32 q04), .row 3 q06 (.fl .f32 q09), .s (.int .i64 q0e), .s (.flt .f32 q0h), .s (.flt .f32 q0g)], .one (.s (.int .i64 i))]).2.length) = zae q00 q03 q02 q05 q01 q04 q06 q09 q0e q0h q0g i (fun c0_ => some ((AV.v (TV.one (At.flt FloatKind.f32 c0_))), [])) := by kernel_rfl
theorem z14 : SumOne Try.prog 176 z1o := sum_of (Γ := Γ0) (fuel := 8) (d := 8) tyTab_ok (FnL.ok fnTab_ok _ _) (LpL.ok lt0_ok) (SumL.ok tb0_ok _) mixed (by
  intro pts v news hp hc
  clear hc
  unfold z1o at hp
  split at hp
  · rename_i q00 q03 q02 q05 q01 q04 q06 q09 q0e q0h q0g i
    exact Eq.trans (Eq.trans (zqk q00 q03 q02 q05 q01 q04 q06 q09 q0e q0h q0g i) (zn2 (zkx q00 q03 q02 q05 q01 q04 q06 q09 q0e q0h q0g i) rfl q00 q03 q02 q05 q01 q04 q06 q09 q0e q0h q0g i (fun c0_ => some c0_))) (fin_out (o := (zkx q00 q03 q02 q05 q01 q04 q06 q09 q0e q0h q0g i)) (x := zaf q00 q03 q02 q05 q01 q04 q06 q09 q0e q0h q0g i) (d := default) (V := fun r => ((AV.v (TV.one (At.flt FloatKind.f32 r))), [])) (fun r => rfl) hp)
  · cases hp)
noncomputable def z29 : List PT → Option (Bool × AV × List Blk)
  | [.one (.s (.flt .f64 x))] => some ((ze9 x), ((AV.v (TV.one (At.flt FloatKind.f32 (zbj x)))), []))
  | _ => none
def zm5 (x : Nat) : Option (Nat) → Option (AV × List Blk)
  | some r => some ((AV.v (TV.one (At.flt FloatKind.f32 r))), [])
  | none => none
theorem zsc (x : Nat) : evFn Γ0 8 8 187 (impTs 0 [.one (.s (.flt .f64 x))]).1 (impTs 0 [.one (.s (.flt .f64 x))]).2 (expo (impTs 0 [.one (.s (.flt .f64 x))]).2.length) = zc6 x (fun c0_ => some ((AV.v (TV.one (At.flt FloatKind.f32 c0_))), [])) := by kernel_rfl
theorem z1t : SumOne Try.prog 187 z29 := sum_of (Γ := Γ0) (fuel := 8) (d := 8) tyTab_ok (FnL.ok fnTab_ok _ _) (LpL.ok lt0_ok) (SumL.ok tb0_ok _) mixed (by
  intro pts v news hp hc
  clear hc
  unfold z29 at hp
  split at hp
  · rename_i x
    exact Eq.trans (Eq.trans (zsc x) (zoe (zm5 x) rfl x (fun c0_ => some c0_))) (fin_out (o := (zm5 x)) (x := zc2 x) (d := default) (V := fun r => ((AV.v (TV.one (At.flt FloatKind.f32 r))), [])) (fun r => rfl) hp)
  · cases hp)
noncomputable def tb1 : List (Nat × (List PT → Option (Bool × AV × List Blk))) := [(156, z0s), (181, z19), (182, z21), (189, z20), (26, z2s), (55, z2b), (84, z0x), (89, z3w), (102, z64), (112, z1y), (114, z3f), (115, z2c), (123, z2u), (126, z4l), (157, z65), (160, z1x), (162, z4h), (167, z2a), (175, z3x), (176, z1o), (187, z29)]
noncomputable def lt1 : List ((Nat × Nat) × (Nat → St → Option (Bool × LO))) := []
noncomputable def Γ1 : Ctx := ⟨tyTab, fnTab, tblSum tb1, tblLp lt1⟩
theorem tb1_ok : SumL Try.prog tb1 := SumL.cons z0r (SumL.cons z13 (SumL.cons z1j (SumL.cons z1i (SumL.cons z27 (SumL.cons z1r (SumL.cons z0t (SumL.cons z30 (SumL.cons z4t (SumL.cons z1d (SumL.cons z2k (SumL.cons z1u (SumL.cons z28 (SumL.cons z3k (SumL.cons z4s (SumL.cons z1e (SumL.cons z3j (SumL.cons z1s (SumL.cons z31 (SumL.cons z14 (SumL.cons z1t (SumL.nil)))))))))))))))))))))
theorem lt1_ok : LpL Try.prog fnTab lt1 := LpL.nil
noncomputable def z3n : List PT → Option (Bool × AV × List Blk)
  | [.one (.s (.flt .f32 x))] => some ((zjq x), ((AV.tup [(TV.one (At.flt FloatKind.f32 (zin x))), (TV.one (At.bool (zim x)))]), []))
  | _ => none
def zni (x : Nat) : Option (Nat × Bool) → Option (AV × List Blk)
  | some r => some ((AV.tup [(TV.one (At.flt FloatKind.f32 r.1)), (TV.one (At.bool r.2))]), [])
  | none => none
theorem ztq (x : Nat) : evFn Γ1 8 8 74 (impTs 0 [.one (.s (.flt .f32 x))]).1 (impTs 0 [.one (.s (.flt .f32 x))]).2 (expo (impTs 0 [.one (.s (.flt .f32 x))]).2.length) = zdw x (fun c0_ c1_ => some ((AV.tup [(TV.one (At.flt FloatKind.f32 c0_)), (TV.one (At.bool c1_))]), [])) := by kernel_rfl
theorem z2z : SumOne Try.prog 74 z3n := sum_of (Γ := Γ1) (fuel := 8) (d := 8) tyTab_ok (FnL.ok fnTab_ok _ _) (LpL.ok lt1_ok) (SumL.ok tb1_ok _) mixed (by
  intro pts v news hp hc
  clear hc
  unfold z3n at hp
  split at hp
  · rename_i x
    exact Eq.trans (Eq.trans (ztq x) (zpx (zni x) rfl x (fun c0_ c1_ => some (c0_, c1_)))) (fin_out (o := (zni x)) (x := zc7 x) (d := default) (V := fun r => ((AV.tup [(TV.one (At.flt FloatKind.f32 r.1)), (TV.one (At.bool r.2))]), [])) (fun r => rfl) hp)
  · cases hp)
noncomputable def z0w : List PT → Option (Bool × AV × List Blk)
  | [.agg [.row 1 q00 (.fl .f32 q03), .row 1 q02 (.fl .f32 q05), .row 1 q01 (.fl .f32 q04), .row 3 q06 (.fl .f32 q09), .s (.int .i64 q0e), .s (.flt .f32 q0h), .s (.flt .f32 q0g)], .one (.s (.int .i64 i))] => some ((zcj q00 q03 q02 q05 q01 q04 q06 q09 q0e q0h q0g i), ((AV.v (TV.one (At.bool (zbo q00 q03 q02 q05 q01 q04 q06 q09 q0e q0h q0g i)))), []))
  | _ => none
def zk0 (q00 : Nat) (q03 : List Nat) (q02 : Nat) (q05 : List Nat) (q01 : Nat) (q04 : List Nat) (q06 : Nat) (q09 : List Nat) (q0e : Int) (q0h : Nat) (q0g : Nat) (i : Int) : Option (Bool) → Option (AV × List Blk)
  | some r => some ((AV.v (TV.one (At.bool r))), [])
  | none => none
theorem zn0 (q00 : Nat) (q03 : List Nat) (q02 : Nat) (q05 : List Nat) (q01 : Nat) (q04 : List Nat) (q06 : Nat) (q09 : List Nat) (q0e : Int) (q0h : Nat) (q0g : Nat) (i : Int) : evFn Γ1 8 8 83 (impTs 0 [.agg [.row 1 q00 (.fl .f32 q03), .row 1 q02 (.fl .f32 q05), .row 1 q01 (.fl .f32 q04), .row 3 q06 (.fl .f32 q09), .s (.int .i64 q0e), .s (.flt .f32 q0h), .s (.flt .f32 q0g)], .one (.s (.int .i64 i))]).1 (impTs 0 [.agg [.row 1 q00 (.fl .f32 q03), .row 1 q02 (.fl .f32 q05), .row 1 q01 (.fl .f32 q04), .row 3 q06 (.fl .f32 q09), .s (.int .i64 q0e), .s (.flt .f32 q0h), .s (.flt .f32 q0g)], .one (.s (.int .i64 i))]).2 (expo (impTs 0 [.agg [.row 1 q00 (.fl .f32 q03), .row 1 q02 (.fl .f32 q05), .row 1 q01 (.fl .f32 q04), .row 3 q06 (.fl .f32 q09), .s (.int .i64 q0e), .s (.flt .f32 q0h), .s (.flt .f32 q0g)], .one (.s (.int .i64 i))]).2.length) = z8o q00 q03 q02 q05 q01 q04 q06 q09 q0e q0h q0g i (fun c0_ => some ((AV.v (TV.one (At.bool c0_))), [])) := by kernel_rfl
theorem z0u : SumOne Try.prog 83 z0w := sum_of (Γ := Γ1) (fuel := 8) (d := 8) tyTab_ok (FnL.ok fnTab_ok _ _) (LpL.ok lt1_ok) (SumL.ok tb1_ok _) mixed (by
  intro pts v news hp hc
  clear hc
  unfold z0w at hp
  split at hp
  · rename_i q00 q03 q02 q05 q01 q04 q06 q09 q0e q0h q0g i
    exact Eq.trans (Eq.trans (zn0 q00 q03 q02 q05 q01 q04 q06 q09 q0e q0h q0g i) (zl2 (zk0 q00 q03 q02 q05 q01 q04 q06 q09 q0e q0h q0g i) rfl q00 q03 q02 q05 q01 q04 q06 q09 q0e q0h q0g i (fun c0_ => some c0_))) (fin_out (o := (zk0 q00 q03 q02 q05 q01 q04 q06 q09 q0e q0h q0g i)) (x := z8r q00 q03 q02 q05 q01 q04 q06 q09 q0e q0h q0g i) (d := default) (V := fun r => ((AV.v (TV.one (At.bool r))), [])) (fun r => rfl) hp)
  · cases hp)
noncomputable def z4a : List PT → Option (Bool × AV × List Blk)
  | [.one (.s (.flt .f32 q0z))] => some ((zk6 q0z), ((AV.v (TV.one (At.bool (zjp q0z)))), []))
  | _ => none
def zph (q0z : Nat) : Option (Bool) → Option (AV × List Blk)
  | some r => some ((AV.v (TV.one (At.bool r))), [])
  | none => none
theorem zu3 (q0z : Nat) : evFn Γ1 8 8 85 (impTs 0 [.one (.s (.flt .f32 q0z))]).1 (impTs 0 [.one (.s (.flt .f32 q0z))]).2 (expo (impTs 0 [.one (.s (.flt .f32 q0z))]).2.length) = zf6 q0z (fun c0_ => some ((AV.v (TV.one (At.bool c0_))), [])) := by kernel_rfl
theorem z3c : SumOne Try.prog 85 z4a := sum_of (Γ := Γ1) (fuel := 8) (d := 8) tyTab_ok (FnL.ok fnTab_ok _ _) (LpL.ok lt1_ok) (SumL.ok tb1_ok _) mixed (by
  intro pts v news hp hc
  clear hc
  unfold z4a at hp
  split at hp
  · rename_i q0z
    exact Eq.trans (Eq.trans (zu3 q0z) (zr3 (zph q0z) rfl q0z (fun c0_ => some c0_))) (fin_out (o := (zph q0z)) (x := zf9 q0z) (d := default) (V := fun r => ((AV.v (TV.one (At.bool r))), [])) (fun r => rfl) hp)
  · cases hp)
noncomputable def z3o : List PT → Option (Bool × AV × List Blk)
  | [.one (.s (.flt .f32 x))] => some ((zhk x), ((AV.v (TV.one (At.bool (zff x)))), []))
  | _ => none
def zng (x : Nat) : Option (Bool) → Option (AV × List Blk)
  | some r => some ((AV.v (TV.one (At.bool r))), [])
  | none => none
theorem zte (x : Nat) : evFn Γ1 8 8 90 (impTs 0 [.one (.s (.flt .f32 x))]).1 (impTs 0 [.one (.s (.flt .f32 x))]).2 (expo (impTs 0 [.one (.s (.flt .f32 x))]).2.length) = zdt x (fun c0_ => some ((AV.v (TV.one (At.bool c0_))), [])) := by kernel_rfl
theorem z2v : SumOne Try.prog 90 z3o := sum_of (Γ := Γ1) (fuel := 8) (d := 8) tyTab_ok (FnL.ok fnTab_ok _ _) (LpL.ok lt1_ok) (SumL.ok tb1_ok _) mixed (by
  intro pts v news hp hc
  clear hc
  unfold z3o at hp
  split at hp
  · rename_i x
    exact Eq.trans (Eq.trans (zte x) (zq0 (zng x) rfl x (fun c0_ => some c0_))) (fin_out (o := (zng x)) (x := zdr x) (d := default) (V := fun r => ((AV.v (TV.one (At.bool r))), [])) (fun r => rfl) hp)
  · cases hp)
noncomputable def z49 : List PT → Option (Bool × AV × List Blk)
  | [.one (.s (.flt .f64 x))] => some ((zk5 x), ((AV.v (TV.one (At.bool (zjs x)))), []))
  | _ => none
def zpe (x : Nat) : Option (Bool) → Option (AV × List Blk)
  | some r => some ((AV.v (TV.one (At.bool r))), [])
  | none => none
theorem zu5 (x : Nat) : evFn Γ1 8 8 103 (impTs 0 [.one (.s (.flt .f64 x))]).1 (impTs 0 [.one (.s (.flt .f64 x))]).2 (expo (impTs 0 [.one (.s (.flt .f64 x))]).2.length) = zfa x (fun c0_ => some ((AV.v (TV.one (At.bool c0_))), [])) := by kernel_rfl
theorem z3b : SumOne Try.prog 103 z49 := sum_of (Γ := Γ1) (fuel := 8) (d := 8) tyTab_ok (FnL.ok fnTab_ok _ _) (LpL.ok lt1_ok) (SumL.ok tb1_ok _) mixed (by
  intro pts v news hp hc
  clear hc
  unfold z49 at hp
  split at hp
  · rename_i x
    exact Eq.trans (Eq.trans (zu5 x) (zr0 (zpe x) rfl x (fun c0_ => some c0_))) (fin_out (o := (zpe x)) (x := zf5 x) (d := default) (V := fun r => ((AV.v (TV.one (At.bool r))), [])) (fun r => rfl) hp)
  · cases hp)
noncomputable def z2p : List PT → Option (Bool × AV × List Blk)
  | [.agg [.row 1 q17 (.fl .f32 q1n), .row 1 q1d (.fl .f32 q1p), .row 1 q1g (.fl .f32 q1r)], .one (.s (.int .i64 q25))] => some ((zhz q17 q1n q1d q1p q1g q1r q25), ((AV.v (TV.one (At.int IntKind.i64 (z9p q17 q1n q1d q1p q1g q1r q25)))), []))
  | _ => none
def zlq (q17 : Nat) (q1n : List Nat) (q1d : Nat) (q1p : List Nat) (q1g : Nat) (q1r : List Nat) (q25 : Int) : Option (Int) → Option (AV × List Blk)
  | some r => some ((AV.v (TV.one (At.int IntKind.i64 r))), [])
  | none => none
theorem zsh (q17 : Nat) (q1n : List Nat) (q1d : Nat) (q1p : List Nat) (q1g : Nat) (q1r : List Nat) (q25 : Int) : evFn Γ1 8 8 111 (impTs 0 [.agg [.row 1 q17 (.fl .f32 q1n), .row 1 q1d (.fl .f32 q1p), .row 1 q1g (.fl .f32 q1r)], .one (.s (.int .i64 q25))]).1 (impTs 0 [.agg [.row 1 q17 (.fl .f32 q1n), .row 1 q1d (.fl .f32 q1p), .row 1 q1g (.fl .f32 q1r)], .one (.s (.int .i64 q25))]).2 (expo (impTs 0 [.agg [.row 1 q17 (.fl .f32 q1n), .row 1 q1d (.fl .f32 q1p), .row 1 q1g (.fl .f32 q1r)], .one (.s (.int .i64 q25))]).2.length) = zcf q17 q1n q1d q1p q1g q1r q25 (fun c0_ => some ((AV.v (TV.one (At.int IntKind.i64 c0_))), [])) := by kernel_rfl
theorem z25 : SumOne Try.prog 111 z2p := sum_of (Γ := Γ1) (fuel := 8) (d := 8) tyTab_ok (FnL.ok fnTab_ok _ _) (LpL.ok lt1_ok) (SumL.ok tb1_ok _) mixed (by
  intro pts v news hp hc
  clear hc
  unfold z2p at hp
  split at hp
  · rename_i q17 q1n q1d q1p q1g q1r q25
    exact Eq.trans (Eq.trans (zsh q17 q1n q1d q1p q1g q1r q25) (zos (zlq q17 q1n q1d q1p q1g q1r q25) rfl q17 q1n q1d q1p q1g q1r q25 (fun c0_ => some c0_))) (fin_out (o := (zlq q17 q1n q1d q1p q1g q1r q25)) (x := zbu q17 q1n q1d q1p q1g q1r q25) (d := default) (V := fun r => ((AV.v (TV.one (At.int IntKind.i64 r))), [])) (fun r => rfl) hp)
  · cases hp)
noncomputable def z32 : List PT → Option (Bool × AV × List Blk)
  | [.ptr [.row 1 q00 (.fl .f32 q03), .row 1 q02 (.fl .f32 q05), .row 1 q01 (.fl .f32 q04), .row 3 q06 (.fl .f32 q09), .s (.int .i64 q0e), .s (.flt .f32 q0h), .s (.flt .f32 q0g)], .one (.s (.int .i64 i)), .one (.s (.flt .f32 q0q))] => some ((zis q00 q03 q02 q05 q01 q04 q06 q09 q0e q0h q0g i q0q), ((AV.v (TV.one (At.bool (zib q00 q03 q02 q05 q01 q04 q06 q09 q0e q0h q0g i q0q)))), []))
  | _ => none
def zmn (q00 : Nat) (q03 : List Nat) (q02 : Nat) (q05 : List Nat) (q01 : Nat) (q04 : List Nat) (q06 : Nat) (q09 : List Nat) (q0e : Int) (q0h : Nat) (q0g : Nat) (i : Int) (q0q : Nat) : Option (Bool) → Option (AV × List Blk)
  | some r => some ((AV.v (TV.one (At.bool r))), [])
  | none => none
theorem zsz (q00 : Nat) (q03 : List Nat) (q02 : Nat) (q05 : List Nat) (q01 : Nat) (q04 : List Nat) (q06 : Nat) (q09 : List Nat) (q0e : Int) (q0h : Nat) (q0g : Nat) (i : Int) (q0q : Nat) : evFn Γ1 8 8 116 (impTs 0 [.ptr [.row 1 q00 (.fl .f32 q03), .row 1 q02 (.fl .f32 q05), .row 1 q01 (.fl .f32 q04), .row 3 q06 (.fl .f32 q09), .s (.int .i64 q0e), .s (.flt .f32 q0h), .s (.flt .f32 q0g)], .one (.s (.int .i64 i)), .one (.s (.flt .f32 q0q))]).1 (impTs 0 [.ptr [.row 1 q00 (.fl .f32 q03), .row 1 q02 (.fl .f32 q05), .row 1 q01 (.fl .f32 q04), .row 3 q06 (.fl .f32 q09), .s (.int .i64 q0e), .s (.flt .f32 q0h), .s (.flt .f32 q0g)], .one (.s (.int .i64 i)), .one (.s (.flt .f32 q0q))]).2 (expo (impTs 0 [.ptr [.row 1 q00 (.fl .f32 q03), .row 1 q02 (.fl .f32 q05), .row 1 q01 (.fl .f32 q04), .row 3 q06 (.fl .f32 q09), .s (.int .i64 q0e), .s (.flt .f32 q0h), .s (.flt .f32 q0g)], .one (.s (.int .i64 i)), .one (.s (.flt .f32 q0q))]).2.length) = zcq q00 q03 q02 q05 q01 q04 q06 q09 q0e q0h q0g i q0q (fun c0_ => some ((AV.v (TV.one (At.bool c0_))), [])) := by kernel_rfl
theorem z2j : SumOne Try.prog 116 z32 := sum_of (Γ := Γ1) (fuel := 8) (d := 8) tyTab_ok (FnL.ok fnTab_ok _ _) (LpL.ok lt1_ok) (SumL.ok tb1_ok _) mixed (by
  intro pts v news hp hc
  clear hc
  unfold z32 at hp
  split at hp
  · rename_i q00 q03 q02 q05 q01 q04 q06 q09 q0e q0h q0g i q0q
    exact Eq.trans (Eq.trans (zsz q00 q03 q02 q05 q01 q04 q06 q09 q0e q0h q0g i q0q) (zpq (zmn q00 q03 q02 q05 q01 q04 q06 q09 q0e q0h q0g i q0q) rfl q00 q03 q02 q05 q01 q04 q06 q09 q0e q0h q0g i q0q (fun c0_ => some c0_))) (fin_out (o := (zmn q00 q03 q02 q05 q01 q04 q06 q09 q0e q0h q0g i q0q)) (x := zcz q00 q03 q02 q05 q01 q04 q06 q09 q0e q0h q0g i q0q) (d := default) (V := fun r => ((AV.v (TV.one (At.bool r))), [])) (fun r => rfl) hp)
  · cases hp)
noncomputable def z2n : List PT → Option (Bool × AV × List Blk)
  | [.one (.s (.flt .f32 x))] => some ((zi8 x), ((AV.tup [(TV.one (At.flt FloatKind.f32 (zgz x))), (TV.one (At.bool (zgi x)))]), []))
  | _ => none
def zlr (x : Nat) : Option (Nat × Bool) → Option (AV × List Blk)
  | some r => some ((AV.tup [(TV.one (At.flt FloatKind.f32 r.1)), (TV.one (At.bool r.2))]), [])
  | none => none
theorem zsb (x : Nat) : evFn Γ1 8 8 131 (impTs 0 [.one (.s (.flt .f32 x))]).1 (impTs 0 [.one (.s (.flt .f32 x))]).2 (expo (impTs 0 [.one (.s (.flt .f32 x))]).2.length) = zcd x (fun c0_ c1_ => some ((AV.tup [(TV.one (At.flt FloatKind.f32 c0_)), (TV.one (At.bool c1_))]), [])) := by kernel_rfl
theorem z26 : SumOne Try.prog 131 z2n := sum_of (Γ := Γ1) (fuel := 8) (d := 8) tyTab_ok (FnL.ok fnTab_ok _ _) (LpL.ok lt1_ok) (SumL.ok tb1_ok _) mixed (by
  intro pts v news hp hc
  clear hc
  unfold z2n at hp
  split at hp
  · rename_i x
    exact Eq.trans (Eq.trans (zsb x) (zp3 (zlr x) rfl x (fun c0_ c1_ => some (c0_, c1_)))) (fin_out (o := (zlr x)) (x := za9 x) (d := default) (V := fun r => ((AV.tup [(TV.one (At.flt FloatKind.f32 r.1)), (TV.one (At.bool r.2))]), [])) (fun r => rfl) hp)
  · cases hp)
noncomputable def z33 : List PT → Option (Bool × AV × List Blk)
  | [.one (.s (.flt .f32 x))] => some ((zcn x), ((AV.v (TV.one (At.bool (zch x)))), []))
  | _ => none
def zmp (x : Nat) : Option (Bool) → Option (AV × List Blk)
  | some r => some ((AV.v (TV.one (At.bool r))), [])
  | none => none
theorem zso (x : Nat) : evFn Γ1 8 8 138 (impTs 0 [.one (.s (.flt .f32 x))]).1 (impTs 0 [.one (.s (.flt .f32 x))]).2 (expo (impTs 0 [.one (.s (.flt .f32 x))]).2.length) = zd1 x (fun c0_ => some ((AV.v (TV.one (At.bool c0_))), [])) := by kernel_rfl
theorem z2g : SumOne Try.prog 138 z33 := sum_of (Γ := Γ1) (fuel := 8) (d := 8) tyTab_ok (FnL.ok fnTab_ok _ _) (LpL.ok lt1_ok) (SumL.ok tb1_ok _) mixed (by
  intro pts v news hp hc
  clear hc
  unfold z33 at hp
  split at hp
  · rename_i x
    exact Eq.trans (Eq.trans (zso x) (zpw (zmp x) rfl x (fun c0_ => some c0_))) (fin_out (o := (zmp x)) (x := zcp x) (d := default) (V := fun r => ((AV.v (TV.one (At.bool r))), [])) (fun r => rfl) hp)
  · cases hp)
noncomputable def z1v : List PT → Option (Bool × AV × List Blk)
  | [.one (.s (.flt .f32 x))] => some ((zfx x), ((AV.v (TV.one (At.bool (zeg x)))), []))
  | _ => none
def zku (x : Nat) : Option (Bool) → Option (AV × List Blk)
  | some r => some ((AV.v (TV.one (At.bool r))), [])
  | none => none
theorem zqn (x : Nat) : evFn Γ1 8 8 148 (impTs 0 [.one (.s (.flt .f32 x))]).1 (impTs 0 [.one (.s (.flt .f32 x))]).2 (expo (impTs 0 [.one (.s (.flt .f32 x))]).2.length) = zai x (fun c0_ => some ((AV.v (TV.one (At.bool c0_))), [])) := by kernel_rfl
theorem z1b : SumOne Try.prog 148 z1v := sum_of (Γ := Γ1) (fuel := 8) (d := 8) tyTab_ok (FnL.ok fnTab_ok _ _) (LpL.ok lt1_ok) (SumL.ok tb1_ok _) mixed (by
  intro pts v news hp hc
  clear hc
  unfold z1v at hp
  split at hp
  · rename_i x
    exact Eq.trans (Eq.trans (zqn x) (zn5 (zku x) rfl x (fun c0_ => some c0_))) (fin_out (o := (zku x)) (x := zab x) (d := default) (V := fun r => ((AV.v (TV.one (At.bool r))), [])) (fun r => rfl) hp)
  · cases hp)
noncomputable def z16 : List PT → Option (Bool × AV × List Blk)
  | [.one (.s (.flt .f32 x))] => some ((zdf x), ((AV.v (TV.one (At.bool (zcy x)))), []))
  | _ => none
def zkd (x : Nat) : Option (Bool) → Option (AV × List Blk)
  | some r => some ((AV.v (TV.one (At.bool r))), [])
  | none => none
theorem zoz (x : Nat) : evFn Γ1 8 8 150 (impTs 0 [.one (.s (.flt .f32 x))]).1 (impTs 0 [.one (.s (.flt .f32 x))]).2 (expo (impTs 0 [.one (.s (.flt .f32 x))]).2.length) = z9b x (fun c0_ => some ((AV.v (TV.one (At.bool c0_))), [])) := by kernel_rfl
theorem z11 : SumOne Try.prog 150 z16 := sum_of (Γ := Γ1) (fuel := 8) (d := 8) tyTab_ok (FnL.ok fnTab_ok _ _) (LpL.ok lt1_ok) (SumL.ok tb1_ok _) mixed (by
  intro pts v news hp hc
  clear hc
  unfold z16 at hp
  split at hp
  · rename_i x
    exact Eq.trans (Eq.trans (zoz x) (zm0 (zkd x) rfl x (fun c0_ => some c0_))) (fin_out (o := (zkd x)) (x := z9g x) (d := default) (V := fun r => ((AV.v (TV.one (At.bool r))), [])) (fun r => rfl) hp)
  · cases hp)
noncomputable def z2o : List PT → Option (Bool × AV × List Blk)
  | [.agg [.s (.flt .f32 q2c), .s (.flt .f32 q2d), .s (.flt .f32 q2e)], .agg [.s (.flt .f32 q2q), .s (.flt .f32 q2v), .s (.flt .f32 q2x)]] => some ((zi4 q2c q2d q2e q2q q2v q2x), ((AV.v (TV.one (At.bool (zgl q2c q2d q2e q2q q2v q2x)))), []))
  | _ => none
def zlw (q2c : Nat) (q2d : Nat) (q2e : Nat) (q2q : Nat) (q2v : Nat) (q2x : Nat) : Option (Bool) → Option (AV × List Blk)
  | some r => some ((AV.v (TV.one (At.bool r))), [])
  | none => none
theorem zrz (q2c : Nat) (q2d : Nat) (q2e : Nat) (q2q : Nat) (q2v : Nat) (q2x : Nat) : evFn Γ1 8 8 169 (impTs 0 [.agg [.s (.flt .f32 q2c), .s (.flt .f32 q2d), .s (.flt .f32 q2e)], .agg [.s (.flt .f32 q2q), .s (.flt .f32 q2v), .s (.flt .f32 q2x)]]).1 (impTs 0 [.agg [.s (.flt .f32 q2c), .s (.flt .f32 q2d), .s (.flt .f32 q2e)], .agg [.s (.flt .f32 q2q), .s (.flt .f32 q2v), .s (.flt .f32 q2x)]]).2 (expo (impTs 0 [.agg [.s (.flt .f32 q2c), .s (.flt .f32 q2d), .s (.flt .f32 q2e)], .agg [.s (.flt .f32 q2q), .s (.flt .f32 q2v), .s (.flt .f32 q2x)]]).2.length) = zc1 q2c q2d q2e q2q q2v q2x (fun c0_ => some ((AV.v (TV.one (At.bool c0_))), [])) := by kernel_rfl
theorem z23 : SumOne Try.prog 169 z2o := sum_of (Γ := Γ1) (fuel := 8) (d := 8) tyTab_ok (FnL.ok fnTab_ok _ _) (LpL.ok lt1_ok) (SumL.ok tb1_ok _) mixed (by
  intro pts v news hp hc
  clear hc
  unfold z2o at hp
  split at hp
  · rename_i q2c q2d q2e q2q q2v q2x
    exact Eq.trans (Eq.trans (zrz q2c q2d q2e q2q q2v q2x) (zpa (zlw q2c q2d q2e q2q q2v q2x) rfl q2c q2d q2e q2q q2v q2x (fun c0_ => some c0_))) (fin_out (o := (zlw q2c q2d q2e q2q q2v q2x)) (x := zbv q2c q2d q2e q2q q2v q2x) (d := default) (V := fun r => ((AV.v (TV.one (At.bool r))), [])) (fun r => rfl) hp)
  · cases hp)
noncomputable def z34 : List PT → Option (Bool × AV × List Blk)
  | [.one (.s (.flt .f32 x))] => some ((z9r x), ((AV.v (TV.one (At.bool (z98 x)))), []))
  | _ => none
def zmr (x : Nat) : Option (Bool) → Option (AV × List Blk)
  | some r => some ((AV.v (TV.one (At.bool r))), [])
  | none => none
theorem zt1 (x : Nat) : evFn Γ1 8 8 185 (impTs 0 [.one (.s (.flt .f32 x))]).1 (impTs 0 [.one (.s (.flt .f32 x))]).2 (expo (impTs 0 [.one (.s (.flt .f32 x))]).2.length) = zcr x (fun c0_ => some ((AV.v (TV.one (At.bool c0_))), [])) := by kernel_rfl
theorem z2h : SumOne Try.prog 185 z34 := sum_of (Γ := Γ1) (fuel := 8) (d := 8) tyTab_ok (FnL.ok fnTab_ok _ _) (LpL.ok lt1_ok) (SumL.ok tb1_ok _) mixed (by
  intro pts v news hp hc
  clear hc
  unfold z34 at hp
  split at hp
  · rename_i x
    exact Eq.trans (Eq.trans (zt1 x) (zpu (zmr x) rfl x (fun c0_ => some c0_))) (fin_out (o := (zmr x)) (x := zcv x) (d := default) (V := fun r => ((AV.v (TV.one (At.bool r))), [])) (fun r => rfl) hp)
  · cases hp)
noncomputable def z18 : Nat → St → Option (Bool × LO)
  | 1, (St.mk [(0, (AV.v (TV.one (At.vw 0 0 an 1)))), (3, (AV.v (TV.one (At.sl 1 0 q2b 1)))), (4, (AV.v (TV.one (At.int IntKind.i64 i))))] [(Blk.mk Bool.false (Body.fl FloatKind.f32 b0)), (Blk.mk Bool.true (Body.fl FloatKind.f32 b1))]) => some ((zav an q2b b0 i b1), (LO.one (Ex.exit 0) (St.mk [(0, (AV.v (TV.one (At.vw 0 0 an 1)))), (3, (AV.v (TV.one (At.sl 1 0 q2b 1)))), (4, (AV.v (TV.one (At.int IntKind.i64 (zeq an q2b b0 i b1))))), (11, (AV.v (TV.one (At.bool (zez an q2b b0 i b1)))))] [(Blk.mk Bool.false (Body.fl FloatKind.f32 b0)), (Blk.mk Bool.true (Body.fl FloatKind.f32 (z9i an q2b b0 i b1)))])))
  | _, _ => none
def zdd (an : Nat) (q2b : Nat) (b0 : List Nat) : Option ((Int × Bool × (List Nat))) → Option (Ex × St)
  | none => none
  | some r => some ((Ex.exit 0), (St.mk [(0, (AV.v (TV.one (At.vw 0 0 an 1)))), (3, (AV.v (TV.one (At.sl 1 0 q2b 1)))), (4, (AV.v (TV.one (At.int IntKind.i64 r.1)))), (11, (AV.v (TV.one (At.bool r.2.1))))] [(Blk.mk Bool.false (Body.fl FloatKind.f32 b0)), (Blk.mk Bool.true (Body.fl FloatKind.f32 r.2.2))]))
def zo2 (an : Nat) (q2b : Nat) (b0 : List Nat) (x : Option ((Int × Bool × (List Nat)))) : LO := (LO.one (Ex.exit 0) (St.mk [(0, (AV.v (TV.one (At.vw 0 0 an 1)))), (3, (AV.v (TV.one (At.sl 1 0 q2b 1)))), (4, (AV.v (TV.one (At.int IntKind.i64 (x.getD default).1)))), (11, (AV.v (TV.one (At.bool (x.getD default).2.1))))] [(Blk.mk Bool.false (Body.fl FloatKind.f32 b0)), (Blk.mk Bool.true (Body.fl FloatKind.f32 (x.getD default).2.2))]))
theorem zp5 (an : Nat) (q2b : Nat) (b0 : List Nat) : ∀ x : Option ((Int × Bool × (List Nat))), x.isSome = true → (zdd an q2b b0) x = some (pick (zo2 an q2b b0 x))
  | none, h => by cases h
  | some r, _ => rfl
theorem zot (an : Nat) (q2b : Nat) (i : Int) (b0 : List Nat) (b1 : List Nat) (K : Ex → St → Option (Ex × St)) : evC (R := Ex × St) Γ1 (evFn Γ1 8 8) 166 1 fi166.nt fi166.live fi166.nl 8 (findL 3 (loopsIn fi166.code)) (St.mk [(0, (AV.v (TV.one (At.vw 0 0 an 1)))), (3, (AV.v (TV.one (At.sl 1 0 q2b 1)))), (4, (AV.v (TV.one (At.int IntKind.i64 i))))] [(Blk.mk Bool.false (Body.fl FloatKind.f32 b0)), (Blk.mk Bool.true (Body.fl FloatKind.f32 b1))]) K = z78 an q2b b0 i b1 (fun i' b1' => K .normal (St.mk [(0, (AV.v (TV.one (At.vw 0 0 an 1)))), (3, (AV.v (TV.one (At.sl 1 0 q2b 1)))), (4, (AV.v (TV.one (At.int IntKind.i64 i'))))] [(Blk.mk Bool.false (Body.fl FloatKind.f32 b0)), (Blk.mk Bool.true (Body.fl FloatKind.f32 b1'))])) (fun c0_ c1_ c2_ => K (Ex.exit 0) (St.mk [(0, (AV.v (TV.one (At.vw 0 0 an 1)))), (3, (AV.v (TV.one (At.sl 1 0 q2b 1)))), (4, (AV.v (TV.one (At.int IntKind.i64 c0_)))), (11, (AV.v (TV.one (At.bool c1_))))] [(Blk.mk Bool.false (Body.fl FloatKind.f32 b0)), (Blk.mk Bool.true (Body.fl FloatKind.f32 c2_))])) := by kernel_rfl
theorem zou (an : Nat) (q2b : Nat) (b0 : List Nat) : ∀ (n : Nat) (i : Int) (b1 : List Nat), iter 166 3 1 (evC (R := Ex × St) Γ1 (evFn Γ1 8 8) 166 1 fi166.nt fi166.live fi166.nl 8 (findL 3 (loopsIn fi166.code))) n (St.mk [(0, (AV.v (TV.one (At.vw 0 0 an 1)))), (3, (AV.v (TV.one (At.sl 1 0 q2b 1)))), (4, (AV.v (TV.one (At.int IntKind.i64 i))))] [(Blk.mk Bool.false (Body.fl FloatKind.f32 b0)), (Blk.mk Bool.true (Body.fl FloatKind.f32 b1))]) (fun e st => some (e, st)) = (zdd an q2b b0) (z5o an q2b b0 n i b1) := by
  intro n
  induction n with
  | zero => intros; rfl
  | succ n ih =>
    intro i b1
    refine Eq.trans (iter_succ ..) (Eq.trans (zot an q2b i b0 b1 (nextK 166 3 1 (evC (R := Ex × St) Γ1 (evFn Γ1 8 8) 166 1 fi166.nt fi166.live fi166.nl 8 (findL 3 (loopsIn fi166.code))) n (fun e st => some (e, st)))) (Eq.trans ?_ (zlx (zdd an q2b b0) rfl an q2b b0 i b1 (fun i' b1' => z5o an q2b b0 n i' b1') (fun c0_ c1_ c2_ => some (c0_, c1_, c2_)))))
    exact congrArg (fun kn_ => z78 an q2b b0 i b1 kn_ (fun c0_ c1_ c2_ => (zdd an q2b b0) (some (c0_, c1_, c2_)))) (funext fun i' => funext fun b1' => ih i' b1')
theorem z12 : LoopOne Try.prog fnTab 166 3 z18 := lp_of (Γ := Γ1) tyTab_ok (FnL.ok fnTab_ok _ _) (LpL.ok lt1_ok) (SumL.ok tb1_ok _) mixed (fi := fi166) (by kernel_rfl) (by kernel_rfl) (by
  intro lo st out hp
  unfold z18 at hp
  split at hp
  · rename_i an q2b i b0 b1
    injection hp with hp
    injection hp with h1 h2
    subst h2
    exact ⟨8, 8, big, Eq.trans (zou an q2b b0 big i b1) (zp5 an q2b b0 (z5o an q2b b0 big i b1) h1)⟩
  · cases hp)
noncomputable def tb2 : List (Nat × (List PT → Option (Bool × AV × List Blk))) := [(156, z0s), (181, z19), (182, z21), (189, z20), (26, z2s), (55, z2b), (84, z0x), (89, z3w), (102, z64), (112, z1y), (114, z3f), (115, z2c), (123, z2u), (126, z4l), (157, z65), (160, z1x), (162, z4h), (167, z2a), (175, z3x), (176, z1o), (187, z29), (74, z3n), (83, z0w), (85, z4a), (90, z3o), (103, z49), (111, z2p), (116, z32), (131, z2n), (138, z33), (148, z1v), (150, z16), (169, z2o), (185, z34)]
noncomputable def lt2 : List ((Nat × Nat) × (Nat → St → Option (Bool × LO))) := [((166, 3), z18)]
noncomputable def Γ2 : Ctx := ⟨tyTab, fnTab, tblSum tb2, tblLp lt2⟩
theorem tb2_ok : SumL Try.prog tb2 := SumL.cons z0r (SumL.cons z13 (SumL.cons z1j (SumL.cons z1i (SumL.cons z27 (SumL.cons z1r (SumL.cons z0t (SumL.cons z30 (SumL.cons z4t (SumL.cons z1d (SumL.cons z2k (SumL.cons z1u (SumL.cons z28 (SumL.cons z3k (SumL.cons z4s (SumL.cons z1e (SumL.cons z3j (SumL.cons z1s (SumL.cons z31 (SumL.cons z14 (SumL.cons z1t (SumL.cons z2z (SumL.cons z0u (SumL.cons z3c (SumL.cons z2v (SumL.cons z3b (SumL.cons z25 (SumL.cons z2j (SumL.cons z26 (SumL.cons z2g (SumL.cons z1b (SumL.cons z11 (SumL.cons z23 (SumL.cons z2h (SumL.nil))))))))))))))))))))))))))))))))))
theorem lt2_ok : LpL Try.prog fnTab lt2 := LpL.cons z12 (LpL.nil)
noncomputable def z41 : List PT → Option (Bool × AV × List Blk)
  | [.agg [.row 1 q0k (.fl .f32 q0p), .row 1 q0m (.fl .f32 q0t), .row 1 q0l (.fl .f32 q0s), .row 3 q11 (.fl .f32 q1b), .s (.int .i64 q1o), .s (.flt .f32 q20), .s (.flt .f32 q1z)], .one (.s (.int .i64 q25))] => some ((zhg q0k q0p q0m q0t q0l q0s q11 q1b q1o q20 q1z q25), ((AV.v (TV.one (At.int IntKind.i64 (zg0 q0k q0p q0m q0t q0l q0s q11 q1b q1o q20 q1z q25)))), []))
  | _ => none
def zo5 (q0k : Nat) (q0p : List Nat) (q0m : Nat) (q0t : List Nat) (q0l : Nat) (q0s : List Nat) (q11 : Nat) (q1b : List Nat) (q1o : Int) (q20 : Nat) (q1z : Nat) (q25 : Int) : Option (Int) → Option (AV × List Blk)
  | some r => some ((AV.v (TV.one (At.int IntKind.i64 r))), [])
  | none => none
theorem ztd (q0k : Nat) (q0p : List Nat) (q0m : Nat) (q0t : List Nat) (q0l : Nat) (q0s : List Nat) (q11 : Nat) (q1b : List Nat) (q1o : Int) (q20 : Nat) (q1z : Nat) (q25 : Int) : evFn Γ2 8 8 52 (impTs 0 [.agg [.row 1 q0k (.fl .f32 q0p), .row 1 q0m (.fl .f32 q0t), .row 1 q0l (.fl .f32 q0s), .row 3 q11 (.fl .f32 q1b), .s (.int .i64 q1o), .s (.flt .f32 q20), .s (.flt .f32 q1z)], .one (.s (.int .i64 q25))]).1 (impTs 0 [.agg [.row 1 q0k (.fl .f32 q0p), .row 1 q0m (.fl .f32 q0t), .row 1 q0l (.fl .f32 q0s), .row 3 q11 (.fl .f32 q1b), .s (.int .i64 q1o), .s (.flt .f32 q20), .s (.flt .f32 q1z)], .one (.s (.int .i64 q25))]).2 (expo (impTs 0 [.agg [.row 1 q0k (.fl .f32 q0p), .row 1 q0m (.fl .f32 q0t), .row 1 q0l (.fl .f32 q0s), .row 3 q11 (.fl .f32 q1b), .s (.int .i64 q1o), .s (.flt .f32 q20), .s (.flt .f32 q1z)], .one (.s (.int .i64 q25))]).2.length) = zdx q0k q0p q0m q0t q0l q0s q11 q1b q1o q20 q1z q25 (fun c0_ => some ((AV.v (TV.one (At.int IntKind.i64 c0_))), [])) := by kernel_rfl
theorem z37 : SumOne Try.prog 52 z41 := sum_of (Γ := Γ2) (fuel := 8) (d := 8) tyTab_ok (FnL.ok fnTab_ok _ _) (LpL.ok lt2_ok) (SumL.ok tb2_ok _) mixed (by
  intro pts v news hp hc
  clear hc
  unfold z41 at hp
  split at hp
  · rename_i q0k q0p q0m q0t q0l q0s q11 q1b q1o q20 q1z q25
    exact Eq.trans (Eq.trans (ztd q0k q0p q0m q0t q0l q0s q11 q1b q1o q20 q1z q25) (zq6 (zo5 q0k q0p q0m q0t q0l q0s q11 q1b q1o q20 q1z q25) rfl q0k q0p q0m q0t q0l q0s q11 q1b q1o q20 q1z q25 (fun c0_ => some c0_))) (fin_out (o := (zo5 q0k q0p q0m q0t q0l q0s q11 q1b q1o q20 q1z q25)) (x := zdn q0k q0p q0m q0t q0l q0s q11 q1b q1o q20 q1z q25) (d := default) (V := fun r => ((AV.v (TV.one (At.int IntKind.i64 r))), [])) (fun r => rfl) hp)
  · cases hp)
noncomputable def z2m : List PT → Option (Bool × AV × List Blk)
  | [.one (.s (.flt .f32 x))] => some ((zgx x), ((AV.v (TV.one (At.bool (zfy x)))), []))
  | _ => none
def zl5 (x : Nat) : Option (Bool) → Option (AV × List Blk)
  | some r => some ((AV.v (TV.one (At.bool r))), [])
  | none => none
theorem zrg (x : Nat) : evFn Γ2 8 8 154 (impTs 0 [.one (.s (.flt .f32 x))]).1 (impTs 0 [.one (.s (.flt .f32 x))]).2 (expo (impTs 0 [.one (.s (.flt .f32 x))]).2.length) = zbi x (fun c0_ => some ((AV.v (TV.one (At.bool c0_))), [])) := by kernel_rfl
theorem z22 : SumOne Try.prog 154 z2m := sum_of (Γ := Γ2) (fuel := 8) (d := 8) tyTab_ok (FnL.ok fnTab_ok _ _) (LpL.ok lt2_ok) (SumL.ok tb2_ok _) mixed (by
  intro pts v news hp hc
  clear hc
  unfold z2m at hp
  split at hp
  · rename_i x
    exact Eq.trans (Eq.trans (zrg x) (zns (zl5 x) rfl x (fun c0_ => some c0_))) (fin_out (o := (zl5 x)) (x := zb5 x) (d := default) (V := fun r => ((AV.v (TV.one (At.bool r))), [])) (fun r => rfl) hp)
  · cases hp)
noncomputable def z5k : List PT → Option (Bool × AV × List Blk)
  | [.one (.s (.flt .f64 x))] => some ((zkj x), ((AV.v (TV.one (At.flt FloatKind.f64 (zd2 x)))), []))
  | _ => none
def zq4 (x : Nat) : Option (Nat) → Option (AV × List Blk)
  | some r => some ((AV.v (TV.one (At.flt FloatKind.f64 r))), [])
  | none => none
theorem zu8 (x : Nat) : evFn Γ2 8 8 158 (impTs 0 [.one (.s (.flt .f64 x))]).1 (impTs 0 [.one (.s (.flt .f64 x))]).2 (expo (impTs 0 [.one (.s (.flt .f64 x))]).2.length) = zhf x (fun c0_ => some ((AV.v (TV.one (At.flt FloatKind.f64 c0_))), [])) := by kernel_rfl
theorem z48 : SumOne Try.prog 158 z5k := sum_of (Γ := Γ2) (fuel := 8) (d := 8) tyTab_ok (FnL.ok fnTab_ok _ _) (LpL.ok lt2_ok) (SumL.ok tb2_ok _) mixed (by
  intro pts v news hp hc
  clear hc
  unfold z5k at hp
  split at hp
  · rename_i x
    exact Eq.trans (Eq.trans (zu8 x) (zs7 (zq4 x) rfl x (fun c0_ => some c0_))) (fin_out (o := (zq4 x)) (x := zh4 x) (d := default) (V := fun r => ((AV.v (TV.one (At.flt FloatKind.f64 r))), [])) (fun r => rfl) hp)
  · cases hp)
noncomputable def z2l : List PT → Option (Bool × AV × List Blk)
  | [.one (.row 1 a_n (.fl .f32 a))] => some ((zbk a_n a), ((AV.v (TV.one (At.sl 0 0 (zac a_n a) 1))), [(Blk.mk Bool.true (Body.fl FloatKind.f32 (zah a_n a)))]))
  | _ => none
def zle (a_n : Nat) (a : List Nat) : Option (Nat × (List Nat)) → Option (AV × List Blk)
  | some r => some ((AV.v (TV.one (At.sl 0 0 r.1 1))), [(Blk.mk Bool.true (Body.fl FloatKind.f32 r.2))])
  | none => none
theorem zrf (a_n : Nat) (a : List Nat) : evFn Γ2 8 8 166 (impTs 0 [.one (.row 1 a_n (.fl .f32 a))]).1 (impTs 0 [.one (.row 1 a_n (.fl .f32 a))]).2 (expo (impTs 0 [.one (.row 1 a_n (.fl .f32 a))]).2.length) = zaz a_n a (fun c0_ c1_ => some ((AV.v (TV.one (At.sl 0 0 c0_ 1))), [(Blk.mk Bool.true (Body.fl FloatKind.f32 c1_))])) := by kernel_rfl
theorem z1z : SumOne Try.prog 166 z2l := sum_of (Γ := Γ2) (fuel := 8) (d := 8) tyTab_ok (FnL.ok fnTab_ok _ _) (LpL.ok lt2_ok) (SumL.ok tb2_ok _) mixed (by
  intro pts v news hp hc
  clear hc
  unfold z2l at hp
  split at hp
  · rename_i a_n a
    exact Eq.trans (Eq.trans (zrf a_n a) (znj (zle a_n a) rfl a_n a (fun c0_ c1_ => some (c0_, c1_)))) (fin_out (o := (zle a_n a)) (x := z9m a_n a) (d := default) (V := fun r => ((AV.v (TV.one (At.sl 0 0 r.1 1))), [(Blk.mk Bool.true (Body.fl FloatKind.f32 r.2))])) (fun r => rfl) hp)
  · cases hp)
noncomputable def z1g : Nat → St → Option (Bool × LO)
  | 1, (St.mk [(0, (AV.v (TV.one (At.vw 0 0 an 3)))), (3, (AV.v (TV.one (At.sl 1 0 q2b 3)))), (4, (AV.v (TV.one (At.int IntKind.i64 i))))] [(Blk.mk Bool.false (Body.fl FloatKind.f32 b0)), (Blk.mk Bool.true (Body.fl FloatKind.f32 b1))]) => some ((zap an q2b b0 i b1), (LO.one (Ex.exit 0) (St.mk [(0, (AV.v (TV.one (At.vw 0 0 an 3)))), (3, (AV.v (TV.one (At.sl 1 0 q2b 3)))), (4, (AV.v (TV.one (At.int IntKind.i64 (zf0 an q2b b0 i b1))))), (11, (AV.v (TV.one (At.bool (zem an q2b b0 i b1)))))] [(Blk.mk Bool.false (Body.fl FloatKind.f32 b0)), (Blk.mk Bool.true (Body.fl FloatKind.f32 (z9k an q2b b0 i b1)))])))
  | _, _ => none
def zdj (an : Nat) (q2b : Nat) (b0 : List Nat) : Option ((Int × Bool × (List Nat))) → Option (Ex × St)
  | none => none
  | some r => some ((Ex.exit 0), (St.mk [(0, (AV.v (TV.one (At.vw 0 0 an 3)))), (3, (AV.v (TV.one (At.sl 1 0 q2b 3)))), (4, (AV.v (TV.one (At.int IntKind.i64 r.1)))), (11, (AV.v (TV.one (At.bool r.2.1))))] [(Blk.mk Bool.false (Body.fl FloatKind.f32 b0)), (Blk.mk Bool.true (Body.fl FloatKind.f32 r.2.2))]))
def znt (an : Nat) (q2b : Nat) (b0 : List Nat) (x : Option ((Int × Bool × (List Nat)))) : LO := (LO.one (Ex.exit 0) (St.mk [(0, (AV.v (TV.one (At.vw 0 0 an 3)))), (3, (AV.v (TV.one (At.sl 1 0 q2b 3)))), (4, (AV.v (TV.one (At.int IntKind.i64 (x.getD default).1)))), (11, (AV.v (TV.one (At.bool (x.getD default).2.1))))] [(Blk.mk Bool.false (Body.fl FloatKind.f32 b0)), (Blk.mk Bool.true (Body.fl FloatKind.f32 (x.getD default).2.2))]))
theorem zoc (an : Nat) (q2b : Nat) (b0 : List Nat) : ∀ x : Option ((Int × Bool × (List Nat))), x.isSome = true → (zdj an q2b b0) x = some (pick (znt an q2b b0 x))
  | none, h => by cases h
  | some r, _ => rfl
theorem zoq (an : Nat) (q2b : Nat) (i : Int) (b0 : List Nat) (b1 : List Nat) (K : Ex → St → Option (Ex × St)) : evC (R := Ex × St) Γ2 (evFn Γ2 8 8) 120 1 fi120.nt fi120.live fi120.nl 8 (findL 3 (loopsIn fi120.code)) (St.mk [(0, (AV.v (TV.one (At.vw 0 0 an 3)))), (3, (AV.v (TV.one (At.sl 1 0 q2b 3)))), (4, (AV.v (TV.one (At.int IntKind.i64 i))))] [(Blk.mk Bool.false (Body.fl FloatKind.f32 b0)), (Blk.mk Bool.true (Body.fl FloatKind.f32 b1))]) K = z77 an q2b b0 i b1 (fun i' b1' => K .normal (St.mk [(0, (AV.v (TV.one (At.vw 0 0 an 3)))), (3, (AV.v (TV.one (At.sl 1 0 q2b 3)))), (4, (AV.v (TV.one (At.int IntKind.i64 i'))))] [(Blk.mk Bool.false (Body.fl FloatKind.f32 b0)), (Blk.mk Bool.true (Body.fl FloatKind.f32 b1'))])) (fun c0_ c1_ c2_ => K (Ex.exit 0) (St.mk [(0, (AV.v (TV.one (At.vw 0 0 an 3)))), (3, (AV.v (TV.one (At.sl 1 0 q2b 3)))), (4, (AV.v (TV.one (At.int IntKind.i64 c0_)))), (11, (AV.v (TV.one (At.bool c1_))))] [(Blk.mk Bool.false (Body.fl FloatKind.f32 b0)), (Blk.mk Bool.true (Body.fl FloatKind.f32 c2_))])) := by kernel_rfl
theorem zoh (an : Nat) (q2b : Nat) (b0 : List Nat) : ∀ (n : Nat) (i : Int) (b1 : List Nat), iter 120 3 1 (evC (R := Ex × St) Γ2 (evFn Γ2 8 8) 120 1 fi120.nt fi120.live fi120.nl 8 (findL 3 (loopsIn fi120.code))) n (St.mk [(0, (AV.v (TV.one (At.vw 0 0 an 3)))), (3, (AV.v (TV.one (At.sl 1 0 q2b 3)))), (4, (AV.v (TV.one (At.int IntKind.i64 i))))] [(Blk.mk Bool.false (Body.fl FloatKind.f32 b0)), (Blk.mk Bool.true (Body.fl FloatKind.f32 b1))]) (fun e st => some (e, st)) = (zdj an q2b b0) (z3r an q2b b0 n i b1) := by
  intro n
  induction n with
  | zero => intros; rfl
  | succ n ih =>
    intro i b1
    refine Eq.trans (iter_succ ..) (Eq.trans (zoq an q2b i b0 b1 (nextK 120 3 1 (evC (R := Ex × St) Γ2 (evFn Γ2 8 8) 120 1 fi120.nt fi120.live fi120.nl 8 (findL 3 (loopsIn fi120.code))) n (fun e st => some (e, st)))) (Eq.trans ?_ (zlm (zdj an q2b b0) rfl an q2b b0 i b1 (fun i' b1' => z3r an q2b b0 n i' b1') (fun c0_ c1_ c2_ => some (c0_, c1_, c2_)))))
    exact congrArg (fun kn_ => z77 an q2b b0 i b1 kn_ (fun c0_ c1_ c2_ => (zdj an q2b b0) (some (c0_, c1_, c2_)))) (funext fun i' => funext fun b1' => ih i' b1')
theorem z17 : LoopOne Try.prog fnTab 120 3 z1g := lp_of (Γ := Γ2) tyTab_ok (FnL.ok fnTab_ok _ _) (LpL.ok lt2_ok) (SumL.ok tb2_ok _) mixed (fi := fi120) (by kernel_rfl) (by kernel_rfl) (by
  intro lo st out hp
  unfold z1g at hp
  split at hp
  · rename_i an q2b i b0 b1
    injection hp with hp
    injection hp with h1 h2
    subst h2
    exact ⟨8, 8, big, Eq.trans (zoh an q2b b0 big i b1) (zoc an q2b b0 (z3r an q2b b0 big i b1) h1)⟩
  · cases hp)
noncomputable def z1f : Nat → St → Option (Bool × LO)
  | 2, (St.mk [(0, (AV.v (TV.one (At.vw 0 0 an 1)))), (1, (AV.v (TV.one (At.vw 1 0 bn 1)))), (5, (AV.v (TV.one (At.int IntKind.i64 i))))] [(Blk.mk Bool.false (Body.fl FloatKind.f32 b0)), (Blk.mk Bool.false (Body.fl FloatKind.f32 b1))]) => some ((zda an bn b0 b1 i), (LO.two (zco an bn b0 b1 i) (LO.one Ex.ret (St.mk [(4, (AV.v (TV.one (At.bool Bool.false))))] [(Blk.mk Bool.false (Body.fl FloatKind.f32 b0)), (Blk.mk Bool.false (Body.fl FloatKind.f32 b1))])) (LO.one (Ex.exit 0) (St.mk [(0, (AV.v (TV.one (At.vw 0 0 an 1)))), (1, (AV.v (TV.one (At.vw 1 0 bn 1)))), (5, (AV.v (TV.one (At.int IntKind.i64 (zen an bn b0 b1 i))))), (14, (AV.v (TV.one (At.bool (zev an bn b0 b1 i)))))] [(Blk.mk Bool.false (Body.fl FloatKind.f32 b0)), (Blk.mk Bool.false (Body.fl FloatKind.f32 b1))]))))
  | _, _ => none
def zat (an : Nat) (bn : Nat) (b0 : List Nat) (b1 : List Nat) : Option ((Unit) ⊕ (Int × Bool)) → Option (Ex × St)
  | none => none
  | some (Sum.inl r) => some (Ex.ret, (St.mk [(4, (AV.v (TV.one (At.bool Bool.false))))] [(Blk.mk Bool.false (Body.fl FloatKind.f32 b0)), (Blk.mk Bool.false (Body.fl FloatKind.f32 b1))]))
  | some (Sum.inr r) => some ((Ex.exit 0), (St.mk [(0, (AV.v (TV.one (At.vw 0 0 an 1)))), (1, (AV.v (TV.one (At.vw 1 0 bn 1)))), (5, (AV.v (TV.one (At.int IntKind.i64 r.1)))), (14, (AV.v (TV.one (At.bool r.2))))] [(Blk.mk Bool.false (Body.fl FloatKind.f32 b0)), (Blk.mk Bool.false (Body.fl FloatKind.f32 b1))]))
def znz (an : Nat) (bn : Nat) (b0 : List Nat) (b1 : List Nat) (x : Option ((Unit) ⊕ (Int × Bool))) : LO := (LO.two (oL x) (LO.one Ex.ret (St.mk [(4, (AV.v (TV.one (At.bool Bool.false))))] [(Blk.mk Bool.false (Body.fl FloatKind.f32 b0)), (Blk.mk Bool.false (Body.fl FloatKind.f32 b1))])) (LO.one (Ex.exit 0) (St.mk [(0, (AV.v (TV.one (At.vw 0 0 an 1)))), (1, (AV.v (TV.one (At.vw 1 0 bn 1)))), (5, (AV.v (TV.one (At.int IntKind.i64 ((tR x).getD default).1)))), (14, (AV.v (TV.one (At.bool ((tR x).getD default).2))))] [(Blk.mk Bool.false (Body.fl FloatKind.f32 b0)), (Blk.mk Bool.false (Body.fl FloatKind.f32 b1))])))
theorem zog (an : Nat) (bn : Nat) (b0 : List Nat) (b1 : List Nat) : ∀ x : Option ((Unit) ⊕ (Int × Bool)), x.isSome = true → (zat an bn b0 b1) x = some (pick (znz an bn b0 b1 x))
  | none, h => by cases h
  | some (Sum.inl r), _ => rfl
  | some (Sum.inr r), _ => rfl
theorem zok (an : Nat) (bn : Nat) (i : Int) (b0 : List Nat) (b1 : List Nat) (K : Ex → St → Option (Ex × St)) : evC (R := Ex × St) Γ2 (evFn Γ2 8 8) 168 2 fi168.nt fi168.live fi168.nl 8 (findL 4 (loopsIn fi168.code)) (St.mk [(0, (AV.v (TV.one (At.vw 0 0 an 1)))), (1, (AV.v (TV.one (At.vw 1 0 bn 1)))), (5, (AV.v (TV.one (At.int IntKind.i64 i))))] [(Blk.mk Bool.false (Body.fl FloatKind.f32 b0)), (Blk.mk Bool.false (Body.fl FloatKind.f32 b1))]) K = z79 an bn b0 b1 i (fun i' => K .normal (St.mk [(0, (AV.v (TV.one (At.vw 0 0 an 1)))), (1, (AV.v (TV.one (At.vw 1 0 bn 1)))), (5, (AV.v (TV.one (At.int IntKind.i64 i'))))] [(Blk.mk Bool.false (Body.fl FloatKind.f32 b0)), (Blk.mk Bool.false (Body.fl FloatKind.f32 b1))])) (fun _ => K Ex.ret (St.mk [(4, (AV.v (TV.one (At.bool Bool.false))))] [(Blk.mk Bool.false (Body.fl FloatKind.f32 b0)), (Blk.mk Bool.false (Body.fl FloatKind.f32 b1))])) (fun c0_ c1_ => K (Ex.exit 0) (St.mk [(0, (AV.v (TV.one (At.vw 0 0 an 1)))), (1, (AV.v (TV.one (At.vw 1 0 bn 1)))), (5, (AV.v (TV.one (At.int IntKind.i64 c0_)))), (14, (AV.v (TV.one (At.bool c1_))))] [(Blk.mk Bool.false (Body.fl FloatKind.f32 b0)), (Blk.mk Bool.false (Body.fl FloatKind.f32 b1))])) := by kernel_rfl
theorem zp6 (an : Nat) (bn : Nat) (b0 : List Nat) (b1 : List Nat) : ∀ (n : Nat) (i : Int), iter 168 4 2 (evC (R := Ex × St) Γ2 (evFn Γ2 8 8) 168 2 fi168.nt fi168.live fi168.nl 8 (findL 4 (loopsIn fi168.code))) n (St.mk [(0, (AV.v (TV.one (At.vw 0 0 an 1)))), (1, (AV.v (TV.one (At.vw 1 0 bn 1)))), (5, (AV.v (TV.one (At.int IntKind.i64 i))))] [(Blk.mk Bool.false (Body.fl FloatKind.f32 b0)), (Blk.mk Bool.false (Body.fl FloatKind.f32 b1))]) (fun e st => some (e, st)) = (zat an bn b0 b1) (z5n an bn b0 b1 n i) := by
  intro n
  induction n with
  | zero => intros; rfl
  | succ n ih =>
    intro i
    refine Eq.trans (iter_succ ..) (Eq.trans (zok an bn i b0 b1 (nextK 168 4 2 (evC (R := Ex × St) Γ2 (evFn Γ2 8 8) 168 2 fi168.nt fi168.live fi168.nl 8 (findL 4 (loopsIn fi168.code))) n (fun e st => some (e, st)))) (Eq.trans ?_ (zlo (zat an bn b0 b1) rfl an bn b0 b1 i (fun i' => z5n an bn b0 b1 n i') (fun _ => some (Sum.inl ())) (fun c0_ c1_ => some (Sum.inr (c0_, c1_))))))
    exact congrArg (fun kn_ => z79 an bn b0 b1 i kn_ (fun _ => (zat an bn b0 b1) (some (Sum.inl ()))) (fun c0_ c1_ => (zat an bn b0 b1) (some (Sum.inr (c0_, c1_))))) (funext fun i' => ih i')
theorem z15 : LoopOne Try.prog fnTab 168 4 z1f := lp_of (Γ := Γ2) tyTab_ok (FnL.ok fnTab_ok _ _) (LpL.ok lt2_ok) (SumL.ok tb2_ok _) mixed (fi := fi168) (by kernel_rfl) (by kernel_rfl) (by
  intro lo st out hp
  unfold z1f at hp
  split at hp
  · rename_i an bn i b0 b1
    injection hp with hp
    injection hp with h1 h2
    subst h2
    exact ⟨8, 8, big, Eq.trans (zp6 an bn b0 b1 big i) (zog an bn b0 b1 (z5n an bn b0 b1 big i) h1)⟩
  · cases hp)
noncomputable def z10 : Nat → St → Option (Bool × LO)
  | 0, (St.mk [(4, (AV.v (TV.one (At.bool t4)))), (5, (AV.v (TV.one (At.flt FloatKind.f64 t5)))), (6, (AV.v (TV.one (At.flt FloatKind.f64 t6)))), (7, (AV.v (TV.one (At.flt FloatKind.f64 t7)))), (8, (AV.v (TV.one (At.int IntKind.i64 t8))))] []) => some ((z4r t6 t7 t8), (LO.one (Ex.exit 0) (St.mk [(4, (AV.v (TV.one (At.bool t4)))), (5, (AV.v (TV.one (At.flt FloatKind.f64 t5)))), (6, (AV.v (TV.one (At.flt FloatKind.f64 t6)))), (7, (AV.v (TV.one (At.flt FloatKind.f64 (z0v t6 t7 t8))))), (8, (AV.v (TV.one (At.int IntKind.i64 (zdi t6 t7 t8))))), (44, (AV.v (TV.one (At.bool (zdb t6 t7 t8)))))] [])))
  | _, _ => none
def zci (t4 : Bool) (t5 : Nat) (t6 : Nat) : Option ((Nat × Int × Bool)) → Option (Ex × St)
  | none => none
  | some r => some ((Ex.exit 0), (St.mk [(4, (AV.v (TV.one (At.bool t4)))), (5, (AV.v (TV.one (At.flt FloatKind.f64 t5)))), (6, (AV.v (TV.one (At.flt FloatKind.f64 t6)))), (7, (AV.v (TV.one (At.flt FloatKind.f64 r.1)))), (8, (AV.v (TV.one (At.int IntKind.i64 r.2.1)))), (44, (AV.v (TV.one (At.bool r.2.2))))] []))
def zme (t4 : Bool) (t5 : Nat) (t6 : Nat) (x : Option ((Nat × Int × Bool))) : LO := (LO.one (Ex.exit 0) (St.mk [(4, (AV.v (TV.one (At.bool t4)))), (5, (AV.v (TV.one (At.flt FloatKind.f64 t5)))), (6, (AV.v (TV.one (At.flt FloatKind.f64 t6)))), (7, (AV.v (TV.one (At.flt FloatKind.f64 (x.getD default).1)))), (8, (AV.v (TV.one (At.int IntKind.i64 (x.getD default).2.1)))), (44, (AV.v (TV.one (At.bool (x.getD default).2.2))))] []))
theorem zn9 (t4 : Bool) (t5 : Nat) (t6 : Nat) : ∀ x : Option ((Nat × Int × Bool)), x.isSome = true → (zci t4 t5 t6) x = some (pick (zme t4 t5 t6 x))
  | none, h => by cases h
  | some r, _ => rfl
theorem zn4 (t4 : Bool) (t5 : Nat) (t6 : Nat) (t7 : Nat) (t8 : Int) (K : Ex → St → Option (Ex × St)) : evC (R := Ex × St) Γ2 (evFn Γ2 8 8) 188 0 fi188.nt fi188.live fi188.nl 8 (findL 17 (loopsIn fi188.code)) (St.mk [(4, (AV.v (TV.one (At.bool t4)))), (5, (AV.v (TV.one (At.flt FloatKind.f64 t5)))), (6, (AV.v (TV.one (At.flt FloatKind.f64 t6)))), (7, (AV.v (TV.one (At.flt FloatKind.f64 t7)))), (8, (AV.v (TV.one (At.int IntKind.i64 t8))))] []) K = z6o t6 t7 t8 (fun t7' t8' => K .normal (St.mk [(4, (AV.v (TV.one (At.bool t4)))), (5, (AV.v (TV.one (At.flt FloatKind.f64 t5)))), (6, (AV.v (TV.one (At.flt FloatKind.f64 t6)))), (7, (AV.v (TV.one (At.flt FloatKind.f64 t7')))), (8, (AV.v (TV.one (At.int IntKind.i64 t8'))))] [])) (fun c0_ c1_ c2_ => K (Ex.exit 0) (St.mk [(4, (AV.v (TV.one (At.bool t4)))), (5, (AV.v (TV.one (At.flt FloatKind.f64 t5)))), (6, (AV.v (TV.one (At.flt FloatKind.f64 t6)))), (7, (AV.v (TV.one (At.flt FloatKind.f64 c0_)))), (8, (AV.v (TV.one (At.int IntKind.i64 c1_)))), (44, (AV.v (TV.one (At.bool c2_))))] [])) := by kernel_rfl
theorem zmw (t4 : Bool) (t5 : Nat) (t6 : Nat) : ∀ (n : Nat) (t7 : Nat) (t8 : Int), iter 188 17 0 (evC (R := Ex × St) Γ2 (evFn Γ2 8 8) 188 0 fi188.nt fi188.live fi188.nl 8 (findL 17 (loopsIn fi188.code))) n (St.mk [(4, (AV.v (TV.one (At.bool t4)))), (5, (AV.v (TV.one (At.flt FloatKind.f64 t5)))), (6, (AV.v (TV.one (At.flt FloatKind.f64 t6)))), (7, (AV.v (TV.one (At.flt FloatKind.f64 t7)))), (8, (AV.v (TV.one (At.int IntKind.i64 t8))))] []) (fun e st => some (e, st)) = (zci t4 t5 t6) (z3g t6 n t7 t8) := by
  intro n
  induction n with
  | zero => intros; rfl
  | succ n ih =>
    intro t7 t8
    refine Eq.trans (iter_succ ..) (Eq.trans (zn4 t4 t5 t6 t7 t8 (nextK 188 17 0 (evC (R := Ex × St) Γ2 (evFn Γ2 8 8) 188 0 fi188.nt fi188.live fi188.nl 8 (findL 17 (loopsIn fi188.code))) n (fun e st => some (e, st)))) (Eq.trans ?_ (zl1 (zci t4 t5 t6) rfl t6 t7 t8 (fun t7' t8' => z3g t6 n t7' t8') (fun c0_ c1_ c2_ => some (c0_, c1_, c2_)))))
    exact congrArg (fun kn_ => z6o t6 t7 t8 kn_ (fun c0_ c1_ c2_ => (zci t4 t5 t6) (some (c0_, c1_, c2_)))) (funext fun t7' => funext fun t8' => ih t7' t8')
theorem z0y : LoopOne Try.prog fnTab 188 17 z10 := lp_of (Γ := Γ2) tyTab_ok (FnL.ok fnTab_ok _ _) (LpL.ok lt2_ok) (SumL.ok tb2_ok _) mixed (fi := fi188) (by kernel_rfl) (by kernel_rfl) (by
  intro lo st out hp
  unfold z10 at hp
  split at hp
  · rename_i t4 t5 t6 t7 t8
    injection hp with hp
    injection hp with h1 h2
    subst h2
    exact ⟨8, 8, big, Eq.trans (zmw t4 t5 t6 big t7 t8) (zn9 t4 t5 t6 (z3g t6 big t7 t8) h1)⟩
  · cases hp)
noncomputable def tb3 : List (Nat × (List PT → Option (Bool × AV × List Blk))) := [(156, z0s), (181, z19), (182, z21), (189, z20), (26, z2s), (55, z2b), (84, z0x), (89, z3w), (102, z64), (112, z1y), (114, z3f), (115, z2c), (123, z2u), (126, z4l), (157, z65), (160, z1x), (162, z4h), (167, z2a), (175, z3x), (176, z1o), (187, z29), (74, z3n), (83, z0w), (85, z4a), (90, z3o), (103, z49), (111, z2p), (116, z32), (131, z2n), (138, z33), (148, z1v), (150, z16), (169, z2o), (185, z34), (52, z41), (154, z2m), (158, z5k), (166, z2l)]
noncomputable def lt3 : List ((Nat × Nat) × (Nat → St → Option (Bool × LO))) := [((166, 3), z18), ((120, 3), z1g), ((168, 4), z1f), ((188, 17), z10)]
noncomputable def Γ3 : Ctx := ⟨tyTab, fnTab, tblSum tb3, tblLp lt3⟩
theorem tb3_ok : SumL Try.prog tb3 := SumL.cons z0r (SumL.cons z13 (SumL.cons z1j (SumL.cons z1i (SumL.cons z27 (SumL.cons z1r (SumL.cons z0t (SumL.cons z30 (SumL.cons z4t (SumL.cons z1d (SumL.cons z2k (SumL.cons z1u (SumL.cons z28 (SumL.cons z3k (SumL.cons z4s (SumL.cons z1e (SumL.cons z3j (SumL.cons z1s (SumL.cons z31 (SumL.cons z14 (SumL.cons z1t (SumL.cons z2z (SumL.cons z0u (SumL.cons z3c (SumL.cons z2v (SumL.cons z3b (SumL.cons z25 (SumL.cons z2j (SumL.cons z26 (SumL.cons z2g (SumL.cons z1b (SumL.cons z11 (SumL.cons z23 (SumL.cons z2h (SumL.cons z37 (SumL.cons z22 (SumL.cons z48 (SumL.cons z1z (SumL.nil))))))))))))))))))))))))))))))))))))))
theorem lt3_ok : LpL Try.prog fnTab lt3 := LpL.cons z12 (LpL.cons z17 (LpL.cons z15 (LpL.cons z0y (LpL.nil))))
noncomputable def z2w : List PT → Option (Bool × AV × List Blk)
  | [.one (.s (.flt .f64 q29))] => some ((zh0 q29), ((AV.v (TV.one (At.flt FloatKind.f64 (z0z q29)))), []))
  | _ => none
def zlg (q29 : Nat) : Option (Nat) → Option (AV × List Blk)
  | some r => some ((AV.v (TV.one (At.flt FloatKind.f64 r))), [])
  | none => none
theorem zr1 (q29 : Nat) : evFn Γ3 8 8 104 (impTs 0 [.one (.s (.flt .f64 q29))]).1 (impTs 0 [.one (.s (.flt .f64 q29))]).2 (expo (impTs 0 [.one (.s (.flt .f64 q29))]).2.length) = zbe q29 (fun c0_ => some ((AV.v (TV.one (At.flt FloatKind.f64 c0_))), [])) := by kernel_rfl
theorem z2d : SumOne Try.prog 104 z2w := sum_of (Γ := Γ3) (fuel := 8) (d := 8) tyTab_ok (FnL.ok fnTab_ok _ _) (LpL.ok lt3_ok) (SumL.ok tb3_ok _) mixed (by
  intro pts v news hp hc
  clear hc
  unfold z2w at hp
  split at hp
  · rename_i q29
    exact Eq.trans (Eq.trans (zr1 q29) (zo6 (zlg q29) rfl q29 (fun c0_ => some c0_))) (fin_out (o := (zlg q29)) (x := zb0 q29) (d := default) (V := fun r => ((AV.v (TV.one (At.flt FloatKind.f64 r))), [])) (fun r => rfl) hp)
  · cases hp)
noncomputable def z3d : List PT → Option (Bool × AV × List Blk)
  | [.agg [.row 1 q17 (.fl .f32 q1n), .row 1 q1d (.fl .f32 q1p), .row 1 q1g (.fl .f32 q1r)]] => some ((zi6 q17 q1n q1d q1p q1g q1r), ((AV.v (TV.agg [(At.sl 0 0 (zgp q17 q1n q1d q1p q1g q1r) 1), (At.sl 1 0 (zgm q17 q1n q1d q1p q1g q1r) 1), (At.sl 2 0 (zgt q17 q1n q1d q1p q1g q1r) 1)])), [(Blk.mk Bool.true (Body.fl FloatKind.f32 (zgn q17 q1n q1d q1p q1g q1r))), (Blk.mk Bool.true (Body.fl FloatKind.f32 (zgq q17 q1n q1d q1p q1g q1r))), (Blk.mk Bool.true (Body.fl FloatKind.f32 (zgh q17 q1n q1d q1p q1g q1r)))]))
  | _ => none
def zm2 (q17 : Nat) (q1n : List Nat) (q1d : Nat) (q1p : List Nat) (q1g : Nat) (q1r : List Nat) : Option (Nat × Nat × Nat × (List Nat) × (List Nat) × (List Nat)) → Option (AV × List Blk)
  | some r => some ((AV.v (TV.agg [(At.sl 0 0 r.1 1), (At.sl 1 0 r.2.1 1), (At.sl 2 0 r.2.2.1 1)])), [(Blk.mk Bool.true (Body.fl FloatKind.f32 r.2.2.2.1)), (Blk.mk Bool.true (Body.fl FloatKind.f32 r.2.2.2.2.1)), (Blk.mk Bool.true (Body.fl FloatKind.f32 r.2.2.2.2.2))])
  | none => none
theorem zs1 (q17 : Nat) (q1n : List Nat) (q1d : Nat) (q1p : List Nat) (q1g : Nat) (q1r : List Nat) : evFn Γ3 8 8 119 (impTs 0 [.agg [.row 1 q17 (.fl .f32 q1n), .row 1 q1d (.fl .f32 q1p), .row 1 q1g (.fl .f32 q1r)]]).1 (impTs 0 [.agg [.row 1 q17 (.fl .f32 q1n), .row 1 q1d (.fl .f32 q1p), .row 1 q1g (.fl .f32 q1r)]]).2 (expo (impTs 0 [.agg [.row 1 q17 (.fl .f32 q1n), .row 1 q1d (.fl .f32 q1p), .row 1 q1g (.fl .f32 q1r)]]).2.length) = zc9 q17 q1n q1d q1p q1g q1r (fun c0_ c1_ c2_ c3_ c4_ c5_ => some ((AV.v (TV.agg [(At.sl 0 0 c0_ 1), (At.sl 1 0 c1_ 1), (At.sl 2 0 c2_ 1)])), [(Blk.mk Bool.true (Body.fl FloatKind.f32 c3_)), (Blk.mk Bool.true (Body.fl FloatKind.f32 c4_)), (Blk.mk Bool.true (Body.fl FloatKind.f32 c5_))])) := by kernel_rfl
theorem z2q : SumOne Try.prog 119 z3d := sum_of (Γ := Γ3) (fuel := 8) (d := 8) tyTab_ok (FnL.ok fnTab_ok _ _) (LpL.ok lt3_ok) (SumL.ok tb3_ok _) mixed (by
  intro pts v news hp hc
  clear hc
  unfold z3d at hp
  split at hp
  · rename_i q17 q1n q1d q1p q1g q1r
    exact Eq.trans (Eq.trans (zs1 q17 q1n q1d q1p q1g q1r) (zoy (zm2 q17 q1n q1d q1p q1g q1r) rfl q17 q1n q1d q1p q1g q1r (fun c0_ c1_ c2_ c3_ c4_ c5_ => some (c0_, c1_, c2_, c3_, c4_, c5_)))) (fin_out (o := (zm2 q17 q1n q1d q1p q1g q1r)) (x := z7i q17 q1n q1d q1p q1g q1r) (d := default) (V := fun r => ((AV.v (TV.agg [(At.sl 0 0 r.1 1), (At.sl 1 0 r.2.1 1), (At.sl 2 0 r.2.2.1 1)])), [(Blk.mk Bool.true (Body.fl FloatKind.f32 r.2.2.2.1)), (Blk.mk Bool.true (Body.fl FloatKind.f32 r.2.2.2.2.1)), (Blk.mk Bool.true (Body.fl FloatKind.f32 r.2.2.2.2.2))])) (fun r => rfl) hp)
  · cases hp)
noncomputable def z2x : List PT → Option (Bool × AV × List Blk)
  | [.one (.row 3 a_n (.fl .f32 a))] => some ((zgk a_n a), ((AV.v (TV.one (At.sl 0 0 (zfw a_n a) 3))), [(Blk.mk Bool.true (Body.fl FloatKind.f32 (zfm a_n a)))]))
  | _ => none
def zld (a_n : Nat) (a : List Nat) : Option (Nat × (List Nat)) → Option (AV × List Blk)
  | some r => some ((AV.v (TV.one (At.sl 0 0 r.1 3))), [(Blk.mk Bool.true (Body.fl FloatKind.f32 r.2))])
  | none => none
theorem zqy (a_n : Nat) (a : List Nat) : evFn Γ3 8 8 120 (impTs 0 [.one (.row 3 a_n (.fl .f32 a))]).1 (impTs 0 [.one (.row 3 a_n (.fl .f32 a))]).2 (expo (impTs 0 [.one (.row 3 a_n (.fl .f32 a))]).2.length) = zbd a_n a (fun c0_ c1_ => some ((AV.v (TV.one (At.sl 0 0 c0_ 3))), [(Blk.mk Bool.true (Body.fl FloatKind.f32 c1_))])) := by kernel_rfl
theorem z2e : SumOne Try.prog 120 z2x := sum_of (Γ := Γ3) (fuel := 8) (d := 8) tyTab_ok (FnL.ok fnTab_ok _ _) (LpL.ok lt3_ok) (SumL.ok tb3_ok _) mixed (by
  intro pts v news hp hc
  clear hc
  unfold z2x at hp
  split at hp
  · rename_i a_n a
    exact Eq.trans (Eq.trans (zqy a_n a) (znc (zld a_n a) rfl a_n a (fun c0_ c1_ => some (c0_, c1_)))) (fin_out (o := (zld a_n a)) (x := z9o a_n a) (d := default) (V := fun r => ((AV.v (TV.one (At.sl 0 0 r.1 3))), [(Blk.mk Bool.true (Body.fl FloatKind.f32 r.2))])) (fun r => rfl) hp)
  · cases hp)
noncomputable def z2y : List PT → Option (Bool × AV × List Blk)
  | [.one (.row 1 a_n (.fl .f32 a)), .one (.row 1 b_n (.fl .f32 b))] => some ((zbg a_n a b_n b), ((AV.v (TV.one (At.bool (zaa a_n a b_n b)))), []))
  | _ => none
def zl9 (a_n : Nat) (a : List Nat) (b_n : Nat) (b : List Nat) : Option (Bool) → Option (AV × List Blk)
  | some r => some ((AV.v (TV.one (At.bool r))), [])
  | none => none
theorem zqv (a_n : Nat) (a : List Nat) (b_n : Nat) (b : List Nat) : evFn Γ3 8 8 168 (impTs 0 [.one (.row 1 a_n (.fl .f32 a)), .one (.row 1 b_n (.fl .f32 b))]).1 (impTs 0 [.one (.row 1 a_n (.fl .f32 a)), .one (.row 1 b_n (.fl .f32 b))]).2 (expo (impTs 0 [.one (.row 1 a_n (.fl .f32 a)), .one (.row 1 b_n (.fl .f32 b))]).2.length) = zb6 a_n a b_n b (fun c0_ => some ((AV.v (TV.one (At.bool c0_))), [])) := by kernel_rfl
theorem z2f : SumOne Try.prog 168 z2y := sum_of (Γ := Γ3) (fuel := 8) (d := 8) tyTab_ok (FnL.ok fnTab_ok _ _) (LpL.ok lt3_ok) (SumL.ok tb3_ok _) mixed (by
  intro pts v news hp hc
  clear hc
  unfold z2y at hp
  split at hp
  · rename_i a_n a b_n b
    exact Eq.trans (Eq.trans (zqv a_n a b_n b) (zo8 (zl9 a_n a b_n b) rfl a_n a b_n b (fun c0_ => some c0_))) (fin_out (o := (zl9 a_n a b_n b)) (x := zbl a_n a b_n b) (d := default) (V := fun r => ((AV.v (TV.one (At.bool r))), [])) (fun r => rfl) hp)
  · cases hp)
noncomputable def z2i : List PT → Option (Bool × AV × List Blk)
  | [.one (.s (.flt .f64 q16))] => some ((zfk q16), ((AV.v (TV.one (At.flt FloatKind.f64 (zbr q16)))), []))
  | _ => none
def zky (q16 : Nat) : Option (Nat) → Option (AV × List Blk)
  | some r => some ((AV.v (TV.one (At.flt FloatKind.f64 r))), [])
  | none => none
theorem zpy (q16 : Nat) : evFn Γ3 8 8 188 (impTs 0 [.one (.s (.flt .f64 q16))]).1 (impTs 0 [.one (.s (.flt .f64 q16))]).2 (expo (impTs 0 [.one (.s (.flt .f64 q16))]).2.length) = z8f q16 (fun c0_ => some ((AV.v (TV.one (At.flt FloatKind.f64 c0_))), [])) := by kernel_rfl
theorem z24 : SumOne Try.prog 188 z2i := sum_of (Γ := Γ3) (fuel := 8) (d := 8) tyTab_ok (FnL.ok fnTab_ok _ _) (LpL.ok lt3_ok) (SumL.ok tb3_ok _) mixed (by
  intro pts v news hp hc
  clear hc
  unfold z2i at hp
  split at hp
  · rename_i q16
    exact Eq.trans (Eq.trans (zpy q16) (zmz (zky q16) rfl q16 (fun c0_ => some c0_))) (fin_out (o := (zky q16)) (x := z7y q16) (d := default) (V := fun r => ((AV.v (TV.one (At.flt FloatKind.f64 r))), [])) (fun r => rfl) hp)
  · cases hp)
noncomputable def z1p : Nat → St → Option (Bool × LO)
  | 2, (St.mk [(0, (AV.v (TV.one (At.vw 0 0 an 3)))), (1, (AV.v (TV.one (At.vw 1 0 bn 3)))), (5, (AV.v (TV.one (At.int IntKind.i64 i))))] [(Blk.mk Bool.false (Body.fl FloatKind.f32 b0)), (Blk.mk Bool.false (Body.fl FloatKind.f32 b1))]) => some ((zaw an bn b0 b1 i), (LO.two (zam an bn b0 b1 i) (LO.one Ex.ret (St.mk [(4, (AV.v (TV.one (At.bool Bool.false))))] [(Blk.mk Bool.false (Body.fl FloatKind.f32 b0)), (Blk.mk Bool.false (Body.fl FloatKind.f32 b1))])) (LO.one (Ex.exit 0) (St.mk [(0, (AV.v (TV.one (At.vw 0 0 an 3)))), (1, (AV.v (TV.one (At.vw 1 0 bn 3)))), (5, (AV.v (TV.one (At.int IntKind.i64 (zel an bn b0 b1 i))))), (14, (AV.v (TV.one (At.bool (zer an bn b0 b1 i)))))] [(Blk.mk Bool.false (Body.fl FloatKind.f32 b0)), (Blk.mk Bool.false (Body.fl FloatKind.f32 b1))]))))
  | _, _ => none
def zas (an : Nat) (bn : Nat) (b0 : List Nat) (b1 : List Nat) : Option ((Unit) ⊕ (Int × Bool)) → Option (Ex × St)
  | none => none
  | some (Sum.inl r) => some (Ex.ret, (St.mk [(4, (AV.v (TV.one (At.bool Bool.false))))] [(Blk.mk Bool.false (Body.fl FloatKind.f32 b0)), (Blk.mk Bool.false (Body.fl FloatKind.f32 b1))]))
  | some (Sum.inr r) => some ((Ex.exit 0), (St.mk [(0, (AV.v (TV.one (At.vw 0 0 an 3)))), (1, (AV.v (TV.one (At.vw 1 0 bn 3)))), (5, (AV.v (TV.one (At.int IntKind.i64 r.1)))), (14, (AV.v (TV.one (At.bool r.2))))] [(Blk.mk Bool.false (Body.fl FloatKind.f32 b0)), (Blk.mk Bool.false (Body.fl FloatKind.f32 b1))]))
def znq (an : Nat) (bn : Nat) (b0 : List Nat) (b1 : List Nat) (x : Option ((Unit) ⊕ (Int × Bool))) : LO := (LO.two (oL x) (LO.one Ex.ret (St.mk [(4, (AV.v (TV.one (At.bool Bool.false))))] [(Blk.mk Bool.false (Body.fl FloatKind.f32 b0)), (Blk.mk Bool.false (Body.fl FloatKind.f32 b1))])) (LO.one (Ex.exit 0) (St.mk [(0, (AV.v (TV.one (At.vw 0 0 an 3)))), (1, (AV.v (TV.one (At.vw 1 0 bn 3)))), (5, (AV.v (TV.one (At.int IntKind.i64 ((tR x).getD default).1)))), (14, (AV.v (TV.one (At.bool ((tR x).getD default).2))))] [(Blk.mk Bool.false (Body.fl FloatKind.f32 b0)), (Blk.mk Bool.false (Body.fl FloatKind.f32 b1))])))
theorem zp0 (an : Nat) (bn : Nat) (b0 : List Nat) (b1 : List Nat) : ∀ x : Option ((Unit) ⊕ (Int × Bool)), x.isSome = true → (zas an bn b0 b1) x = some (pick (znq an bn b0 b1 x))
  | none, h => by cases h
  | some (Sum.inl r), _ => rfl
  | some (Sum.inr r), _ => rfl
theorem zon (an : Nat) (bn : Nat) (i : Int) (b0 : List Nat) (b1 : List Nat) (K : Ex → St → Option (Ex × St)) : evC (R := Ex × St) Γ3 (evFn Γ3 8 8) 122 2 fi122.nt fi122.live fi122.nl 8 (findL 4 (loopsIn fi122.code)) (St.mk [(0, (AV.v (TV.one (At.vw 0 0 an 3)))), (1, (AV.v (TV.one (At.vw 1 0 bn 3)))), (5, (AV.v (TV.one (At.int IntKind.i64 i))))] [(Blk.mk Bool.false (Body.fl FloatKind.f32 b0)), (Blk.mk Bool.false (Body.fl FloatKind.f32 b1))]) K = z7b an bn b0 b1 i (fun i' => K .normal (St.mk [(0, (AV.v (TV.one (At.vw 0 0 an 3)))), (1, (AV.v (TV.one (At.vw 1 0 bn 3)))), (5, (AV.v (TV.one (At.int IntKind.i64 i'))))] [(Blk.mk Bool.false (Body.fl FloatKind.f32 b0)), (Blk.mk Bool.false (Body.fl FloatKind.f32 b1))])) (fun _ => K Ex.ret (St.mk [(4, (AV.v (TV.one (At.bool Bool.false))))] [(Blk.mk Bool.false (Body.fl FloatKind.f32 b0)), (Blk.mk Bool.false (Body.fl FloatKind.f32 b1))])) (fun c0_ c1_ => K (Ex.exit 0) (St.mk [(0, (AV.v (TV.one (At.vw 0 0 an 3)))), (1, (AV.v (TV.one (At.vw 1 0 bn 3)))), (5, (AV.v (TV.one (At.int IntKind.i64 c0_)))), (14, (AV.v (TV.one (At.bool c1_))))] [(Blk.mk Bool.false (Body.fl FloatKind.f32 b0)), (Blk.mk Bool.false (Body.fl FloatKind.f32 b1))])) := by kernel_rfl
theorem zp1 (an : Nat) (bn : Nat) (b0 : List Nat) (b1 : List Nat) : ∀ (n : Nat) (i : Int), iter 122 4 2 (evC (R := Ex × St) Γ3 (evFn Γ3 8 8) 122 2 fi122.nt fi122.live fi122.nl 8 (findL 4 (loopsIn fi122.code))) n (St.mk [(0, (AV.v (TV.one (At.vw 0 0 an 3)))), (1, (AV.v (TV.one (At.vw 1 0 bn 3)))), (5, (AV.v (TV.one (At.int IntKind.i64 i))))] [(Blk.mk Bool.false (Body.fl FloatKind.f32 b0)), (Blk.mk Bool.false (Body.fl FloatKind.f32 b1))]) (fun e st => some (e, st)) = (zas an bn b0 b1) (z5m an bn b0 b1 n i) := by
  intro n
  induction n with
  | zero => intros; rfl
  | succ n ih =>
    intro i
    refine Eq.trans (iter_succ ..) (Eq.trans (zon an bn i b0 b1 (nextK 122 4 2 (evC (R := Ex × St) Γ3 (evFn Γ3 8 8) 122 2 fi122.nt fi122.live fi122.nl 8 (findL 4 (loopsIn fi122.code))) n (fun e st => some (e, st)))) (Eq.trans ?_ (zm3 (zas an bn b0 b1) rfl an bn b0 b1 i (fun i' => z5m an bn b0 b1 n i') (fun _ => some (Sum.inl ())) (fun c0_ c1_ => some (Sum.inr (c0_, c1_))))))
    exact congrArg (fun kn_ => z7b an bn b0 b1 i kn_ (fun _ => (zas an bn b0 b1) (some (Sum.inl ()))) (fun c0_ c1_ => (zas an bn b0 b1) (some (Sum.inr (c0_, c1_))))) (funext fun i' => ih i')
theorem z1h : LoopOne Try.prog fnTab 122 4 z1p := lp_of (Γ := Γ3) tyTab_ok (FnL.ok fnTab_ok _ _) (LpL.ok lt3_ok) (SumL.ok tb3_ok _) mixed (fi := fi122) (by kernel_rfl) (by kernel_rfl) (by
  intro lo st out hp
  unfold z1p at hp
  split at hp
  · rename_i an bn i b0 b1
    injection hp with hp
    injection hp with h1 h2
    subst h2
    exact ⟨8, 8, big, Eq.trans (zp1 an bn b0 b1 big i) (zp0 an bn b0 b1 (z5m an bn b0 b1 big i) h1)⟩
  · cases hp)
noncomputable def z04 : Nat → St → Option (Bool × LO)
  | 1, (St.mk [(0, (AV.v (TV.one (At.vw 0 0 sn 1)))), (1, (AV.v (TV.one (At.fn 148 [])))), (7, (AV.v (TV.one (At.int IntKind.i64 t7)))), (8, (AV.v (TV.one (At.int IntKind.i64 t8))))] [(Blk.mk Bool.false (Body.fl FloatKind.f32 b0))]) => some ((z4b sn t7 b0 t8), (LO.two (z47 sn t7 b0 t8) (LO.one Ex.ret (St.mk [(4, (AV.v (TV.one (At.int IntKind.i64 (z6g sn t7 b0 t8)))))] [(Blk.mk Bool.false (Body.fl FloatKind.f32 b0))])) (LO.one (Ex.exit 0) (St.mk [(0, (AV.v (TV.one (At.vw 0 0 sn 1)))), (1, (AV.v (TV.one (At.fn 148 [])))), (7, (AV.v (TV.one (At.int IntKind.i64 t7)))), (8, (AV.v (TV.one (At.int IntKind.i64 (z80 sn t7 b0 t8))))), (9, (AV.v (TV.one (At.bool (z7z sn t7 b0 t8)))))] [(Blk.mk Bool.false (Body.fl FloatKind.f32 b0))]))))
  | _, _ => none
def z5y (sn : Nat) (t7 : Int) (b0 : List Nat) : Option ((Int) ⊕ (Int × Bool)) → Option (Ex × St)
  | none => none
  | some (Sum.inl r) => some (Ex.ret, (St.mk [(4, (AV.v (TV.one (At.int IntKind.i64 r))))] [(Blk.mk Bool.false (Body.fl FloatKind.f32 b0))]))
  | some (Sum.inr r) => some ((Ex.exit 0), (St.mk [(0, (AV.v (TV.one (At.vw 0 0 sn 1)))), (1, (AV.v (TV.one (At.fn 148 [])))), (7, (AV.v (TV.one (At.int IntKind.i64 t7)))), (8, (AV.v (TV.one (At.int IntKind.i64 r.1)))), (9, (AV.v (TV.one (At.bool r.2))))] [(Blk.mk Bool.false (Body.fl FloatKind.f32 b0))]))
def zga (sn : Nat) (t7 : Int) (b0 : List Nat) (x : Option ((Int) ⊕ (Int × Bool))) : LO := (LO.two (oL x) (LO.one Ex.ret (St.mk [(4, (AV.v (TV.one (At.int IntKind.i64 ((tL x).getD default)))))] [(Blk.mk Bool.false (Body.fl FloatKind.f32 b0))])) (LO.one (Ex.exit 0) (St.mk [(0, (AV.v (TV.one (At.vw 0 0 sn 1)))), (1, (AV.v (TV.one (At.fn 148 [])))), (7, (AV.v (TV.one (At.int IntKind.i64 t7)))), (8, (AV.v (TV.one (At.int IntKind.i64 ((tR x).getD default).1)))), (9, (AV.v (TV.one (At.bool ((tR x).getD default).2))))] [(Blk.mk Bool.false (Body.fl FloatKind.f32 b0))])))
theorem zh8 (sn : Nat) (t7 : Int) (b0 : List Nat) : ∀ x : Option ((Int) ⊕ (Int × Bool)), x.isSome = true → (z5y sn t7 b0) x = some (pick (zga sn t7 b0 x))
  | none, h => by cases h
  | some (Sum.inl r), _ => rfl
  | some (Sum.inr r), _ => rfl
theorem zhj (sn : Nat) (t7 : Int) (t8 : Int) (b0 : List Nat) (K : Ex → St → Option (Ex × St)) : evC (R := Ex × St) Γ3 (evFn Γ3 8 8) 178 1 fi178.nt fi178.live fi178.nl 8 (findL 2 (loopsIn fi178.code)) (St.mk [(0, (AV.v (TV.one (At.vw 0 0 sn 1)))), (1, (AV.v (TV.one (At.fn 148 [])))), (7, (AV.v (TV.one (At.int IntKind.i64 t7)))), (8, (AV.v (TV.one (At.int IntKind.i64 t8))))] [(Blk.mk Bool.false (Body.fl FloatKind.f32 b0))]) K = z1q sn t7 b0 t8 (fun t8' => K .normal (St.mk [(0, (AV.v (TV.one (At.vw 0 0 sn 1)))), (1, (AV.v (TV.one (At.fn 148 [])))), (7, (AV.v (TV.one (At.int IntKind.i64 t7)))), (8, (AV.v (TV.one (At.int IntKind.i64 t8'))))] [(Blk.mk Bool.false (Body.fl FloatKind.f32 b0))])) (fun c0_ => K Ex.ret (St.mk [(4, (AV.v (TV.one (At.int IntKind.i64 c0_))))] [(Blk.mk Bool.false (Body.fl FloatKind.f32 b0))])) (fun c0_ c1_ => K (Ex.exit 0) (St.mk [(0, (AV.v (TV.one (At.vw 0 0 sn 1)))), (1, (AV.v (TV.one (At.fn 148 [])))), (7, (AV.v (TV.one (At.int IntKind.i64 t7)))), (8, (AV.v (TV.one (At.int IntKind.i64 c0_)))), (9, (AV.v (TV.one (At.bool c1_))))] [(Blk.mk Bool.false (Body.fl FloatKind.f32 b0))])) := by kernel_rfl
theorem zhd (sn : Nat) (t7 : Int) (b0 : List Nat) : ∀ (n : Nat) (t8 : Int), iter 178 2 1 (evC (R := Ex × St) Γ3 (evFn Γ3 8 8) 178 1 fi178.nt fi178.live fi178.nl 8 (findL 2 (loopsIn fi178.code))) n (St.mk [(0, (AV.v (TV.one (At.vw 0 0 sn 1)))), (1, (AV.v (TV.one (At.fn 148 [])))), (7, (AV.v (TV.one (At.int IntKind.i64 t7)))), (8, (AV.v (TV.one (At.int IntKind.i64 t8))))] [(Blk.mk Bool.false (Body.fl FloatKind.f32 b0))]) (fun e st => some (e, st)) = (z5y sn t7 b0) (z0o sn t7 b0 n t8) := by
  intro n
  induction n with
  | zero => intros; rfl
  | succ n ih =>
    intro t8
    refine Eq.trans (iter_succ ..) (Eq.trans (zhj sn t7 t8 b0 (nextK 178 2 1 (evC (R := Ex × St) Γ3 (evFn Γ3 8 8) 178 1 fi178.nt fi178.live fi178.nl 8 (findL 2 (loopsIn fi178.code))) n (fun e st => some (e, st)))) (Eq.trans ?_ (zes (z5y sn t7 b0) rfl sn t7 b0 t8 (fun t8' => z0o sn t7 b0 n t8') (fun c0_ => some (Sum.inl c0_)) (fun c0_ c1_ => some (Sum.inr (c0_, c1_))))))
    exact congrArg (fun kn_ => z1q sn t7 b0 t8 kn_ (fun c0_ => (z5y sn t7 b0) (some (Sum.inl c0_))) (fun c0_ c1_ => (z5y sn t7 b0) (some (Sum.inr (c0_, c1_))))) (funext fun t8' => ih t8')
theorem z05 : LoopOne Try.prog fnTab 178 2 z04 := lp_of (Γ := Γ3) tyTab_ok (FnL.ok fnTab_ok _ _) (LpL.ok lt3_ok) (SumL.ok tb3_ok _) mixed (fi := fi178) (by kernel_rfl) (by kernel_rfl) (by
  intro lo st out hp
  unfold z04 at hp
  split at hp
  · rename_i sn t7 t8 b0
    injection hp with hp
    injection hp with h1 h2
    subst h2
    exact ⟨8, 8, big, Eq.trans (zhd sn t7 b0 big t8) (zh8 sn t7 b0 (z0o sn t7 b0 big t8) h1)⟩
  · cases hp)
noncomputable def z02 : Nat → St → Option (Bool × LO)
  | 1, (St.mk [(0, (AV.v (TV.one (At.vw 0 0 sn 1)))), (1, (AV.v (TV.one (At.fn 150 [])))), (7, (AV.v (TV.one (At.int IntKind.i64 t7)))), (8, (AV.v (TV.one (At.int IntKind.i64 t8))))] [(Blk.mk Bool.false (Body.fl FloatKind.f32 b0))]) => some ((z3y sn t7 b0 t8), (LO.two (z3t sn t7 b0 t8) (LO.one Ex.ret (St.mk [(4, (AV.v (TV.one (At.int IntKind.i64 (z69 sn t7 b0 t8)))))] [(Blk.mk Bool.false (Body.fl FloatKind.f32 b0))])) (LO.one (Ex.exit 0) (St.mk [(0, (AV.v (TV.one (At.vw 0 0 sn 1)))), (1, (AV.v (TV.one (At.fn 150 [])))), (7, (AV.v (TV.one (At.int IntKind.i64 t7)))), (8, (AV.v (TV.one (At.int IntKind.i64 (z7p sn t7 b0 t8))))), (9, (AV.v (TV.one (At.bool (z7o sn t7 b0 t8)))))] [(Blk.mk Bool.false (Body.fl FloatKind.f32 b0))]))))
  | _, _ => none
def z5j (sn : Nat) (t7 : Int) (b0 : List Nat) : Option ((Int) ⊕ (Int × Bool)) → Option (Ex × St)
  | none => none
  | some (Sum.inl r) => some (Ex.ret, (St.mk [(4, (AV.v (TV.one (At.int IntKind.i64 r))))] [(Blk.mk Bool.false (Body.fl FloatKind.f32 b0))]))
  | some (Sum.inr r) => some ((Ex.exit 0), (St.mk [(0, (AV.v (TV.one (At.vw 0 0 sn 1)))), (1, (AV.v (TV.one (At.fn 150 [])))), (7, (AV.v (TV.one (At.int IntKind.i64 t7)))), (8, (AV.v (TV.one (At.int IntKind.i64 r.1)))), (9, (AV.v (TV.one (At.bool r.2))))] [(Blk.mk Bool.false (Body.fl FloatKind.f32 b0))]))
def zfo (sn : Nat) (t7 : Int) (b0 : List Nat) (x : Option ((Int) ⊕ (Int × Bool))) : LO := (LO.two (oL x) (LO.one Ex.ret (St.mk [(4, (AV.v (TV.one (At.int IntKind.i64 ((tL x).getD default)))))] [(Blk.mk Bool.false (Body.fl FloatKind.f32 b0))])) (LO.one (Ex.exit 0) (St.mk [(0, (AV.v (TV.one (At.vw 0 0 sn 1)))), (1, (AV.v (TV.one (At.fn 150 [])))), (7, (AV.v (TV.one (At.int IntKind.i64 t7)))), (8, (AV.v (TV.one (At.int IntKind.i64 ((tR x).getD default).1)))), (9, (AV.v (TV.one (At.bool ((tR x).getD default).2))))] [(Blk.mk Bool.false (Body.fl FloatKind.f32 b0))])))
theorem zg9 (sn : Nat) (t7 : Int) (b0 : List Nat) : ∀ x : Option ((Int) ⊕ (Int × Bool)), x.isSome = true → (z5j sn t7 b0) x = some (pick (zfo sn t7 b0 x))
  | none, h => by cases h
  | some (Sum.inl r), _ => rfl
  | some (Sum.inr r), _ => rfl
theorem zg8 (sn : Nat) (t7 : Int) (t8 : Int) (b0 : List Nat) (K : Ex → St → Option (Ex × St)) : evC (R := Ex × St) Γ3 (evFn Γ3 8 8) 178 1 fi178.nt fi178.live fi178.nl 8 (findL 2 (loopsIn fi178.code)) (St.mk [(0, (AV.v (TV.one (At.vw 0 0 sn 1)))), (1, (AV.v (TV.one (At.fn 150 [])))), (7, (AV.v (TV.one (At.int IntKind.i64 t7)))), (8, (AV.v (TV.one (At.int IntKind.i64 t8))))] [(Blk.mk Bool.false (Body.fl FloatKind.f32 b0))]) K = z1c sn t7 b0 t8 (fun t8' => K .normal (St.mk [(0, (AV.v (TV.one (At.vw 0 0 sn 1)))), (1, (AV.v (TV.one (At.fn 150 [])))), (7, (AV.v (TV.one (At.int IntKind.i64 t7)))), (8, (AV.v (TV.one (At.int IntKind.i64 t8'))))] [(Blk.mk Bool.false (Body.fl FloatKind.f32 b0))])) (fun c0_ => K Ex.ret (St.mk [(4, (AV.v (TV.one (At.int IntKind.i64 c0_))))] [(Blk.mk Bool.false (Body.fl FloatKind.f32 b0))])) (fun c0_ c1_ => K (Ex.exit 0) (St.mk [(0, (AV.v (TV.one (At.vw 0 0 sn 1)))), (1, (AV.v (TV.one (At.fn 150 [])))), (7, (AV.v (TV.one (At.int IntKind.i64 t7)))), (8, (AV.v (TV.one (At.int IntKind.i64 c0_)))), (9, (AV.v (TV.one (At.bool c1_))))] [(Blk.mk Bool.false (Body.fl FloatKind.f32 b0))])) := by kernel_rfl
theorem zg4 (sn : Nat) (t7 : Int) (b0 : List Nat) : ∀ (n : Nat) (t8 : Int), iter 178 2 1 (evC (R := Ex × St) Γ3 (evFn Γ3 8 8) 178 1 fi178.nt fi178.live fi178.nl 8 (findL 2 (loopsIn fi178.code))) n (St.mk [(0, (AV.v (TV.one (At.vw 0 0 sn 1)))), (1, (AV.v (TV.one (At.fn 150 [])))), (7, (AV.v (TV.one (At.int IntKind.i64 t7)))), (8, (AV.v (TV.one (At.int IntKind.i64 t8))))] [(Blk.mk Bool.false (Body.fl FloatKind.f32 b0))]) (fun e st => some (e, st)) = (z5j sn t7 b0) (z0n sn t7 b0 n t8) := by
  intro n
  induction n with
  | zero => intros; rfl
  | succ n ih =>
    intro t8
    refine Eq.trans (iter_succ ..) (Eq.trans (zg8 sn t7 t8 b0 (nextK 178 2 1 (evC (R := Ex × St) Γ3 (evFn Γ3 8 8) 178 1 fi178.nt fi178.live fi178.nl 8 (findL 2 (loopsIn fi178.code))) n (fun e st => some (e, st)))) (Eq.trans ?_ (ze7 (z5j sn t7 b0) rfl sn t7 b0 t8 (fun t8' => z0n sn t7 b0 n t8') (fun c0_ => some (Sum.inl c0_)) (fun c0_ c1_ => some (Sum.inr (c0_, c1_))))))
    exact congrArg (fun kn_ => z1c sn t7 b0 t8 kn_ (fun c0_ => (z5j sn t7 b0) (some (Sum.inl c0_))) (fun c0_ c1_ => (z5j sn t7 b0) (some (Sum.inr (c0_, c1_))))) (funext fun t8' => ih t8')
theorem z03 : LoopOne Try.prog fnTab 178 2 z02 := lp_of (Γ := Γ3) tyTab_ok (FnL.ok fnTab_ok _ _) (LpL.ok lt3_ok) (SumL.ok tb3_ok _) mixed (fi := fi178) (by kernel_rfl) (by kernel_rfl) (by
  intro lo st out hp
  unfold z02 at hp
  split at hp
  · rename_i sn t7 t8 b0
    injection hp with hp
    injection hp with h1 h2
    subst h2
    exact ⟨8, 8, big, Eq.trans (zg4 sn t7 b0 big t8) (zg9 sn t7 b0 (z0n sn t7 b0 big t8) h1)⟩
  · cases hp)
noncomputable def z3s : Nat → St → Option (Bool × LO)
  | 4, (St.mk [(0, (AV.v (TV.one (At.ptr 3 0 3)))), (3, (AV.v (TV.one (At.int IntKind.i64 t3)))), (4, (AV.v (TV.one (At.int IntKind.i64 t4))))] [(Blk.mk Bool.false (Body.fl FloatKind.f32 b0)), (Blk.mk Bool.false (Body.fl FloatKind.f32 b1)), (Blk.mk Bool.false (Body.fl FloatKind.f32 b2)), (Blk.mk Bool.false (Body.cells [(At.vw 0 0 q1h 1), (At.vw 1 0 q1x 1), (At.vw 2 0 q1w 1)]))]) => some ((z9s t3 b0 b1 b2 q1h q1x q1w t4), (LO.two (z99 t3 b0 b1 b2 q1h q1x q1w t4) (LO.one Ex.ret (St.mk [(2, (AV.v (TV.one (At.bool Bool.false))))] [(Blk.mk Bool.false (Body.fl FloatKind.f32 b0)), (Blk.mk Bool.false (Body.fl FloatKind.f32 b1)), (Blk.mk Bool.false (Body.fl FloatKind.f32 b2)), (Blk.mk Bool.false (Body.cells [(At.vw 0 0 q1h 1), (At.vw 1 0 q1x 1), (At.vw 2 0 q1w 1)]))])) (LO.one (Ex.exit 0) (St.mk [(0, (AV.v (TV.one (At.ptr 3 0 3)))), (3, (AV.v (TV.one (At.int IntKind.i64 t3)))), (4, (AV.v (TV.one (At.int IntKind.i64 (zj3 t3 b0 b1 b2 q1h q1x q1w t4))))), (36, (AV.v (TV.one (At.bool (zj4 t3 b0 b1 b2 q1h q1x q1w t4)))))] [(Blk.mk Bool.false (Body.fl FloatKind.f32 b0)), (Blk.mk Bool.false (Body.fl FloatKind.f32 b1)), (Blk.mk Bool.false (Body.fl FloatKind.f32 b2)), (Blk.mk Bool.false (Body.cells [(At.vw 0 0 q1h 1), (At.vw 1 0 q1x 1), (At.vw 2 0 q1w 1)]))]))))
  | _, _ => none
def zg2 (t3 : Int) (b0 : List Nat) (b1 : List Nat) (b2 : List Nat) (q1h : Nat) (q1x : Nat) (q1w : Nat) : Option ((Unit) ⊕ (Int × Bool)) → Option (Ex × St)
  | none => none
  | some (Sum.inl r) => some (Ex.ret, (St.mk [(2, (AV.v (TV.one (At.bool Bool.false))))] [(Blk.mk Bool.false (Body.fl FloatKind.f32 b0)), (Blk.mk Bool.false (Body.fl FloatKind.f32 b1)), (Blk.mk Bool.false (Body.fl FloatKind.f32 b2)), (Blk.mk Bool.false (Body.cells [(At.vw 0 0 q1h 1), (At.vw 1 0 q1x 1), (At.vw 2 0 q1w 1)]))]))
  | some (Sum.inr r) => some ((Ex.exit 0), (St.mk [(0, (AV.v (TV.one (At.ptr 3 0 3)))), (3, (AV.v (TV.one (At.int IntKind.i64 t3)))), (4, (AV.v (TV.one (At.int IntKind.i64 r.1)))), (36, (AV.v (TV.one (At.bool r.2))))] [(Blk.mk Bool.false (Body.fl FloatKind.f32 b0)), (Blk.mk Bool.false (Body.fl FloatKind.f32 b1)), (Blk.mk Bool.false (Body.fl FloatKind.f32 b2)), (Blk.mk Bool.false (Body.cells [(At.vw 0 0 q1h 1), (At.vw 1 0 q1x 1), (At.vw 2 0 q1w 1)]))]))
def zsd (t3 : Int) (b0 : List Nat) (b1 : List Nat) (b2 : List Nat) (q1h : Nat) (q1x : Nat) (q1w : Nat) (x : Option ((Unit) ⊕ (Int × Bool))) : LO := (LO.two (oL x) (LO.one Ex.ret (St.mk [(2, (AV.v (TV.one (At.bool Bool.false))))] [(Blk.mk Bool.false (Body.fl FloatKind.f32 b0)), (Blk.mk Bool.false (Body.fl FloatKind.f32 b1)), (Blk.mk Bool.false (Body.fl FloatKind.f32 b2)), (Blk.mk Bool.false (Body.cells [(At.vw 0 0 q1h 1), (At.vw 1 0 q1x 1), (At.vw 2 0 q1w 1)]))])) (LO.one (Ex.exit 0) (St.mk [(0, (AV.v (TV.one (At.ptr 3 0 3)))), (3, (AV.v (TV.one (At.int IntKind.i64 t3)))), (4, (AV.v (TV.one (At.int IntKind.i64 ((tR x).getD default).1)))), (36, (AV.v (TV.one (At.bool ((tR x).getD default).2))))] [(Blk.mk Bool.false (Body.fl FloatKind.f32 b0)), (Blk.mk Bool.false (Body.fl FloatKind.f32 b1)), (Blk.mk Bool.false (Body.fl FloatKind.f32 b2)), (Blk.mk Bool.false (Body.cells [(At.vw 0 0 q1h 1), (At.vw 1 0 q1x 1), (At.vw 2 0 q1w 1)]))])))
theorem zt5 (t3 : Int) (b0 : List Nat) (b1 : List Nat) (b2 : List Nat) (q1h : Nat) (q1x : Nat) (q1w : Nat) : ∀ x : Option ((Unit) ⊕ (Int × Bool)), x.isSome = true → (zg2 t3 b0 b1 b2 q1h q1x q1w) x = some (pick (zsd t3 b0 b1 b2 q1h q1x q1w x))
  | none, h => by cases h
  | some (Sum.inl r), _ => rfl
  | some (Sum.inr r), _ => rfl
theorem zsq (t3 : Int) (t4 : Int) (b0 : List Nat) (b1 : List Nat) (b2 : List Nat) (q1h : Nat) (q1x : Nat) (q1w : Nat) (K : Ex → St → Option (Ex × St)) : evC (R := Ex × St) Γ3 (evFn Γ3 8 8) 184 4 fi184.nt fi184.live fi184.nl 8 (findL 5 (loopsIn fi184.code)) (St.mk [(0, (AV.v (TV.one (At.ptr 3 0 3)))), (3, (AV.v (TV.one (At.int IntKind.i64 t3)))), (4, (AV.v (TV.one (At.int IntKind.i64 t4))))] [(Blk.mk Bool.false (Body.fl FloatKind.f32 b0)), (Blk.mk Bool.false (Body.fl FloatKind.f32 b1)), (Blk.mk Bool.false (Body.fl FloatKind.f32 b2)), (Blk.mk Bool.false (Body.cells [(At.vw 0 0 q1h 1), (At.vw 1 0 q1x 1), (At.vw 2 0 q1w 1)]))]) K = z8w t3 b0 b1 b2 q1h q1x q1w t4 (fun t4' => K .normal (St.mk [(0, (AV.v (TV.one (At.ptr 3 0 3)))), (3, (AV.v (TV.one (At.int IntKind.i64 t3)))), (4, (AV.v (TV.one (At.int IntKind.i64 t4'))))] [(Blk.mk Bool.false (Body.fl FloatKind.f32 b0)), (Blk.mk Bool.false (Body.fl FloatKind.f32 b1)), (Blk.mk Bool.false (Body.fl FloatKind.f32 b2)), (Blk.mk Bool.false (Body.cells [(At.vw 0 0 q1h 1), (At.vw 1 0 q1x 1), (At.vw 2 0 q1w 1)]))])) (fun _ => K Ex.ret (St.mk [(2, (AV.v (TV.one (At.bool Bool.false))))] [(Blk.mk Bool.false (Body.fl FloatKind.f32 b0)), (Blk.mk Bool.false (Body.fl FloatKind.f32 b1)), (Blk.mk Bool.false (Body.fl FloatKind.f32 b2)), (Blk.mk Bool.false (Body.cells [(At.vw 0 0 q1h 1), (At.vw 1 0 q1x 1), (At.vw 2 0 q1w 1)]))])) (fun c0_ c1_ => K (Ex.exit 0) (St.mk [(0, (AV.v (TV.one (At.ptr 3 0 3)))), (3, (AV.v (TV.one (At.int IntKind.i64 t3)))), (4, (AV.v (TV.one (At.int IntKind.i64 c0_)))), (36, (AV.v (TV.one (At.bool c1_))))] [(Blk.mk Bool.false (Body.fl FloatKind.f32 b0)), (Blk.mk Bool.false (Body.fl FloatKind.f32 b1)), (Blk.mk Bool.false (Body.fl FloatKind.f32 b2)), (Blk.mk Bool.false (Body.cells [(At.vw 0 0 q1h 1), (At.vw 1 0 q1x 1), (At.vw 2 0 q1w 1)]))])) := by kernel_rfl
theorem zsx (t3 : Int) (b0 : List Nat) (b1 : List Nat) (b2 : List Nat) (q1h : Nat) (q1x : Nat) (q1w : Nat) : ∀ (n : Nat) (t4 : Int), iter 184 5 4 (evC (R := Ex × St) Γ3 (evFn Γ3 8 8) 184 4 fi184.nt fi184.live fi184.nl 8 (findL 5 (loopsIn fi184.code))) n (St.mk [(0, (AV.v (TV.one (At.ptr 3 0 3)))), (3, (AV.v (TV.one (At.int IntKind.i64 t3)))), (4, (AV.v (TV.one (At.int IntKind.i64 t4))))] [(Blk.mk Bool.false (Body.fl FloatKind.f32 b0)), (Blk.mk Bool.false (Body.fl FloatKind.f32 b1)), (Blk.mk Bool.false (Body.fl FloatKind.f32 b2)), (Blk.mk Bool.false (Body.cells [(At.vw 0 0 q1h 1), (At.vw 1 0 q1x 1), (At.vw 2 0 q1w 1)]))]) (fun e st => some (e, st)) = (zg2 t3 b0 b1 b2 q1h q1x q1w) (z6x t3 b0 b1 b2 q1h q1x q1w n t4) := by
  intro n
  induction n with
  | zero => intros; rfl
  | succ n ih =>
    intro t4
    refine Eq.trans (iter_succ ..) (Eq.trans (zsq t3 t4 b0 b1 b2 q1h q1x q1w (nextK 184 5 4 (evC (R := Ex × St) Γ3 (evFn Γ3 8 8) 184 4 fi184.nt fi184.live fi184.nl 8 (findL 5 (loopsIn fi184.code))) n (fun e st => some (e, st)))) (Eq.trans ?_ (zpn (zg2 t3 b0 b1 b2 q1h q1x q1w) rfl t3 b0 b1 b2 q1h q1x q1w t4 (fun t4' => z6x t3 b0 b1 b2 q1h q1x q1w n t4') (fun _ => some (Sum.inl ())) (fun c0_ c1_ => some (Sum.inr (c0_, c1_))))))
    exact congrArg (fun kn_ => z8w t3 b0 b1 b2 q1h q1x q1w t4 kn_ (fun _ => (zg2 t3 b0 b1 b2 q1h q1x q1w) (some (Sum.inl ()))) (fun c0_ c1_ => (zg2 t3 b0 b1 b2 q1h q1x q1w) (some (Sum.inr (c0_, c1_))))) (funext fun t4' => ih t4')
theorem z36 : LoopOne Try.prog fnTab 184 5 z3s := lp_of (Γ := Γ3) tyTab_ok (FnL.ok fnTab_ok _ _) (LpL.ok lt3_ok) (SumL.ok tb3_ok _) mixed (fi := fi184) (by kernel_rfl) (by kernel_rfl) (by
  intro lo st out hp
  unfold z3s at hp
  split at hp
  · rename_i t3 t4 b0 b1 b2 q1h q1x q1w
    injection hp with hp
    injection hp with h1 h2
    subst h2
    exact ⟨8, 8, big, Eq.trans (zsx t3 b0 b1 b2 q1h q1x q1w big t4) (zt5 t3 b0 b1 b2 q1h q1x q1w (z6x t3 b0 b1 b2 q1h q1x q1w big t4) h1)⟩
  · cases hp)
noncomputable def tb4 : List (Nat × (List PT → Option (Bool × AV × List Blk))) := [(156, z0s), (181, z19), (182, z21), (189, z20), (26, z2s), (55, z2b), (84, z0x), (89, z3w), (102, z64), (112, z1y), (114, z3f), (115, z2c), (123, z2u), (126, z4l), (157, z65), (160, z1x), (162, z4h), (167, z2a), (175, z3x), (176, z1o), (187, z29), (74, z3n), (83, z0w), (85, z4a), (90, z3o), (103, z49), (111, z2p), (116, z32), (131, z2n), (138, z33), (148, z1v), (150, z16), (169, z2o), (185, z34), (52, z41), (154, z2m), (158, z5k), (166, z2l), (104, z2w), (119, z3d), (120, z2x), (168, z2y), (188, z2i)]
noncomputable def lt4 : List ((Nat × Nat) × (Nat → St → Option (Bool × LO))) := [((166, 3), z18), ((120, 3), z1g), ((168, 4), z1f), ((188, 17), z10), ((122, 4), z1p), ((178, 2), z04), ((178, 2), z02), ((184, 5), z3s)]
noncomputable def Γ4 : Ctx := ⟨tyTab, fnTab, tblSum tb4, tblLp lt4⟩
theorem tb4_ok : SumL Try.prog tb4 := SumL.cons z0r (SumL.cons z13 (SumL.cons z1j (SumL.cons z1i (SumL.cons z27 (SumL.cons z1r (SumL.cons z0t (SumL.cons z30 (SumL.cons z4t (SumL.cons z1d (SumL.cons z2k (SumL.cons z1u (SumL.cons z28 (SumL.cons z3k (SumL.cons z4s (SumL.cons z1e (SumL.cons z3j (SumL.cons z1s (SumL.cons z31 (SumL.cons z14 (SumL.cons z1t (SumL.cons z2z (SumL.cons z0u (SumL.cons z3c (SumL.cons z2v (SumL.cons z3b (SumL.cons z25 (SumL.cons z2j (SumL.cons z26 (SumL.cons z2g (SumL.cons z1b (SumL.cons z11 (SumL.cons z23 (SumL.cons z2h (SumL.cons z37 (SumL.cons z22 (SumL.cons z48 (SumL.cons z1z (SumL.cons z2d (SumL.cons z2q (SumL.cons z2e (SumL.cons z2f (SumL.cons z24 (SumL.nil)))))))))))))))))))))))))))))))))))))))))))
theorem lt4_ok : LpL Try.prog fnTab lt4 := LpL.cons z12 (LpL.cons z17 (LpL.cons z15 (LpL.cons z0y (LpL.cons z1h (LpL.cons z05 (LpL.cons z03 (LpL.cons z36 (LpL.nil))))))))
noncomputable def z4w : List PT → Option (Bool × AV × List Blk)
  | [.agg [.row 1 q0k (.fl .f32 q0p), .row 1 q0m (.fl .f32 q0t), .row 1 q0l (.fl .f32 q0s), .row 3 q11 (.fl .f32 q1b), .s (.int .i64 q1o), .s (.flt .f32 q20), .s (.flt .f32 q1z)]] => some ((zc8 q0k q0p q0m q0t q0l q0s q11 q1b q1o q20 q1z), ((AV.v (TV.agg [(At.sl 0 0 (z1k q0k q0p q0m q0t q0l q0s q11 q1b q1o q20 q1z) 1), (At.sl 1 0 (z1l q0k q0p q0m q0t q0l q0s q11 q1b q1o q20 q1z) 1), (At.sl 2 0 (z1m q0k q0p q0m q0t q0l q0s q11 q1b q1o q20 q1z) 1), (At.sl 3 0 (z1n q0k q0p q0m q0t q0l q0s q11 q1b q1o q20 q1z) 3), (At.int IntKind.i64 q1o), (At.flt FloatKind.f32 q20), (At.flt FloatKind.f32 q1z)])), [(Blk.mk Bool.true (Body.fl FloatKind.f32 (z5x q0k q0p q0m q0t q0l q0s q11 q1b q1o q20 q1z))), (Blk.mk Bool.true (Body.fl FloatKind.f32 (z5u q0k q0p q0m q0t q0l q0s q11 q1b q1o q20 q1z))), (Blk.mk Bool.true (Body.fl FloatKind.f32 (z5q q0k q0p q0m q0t q0l q0s q11 q1b q1o q20 q1z))), (Blk.mk Bool.true (Body.fl FloatKind.f32 (z5t q0k q0p q0m q0t q0l q0s q11 q1b q1o q20 q1z)))]))
  | _ => none
def zne (q0k : Nat) (q0p : List Nat) (q0m : Nat) (q0t : List Nat) (q0l : Nat) (q0s : List Nat) (q11 : Nat) (q1b : List Nat) (q1o : Int) (q20 : Nat) (q1z : Nat) : Option (Nat × Nat × Nat × Nat × (List Nat) × (List Nat) × (List Nat) × (List Nat)) → Option (AV × List Blk)
  | some r => some ((AV.v (TV.agg [(At.sl 0 0 r.1 1), (At.sl 1 0 r.2.1 1), (At.sl 2 0 r.2.2.1 1), (At.sl 3 0 r.2.2.2.1 3), (At.int IntKind.i64 q1o), (At.flt FloatKind.f32 q20), (At.flt FloatKind.f32 q1z)])), [(Blk.mk Bool.true (Body.fl FloatKind.f32 r.2.2.2.2.1)), (Blk.mk Bool.true (Body.fl FloatKind.f32 r.2.2.2.2.2.1)), (Blk.mk Bool.true (Body.fl FloatKind.f32 r.2.2.2.2.2.2.1)), (Blk.mk Bool.true (Body.fl FloatKind.f32 r.2.2.2.2.2.2.2))])
  | none => none
theorem ztv (q0k : Nat) (q0p : List Nat) (q0m : Nat) (q0t : List Nat) (q0l : Nat) (q0s : List Nat) (q11 : Nat) (q1b : List Nat) (q1o : Int) (q20 : Nat) (q1z : Nat) : evFn Γ4 8 8 54 (impTs 0 [.agg [.row 1 q0k (.fl .f32 q0p), .row 1 q0m (.fl .f32 q0t), .row 1 q0l (.fl .f32 q0s), .row 3 q11 (.fl .f32 q1b), .s (.int .i64 q1o), .s (.flt .f32 q20), .s (.flt .f32 q1z)]]).1 (impTs 0 [.agg [.row 1 q0k (.fl .f32 q0p), .row 1 q0m (.fl .f32 q0t), .row 1 q0l (.fl .f32 q0s), .row 3 q11 (.fl .f32 q1b), .s (.int .i64 q1o), .s (.flt .f32 q20), .s (.flt .f32 q1z)]]).2 (expo (impTs 0 [.agg [.row 1 q0k (.fl .f32 q0p), .row 1 q0m (.fl .f32 q0t), .row 1 q0l (.fl .f32 q0s), .row 3 q11 (.fl .f32 q1b), .s (.int .i64 q1o), .s (.flt .f32 q20), .s (.flt .f32 q1z)]]).2.length) = zds q0k q0p q0m q0t q0l q0s q11 q1b q1o q20 q1z (fun c0_ c1_ c2_ c3_ c4_ c5_ c6_ c7_ => some ((AV.v (TV.agg [(At.sl 0 0 c0_ 1), (At.sl 1 0 c1_ 1), (At.sl 2 0 c2_ 1), (At.sl 3 0 c3_ 3), (At.int IntKind.i64 q1o), (At.flt FloatKind.f32 q20), (At.flt FloatKind.f32 q1z)])), [(Blk.mk Bool.true (Body.fl FloatKind.f32 c4_)), (Blk.mk Bool.true (Body.fl FloatKind.f32 c5_)), (Blk.mk Bool.true (Body.fl FloatKind.f32 c6_)), (Blk.mk Bool.true (Body.fl FloatKind.f32 c7_))])) := by kernel_rfl
theorem z45 : SumOne Try.prog 54 z4w := sum_of (Γ := Γ4) (fuel := 8) (d := 8) tyTab_ok (FnL.ok fnTab_ok _ _) (LpL.ok lt4_ok) (SumL.ok tb4_ok _) mixed (by
  intro pts v news hp hc
  clear hc
  unfold z4w at hp
  split at hp
  · rename_i q0k q0p q0m q0t q0l q0s q11 q1b q1o q20 q1z
    exact Eq.trans (Eq.trans (ztv q0k q0p q0m q0t q0l q0s q11 q1b q1o q20 q1z) (zq2 (zne q0k q0p q0m q0t q0l q0s q11 q1b q1o q20 q1z) rfl q0k q0p q0m q0t q0l q0s q11 q1b q1o q20 q1z (fun c0_ c1_ c2_ c3_ c4_ c5_ c6_ c7_ => some (c0_, c1_, c2_, c3_, c4_, c5_, c6_, c7_)))) (fin_out (o := (zne q0k q0p q0m q0t q0l q0s q11 q1b q1o q20 q1z)) (x := z7e q0k q0p q0m q0t q0l q0s q11 q1b q1o q20 q1z) (d := default) (V := fun r => ((AV.v (TV.agg [(At.sl 0 0 r.1 1), (At.sl 1 0 r.2.1 1), (At.sl 2 0 r.2.2.1 1), (At.sl 3 0 r.2.2.2.1 3), (At.int IntKind.i64 q1o), (At.flt FloatKind.f32 q20), (At.flt FloatKind.f32 q1z)])), [(Blk.mk Bool.true (Body.fl FloatKind.f32 r.2.2.2.2.1)), (Blk.mk Bool.true (Body.fl FloatKind.f32 r.2.2.2.2.2.1)), (Blk.mk Bool.true (Body.fl FloatKind.f32 r.2.2.2.2.2.2.1)), (Blk.mk Bool.true (Body.fl FloatKind.f32 r.2.2.2.2.2.2.2))])) (fun r => rfl) hp)
  · cases hp)
noncomputable def z3q : List PT → Option (Bool × AV × List Blk)
  | [.agg [.row 1 q17 (.fl .f32 q1n), .row 1 q1d (.fl .f32 q1p), .row 1 q1g (.fl .f32 q1r)], .agg [.row 1 q2h (.fl .f32 q2r), .row 1 q2k (.fl .f32 q2u), .row 1 q2j (.fl .f32 q2w)]] => some ((zi5 q17 q1n q1d q1p q1g q1r q2h q2r q2k q2u q2j q2w), ((AV.v (TV.one (At.bool (zgo q17 q1n q1d q1p q1g q1r q2h q2r q2k q2u q2j q2w)))), []))
  | _ => none
def zm9 (q17 : Nat) (q1n : List Nat) (q1d : Nat) (q1p : List Nat) (q1g : Nat) (q1r : List Nat) (q2h : Nat) (q2r : List Nat) (q2k : Nat) (q2u : List Nat) (q2j : Nat) (q2w : List Nat) : Option (Bool) → Option (AV × List Blk)
  | some r => some ((AV.v (TV.one (At.bool r))), [])
  | none => none
theorem zsg (q17 : Nat) (q1n : List Nat) (q1d : Nat) (q1p : List Nat) (q1g : Nat) (q1r : List Nat) (q2h : Nat) (q2r : List Nat) (q2k : Nat) (q2u : List Nat) (q2j : Nat) (q2w : List Nat) : evFn Γ4 8 8 121 (impTs 0 [.agg [.row 1 q17 (.fl .f32 q1n), .row 1 q1d (.fl .f32 q1p), .row 1 q1g (.fl .f32 q1r)], .agg [.row 1 q2h (.fl .f32 q2r), .row 1 q2k (.fl .f32 q2u), .row 1 q2j (.fl .f32 q2w)]]).1 (impTs 0 [.agg [.row 1 q17 (.fl .f32 q1n), .row 1 q1d (.fl .f32 q1p), .row 1 q1g (.fl .f32 q1r)], .agg [.row 1 q2h (.fl .f32 q2r), .row 1 q2k (.fl .f32 q2u), .row 1 q2j (.fl .f32 q2w)]]).2 (expo (impTs 0 [.agg [.row 1 q17 (.fl .f32 q1n), .row 1 q1d (.fl .f32 q1p), .row 1 q1g (.fl .f32 q1r)], .agg [.row 1 q2h (.fl .f32 q2r), .row 1 q2k (.fl .f32 q2u), .row 1 q2j (.fl .f32 q2w)]]).2.length) = zbt q17 q1n q1d q1p q1g q1r q2h q2r q2k q2u q2j q2w (fun c0_ => some ((AV.v (TV.one (At.bool c0_))), [])) := by kernel_rfl
theorem z35 : SumOne Try.prog 121 z3q := sum_of (Γ := Γ4) (fuel := 8) (d := 8) tyTab_ok (FnL.ok fnTab_ok _ _) (LpL.ok lt4_ok) (SumL.ok tb4_ok _) mixed (by
  intro pts v news hp hc
  clear hc
  unfold z3q at hp
  split at hp
  · rename_i q17 q1n q1d q1p q1g q1r q2h q2r q2k q2u q2j q2w
    exact Eq.trans (Eq.trans (zsg q17 q1n q1d q1p q1g q1r q2h q2r q2k q2u q2j q2w) (zoo (zm9 q17 q1n q1d q1p q1g q1r q2h q2r q2k q2u q2j q2w) rfl q17 q1n q1d q1p q1g q1r q2h q2r q2k q2u q2j q2w (fun c0_ => some c0_))) (fin_out (o := (zm9 q17 q1n q1d q1p q1g q1r q2h q2r q2k q2u q2j q2w)) (x := zca q17 q1n q1d q1p q1g q1r q2h q2r q2k q2u q2j q2w) (d := default) (V := fun r => ((AV.v (TV.one (At.bool r))), [])) (fun r => rfl) hp)
  · cases hp)
noncomputable def z39 : List PT → Option (Bool × AV × List Blk)
  | [.one (.row 3 a_n (.fl .f32 a)), .one (.row 3 b_n (.fl .f32 b))] => some ((zgg a_n a b_n b), ((AV.v (TV.one (At.bool (zfd a_n a b_n b)))), []))
  | _ => none
def zl6 (a_n : Nat) (a : List Nat) (b_n : Nat) (b : List Nat) : Option (Bool) → Option (AV × List Blk)
  | some r => some ((AV.v (TV.one (At.bool r))), [])
  | none => none
theorem zrj (a_n : Nat) (a : List Nat) (b_n : Nat) (b : List Nat) : evFn Γ4 8 8 122 (impTs 0 [.one (.row 3 a_n (.fl .f32 a)), .one (.row 3 b_n (.fl .f32 b))]).1 (impTs 0 [.one (.row 3 a_n (.fl .f32 a)), .one (.row 3 b_n (.fl .f32 b))]).2 (expo (impTs 0 [.one (.row 3 a_n (.fl .f32 a)), .one (.row 3 b_n (.fl .f32 b))]).2.length) = zbm a_n a b_n b (fun c0_ => some ((AV.v (TV.one (At.bool c0_))), [])) := by kernel_rfl
theorem z2r : SumOne Try.prog 122 z39 := sum_of (Γ := Γ4) (fuel := 8) (d := 8) tyTab_ok (FnL.ok fnTab_ok _ _) (LpL.ok lt4_ok) (SumL.ok tb4_ok _) mixed (by
  intro pts v news hp hc
  clear hc
  unfold z39 at hp
  split at hp
  · rename_i a_n a b_n b
    exact Eq.trans (Eq.trans (zrj a_n a b_n b) (zno (zl6 a_n a b_n b) rfl a_n a b_n b (fun c0_ => some c0_))) (fin_out (o := (zl6 a_n a b_n b)) (x := zb3 a_n a b_n b) (d := default) (V := fun r => ((AV.v (TV.one (At.bool r))), [])) (fun r => rfl) hp)
  · cases hp)
noncomputable def z4y : List PT → Option (Bool × AV × List Blk)
  | [.one (.s (.flt .f32 x))] => some ((z9c x), ((AV.v (TV.one (At.flt FloatKind.f32 (z5w x)))), []))
  | _ => none
def zo7 (x : Nat) : Option (Nat) → Option (AV × List Blk)
  | some r => some ((AV.v (TV.one (At.flt FloatKind.f32 r))), [])
  | none => none
theorem ztl (x : Nat) : evFn Γ4 8 8 165 (impTs 0 [.one (.s (.flt .f32 x))]).1 (impTs 0 [.one (.s (.flt .f32 x))]).2 (expo (impTs 0 [.one (.s (.flt .f32 x))]).2.length) = zdy x (fun c0_ => some ((AV.v (TV.one (At.flt FloatKind.f32 c0_))), [])) := by kernel_rfl
theorem z44 : SumOne Try.prog 165 z4y := sum_of (Γ := Γ4) (fuel := 8) (d := 8) tyTab_ok (FnL.ok fnTab_ok _ _) (LpL.ok lt4_ok) (SumL.ok tb4_ok _) mixed (by
  intro pts v news hp hc
  clear hc
  unfold z4y at hp
  split at hp
  · rename_i x
    exact Eq.trans (Eq.trans (ztl x) (zqj (zo7 x) rfl x (fun c0_ => some c0_))) (fin_out (o := (zo7 x)) (x := zc5 x) (d := default) (V := fun r => ((AV.v (TV.one (At.flt FloatKind.f32 r))), [])) (fun r => rfl) hp)
  · cases hp)
noncomputable def z0b : List PT → Option (Bool × AV × List Blk)
  | [.one (.row 1 s_n (.fl .f32 s)), .fn 148 []] => some ((z7h s_n s), ((AV.v (TV.one (At.int IntKind.i64 (z7a s_n s)))), []))
  | _ => none
def zbn (s_n : Nat) (s : List Nat) : Option (Int) → Option (AV × List Blk)
  | some r => some ((AV.v (TV.one (At.int IntKind.i64 r))), [])
  | none => none
theorem zid (s_n : Nat) (s : List Nat) : evFn Γ4 8 8 178 (impTs 0 [.one (.row 1 s_n (.fl .f32 s)), .fn 148 []]).1 (impTs 0 [.one (.row 1 s_n (.fl .f32 s)), .fn 148 []]).2 (expo (impTs 0 [.one (.row 1 s_n (.fl .f32 s)), .fn 148 []]).2.length) = z50 s_n s (fun c0_ => some ((AV.v (TV.one (At.int IntKind.i64 c0_))), [])) := by kernel_rfl
theorem z0d : SumOne Try.prog 178 z0b := sum_of (Γ := Γ4) (fuel := 8) (d := 8) tyTab_ok (FnL.ok fnTab_ok _ _) (LpL.ok lt4_ok) (SumL.ok tb4_ok _) mixed (by
  intro pts v news hp hc
  clear hc
  unfold z0b at hp
  split at hp
  · rename_i s_n s
    exact Eq.trans (Eq.trans (zid s_n s) (zge (zbn s_n s) rfl s_n s (fun c0_ => some c0_))) (fin_out (o := (zbn s_n s)) (x := z51 s_n s) (d := default) (V := fun r => ((AV.v (TV.one (At.int IntKind.i64 r))), [])) (fun r => rfl) hp)
  · cases hp)
noncomputable def z06 : List PT → Option (Bool × AV × List Blk)
  | [.one (.row 1 s_n (.fl .f32 s)), .fn 150 []] => some ((z75 s_n s), ((AV.v (TV.one (At.int IntKind.i64 (z6u s_n s)))), []))
  | _ => none
def zan (s_n : Nat) (s : List Nat) : Option (Int) → Option (AV × List Blk)
  | some r => some ((AV.v (TV.one (At.int IntKind.i64 r))), [])
  | none => none
theorem zhv (s_n : Nat) (s : List Nat) : evFn Γ4 8 8 178 (impTs 0 [.one (.row 1 s_n (.fl .f32 s)), .fn 150 []]).1 (impTs 0 [.one (.row 1 s_n (.fl .f32 s)), .fn 150 []]).2 (expo (impTs 0 [.one (.row 1 s_n (.fl .f32 s)), .fn 150 []]).2.length) = z4q s_n s (fun c0_ => some ((AV.v (TV.one (At.int IntKind.i64 c0_))), [])) := by kernel_rfl
theorem z0a : SumOne Try.prog 178 z06 := sum_of (Γ := Γ4) (fuel := 8) (d := 8) tyTab_ok (FnL.ok fnTab_ok _ _) (LpL.ok lt4_ok) (SumL.ok tb4_ok _) mixed (by
  intro pts v news hp hc
  clear hc
  unfold z06 at hp
  split at hp
  · rename_i s_n s
    exact Eq.trans (Eq.trans (zhv s_n s) (zg3 (zan s_n s) rfl s_n s (fun c0_ => some c0_))) (fin_out (o := (zan s_n s)) (x := z4m s_n s) (d := default) (V := fun r => ((AV.v (TV.one (At.int IntKind.i64 r))), [])) (fun r => rfl) hp)
  · cases hp)
noncomputable def z66 : List PT → Option (Bool × AV × List Blk)
  | [.ptr [.row 1 q07 (.fl .f32 q0c), .row 1 q0o (.fl .f32 q0u), .row 1 q0n (.fl .f32 q0v)]] => some ((zki q07 q0c q0o q0u q0n q0v), ((AV.v (TV.one (At.bool (zk2 q07 q0c q0o q0u q0n q0v)))), []))
  | _ => none
def zqh (q07 : Nat) (q0c : List Nat) (q0o : Nat) (q0u : List Nat) (q0n : Nat) (q0v : List Nat) : Option (Bool) → Option (AV × List Blk)
  | some r => some ((AV.v (TV.one (At.bool r))), [])
  | none => none
theorem zud (q07 : Nat) (q0c : List Nat) (q0o : Nat) (q0u : List Nat) (q0n : Nat) (q0v : List Nat) : evFn Γ4 8 8 184 (impTs 0 [.ptr [.row 1 q07 (.fl .f32 q0c), .row 1 q0o (.fl .f32 q0u), .row 1 q0n (.fl .f32 q0v)]]).1 (impTs 0 [.ptr [.row 1 q07 (.fl .f32 q0c), .row 1 q0o (.fl .f32 q0u), .row 1 q0n (.fl .f32 q0v)]]).2 (expo (impTs 0 [.ptr [.row 1 q07 (.fl .f32 q0c), .row 1 q0o (.fl .f32 q0u), .row 1 q0n (.fl .f32 q0v)]]).2.length) = zh7 q07 q0c q0o q0u q0n q0v (fun c0_ => some ((AV.v (TV.one (At.bool c0_))), [])) := by kernel_rfl
theorem z58 : SumOne Try.prog 184 z66 := sum_of (Γ := Γ4) (fuel := 8) (d := 8) tyTab_ok (FnL.ok fnTab_ok _ _) (LpL.ok lt4_ok) (SumL.ok tb4_ok _) mixed (by
  intro pts v news hp hc
  clear hc
  unfold z66 at hp
  split at hp
  · rename_i q07 q0c q0o q0u q0n q0v
    exact Eq.trans (Eq.trans (zud q07 q0c q0o q0u q0n q0v) (zrv (zqh q07 q0c q0o q0u q0n q0v) rfl q07 q0c q0o q0u q0n q0v (fun c0_ => some c0_))) (fin_out (o := (zqh q07 q0c q0o q0u q0n q0v)) (x := zhh q07 q0c q0o q0u q0n q0v) (d := default) (V := fun r => ((AV.v (TV.one (At.bool r))), [])) (fun r => rfl) hp)
  · cases hp)
noncomputable def z07 : Nat → St → Option (Bool × LO)
  | 1, (St.mk [(0, (AV.v (TV.one (At.vw 0 0 sn 1)))), (1, (AV.v (TV.one (At.fn 154 [])))), (7, (AV.v (TV.one (At.int IntKind.i64 t7)))), (8, (AV.v (TV.one (At.int IntKind.i64 t8))))] [(Blk.mk Bool.false (Body.fl FloatKind.f32 b0))]) => some ((z4n sn t7 b0 t8), (LO.two (z4e sn t7 b0 t8) (LO.one Ex.ret (St.mk [(4, (AV.v (TV.one (At.int IntKind.i64 (z6p sn t7 b0 t8)))))] [(Blk.mk Bool.false (Body.fl FloatKind.f32 b0))])) (LO.one (Ex.exit 0) (St.mk [(0, (AV.v (TV.one (At.vw 0 0 sn 1)))), (1, (AV.v (TV.one (At.fn 154 [])))), (7, (AV.v (TV.one (At.int IntKind.i64 t7)))), (8, (AV.v (TV.one (At.int IntKind.i64 (z85 sn t7 b0 t8))))), (9, (AV.v (TV.one (At.bool (z86 sn t7 b0 t8)))))] [(Blk.mk Bool.false (Body.fl FloatKind.f32 b0))]))))
  | _, _ => none
def z61 (sn : Nat) (t7 : Int) (b0 : List Nat) : Option ((Int) ⊕ (Int × Bool)) → Option (Ex × St)
  | none => none
  | some (Sum.inl r) => some (Ex.ret, (St.mk [(4, (AV.v (TV.one (At.int IntKind.i64 r))))] [(Blk.mk Bool.false (Body.fl FloatKind.f32 b0))]))
  | some (Sum.inr r) => some ((Ex.exit 0), (St.mk [(0, (AV.v (TV.one (At.vw 0 0 sn 1)))), (1, (AV.v (TV.one (At.fn 154 [])))), (7, (AV.v (TV.one (At.int IntKind.i64 t7)))), (8, (AV.v (TV.one (At.int IntKind.i64 r.1)))), (9, (AV.v (TV.one (At.bool r.2))))] [(Blk.mk Bool.false (Body.fl FloatKind.f32 b0))]))
def zh3 (sn : Nat) (t7 : Int) (b0 : List Nat) (x : Option ((Int) ⊕ (Int × Bool))) : LO := (LO.two (oL x) (LO.one Ex.ret (St.mk [(4, (AV.v (TV.one (At.int IntKind.i64 ((tL x).getD default)))))] [(Blk.mk Bool.false (Body.fl FloatKind.f32 b0))])) (LO.one (Ex.exit 0) (St.mk [(0, (AV.v (TV.one (At.vw 0 0 sn 1)))), (1, (AV.v (TV.one (At.fn 154 [])))), (7, (AV.v (TV.one (At.int IntKind.i64 t7)))), (8, (AV.v (TV.one (At.int IntKind.i64 ((tR x).getD default).1)))), (9, (AV.v (TV.one (At.bool ((tR x).getD default).2))))] [(Blk.mk Bool.false (Body.fl FloatKind.f32 b0))])))
theorem zhr (sn : Nat) (t7 : Int) (b0 : List Nat) : ∀ x : Option ((Int) ⊕ (Int × Bool)), x.isSome = true → (z61 sn t7 b0) x = some (pick (zh3 sn t7 b0 x))
  | none, h => by cases h
  | some (Sum.inl r), _ => rfl
  | some (Sum.inr r), _ => rfl
theorem zhs (sn : Nat) (t7 : Int) (t8 : Int) (b0 : List Nat) (K : Ex → St → Option (Ex × St)) : evC (R := Ex × St) Γ4 (evFn Γ4 8 8) 178 1 fi178.nt fi178.live fi178.nl 8 (findL 2 (loopsIn fi178.code)) (St.mk [(0, (AV.v (TV.one (At.vw 0 0 sn 1)))), (1, (AV.v (TV.one (At.fn 154 [])))), (7, (AV.v (TV.one (At.int IntKind.i64 t7)))), (8, (AV.v (TV.one (At.int IntKind.i64 t8))))] [(Blk.mk Bool.false (Body.fl FloatKind.f32 b0))]) K = z1w sn t7 b0 t8 (fun t8' => K .normal (St.mk [(0, (AV.v (TV.one (At.vw 0 0 sn 1)))), (1, (AV.v (TV.one (At.fn 154 [])))), (7, (AV.v (TV.one (At.int IntKind.i64 t7)))), (8, (AV.v (TV.one (At.int IntKind.i64 t8'))))] [(Blk.mk Bool.false (Body.fl FloatKind.f32 b0))])) (fun c0_ => K Ex.ret (St.mk [(4, (AV.v (TV.one (At.int IntKind.i64 c0_))))] [(Blk.mk Bool.false (Body.fl FloatKind.f32 b0))])) (fun c0_ c1_ => K (Ex.exit 0) (St.mk [(0, (AV.v (TV.one (At.vw 0 0 sn 1)))), (1, (AV.v (TV.one (At.fn 154 [])))), (7, (AV.v (TV.one (At.int IntKind.i64 t7)))), (8, (AV.v (TV.one (At.int IntKind.i64 c0_)))), (9, (AV.v (TV.one (At.bool c1_))))] [(Blk.mk Bool.false (Body.fl FloatKind.f32 b0))])) := by kernel_rfl
theorem zht (sn : Nat) (t7 : Int) (b0 : List Nat) : ∀ (n : Nat) (t8 : Int), iter 178 2 1 (evC (R := Ex × St) Γ4 (evFn Γ4 8 8) 178 1 fi178.nt fi178.live fi178.nl 8 (findL 2 (loopsIn fi178.code))) n (St.mk [(0, (AV.v (TV.one (At.vw 0 0 sn 1)))), (1, (AV.v (TV.one (At.fn 154 [])))), (7, (AV.v (TV.one (At.int IntKind.i64 t7)))), (8, (AV.v (TV.one (At.int IntKind.i64 t8))))] [(Blk.mk Bool.false (Body.fl FloatKind.f32 b0))]) (fun e st => some (e, st)) = (z61 sn t7 b0) (z0p sn t7 b0 n t8) := by
  intro n
  induction n with
  | zero => intros; rfl
  | succ n ih =>
    intro t8
    refine Eq.trans (iter_succ ..) (Eq.trans (zhs sn t7 t8 b0 (nextK 178 2 1 (evC (R := Ex × St) Γ4 (evFn Γ4 8 8) 178 1 fi178.nt fi178.live fi178.nl 8 (findL 2 (loopsIn fi178.code))) n (fun e st => some (e, st)))) (Eq.trans ?_ (zfh (z61 sn t7 b0) rfl sn t7 b0 t8 (fun t8' => z0p sn t7 b0 n t8') (fun c0_ => some (Sum.inl c0_)) (fun c0_ c1_ => some (Sum.inr (c0_, c1_))))))
    exact congrArg (fun kn_ => z1w sn t7 b0 t8 kn_ (fun c0_ => (z61 sn t7 b0) (some (Sum.inl c0_))) (fun c0_ c1_ => (z61 sn t7 b0) (some (Sum.inr (c0_, c1_))))) (funext fun t8' => ih t8')
theorem z09 : LoopOne Try.prog fnTab 178 2 z07 := lp_of (Γ := Γ4) tyTab_ok (FnL.ok fnTab_ok _ _) (LpL.ok lt4_ok) (SumL.ok tb4_ok _) mixed (fi := fi178) (by kernel_rfl) (by kernel_rfl) (by
  intro lo st out hp
  unfold z07 at hp
  split at hp
  · rename_i sn t7 t8 b0
    injection hp with hp
    injection hp with h1 h2
    subst h2
    exact ⟨8, 8, big, Eq.trans (zht sn t7 b0 big t8) (zhr sn t7 b0 (z0p sn t7 b0 big t8) h1)⟩
  · cases hp)
noncomputable def tb5 : List (Nat × (List PT → Option (Bool × AV × List Blk))) := [(156, z0s), (181, z19), (182, z21), (189, z20), (26, z2s), (55, z2b), (84, z0x), (89, z3w), (102, z64), (112, z1y), (114, z3f), (115, z2c), (123, z2u), (126, z4l), (157, z65), (160, z1x), (162, z4h), (167, z2a), (175, z3x), (176, z1o), (187, z29), (74, z3n), (83, z0w), (85, z4a), (90, z3o), (103, z49), (111, z2p), (116, z32), (131, z2n), (138, z33), (148, z1v), (150, z16), (169, z2o), (185, z34), (52, z41), (154, z2m), (158, z5k), (166, z2l), (104, z2w), (119, z3d), (120, z2x), (168, z2y), (188, z2i), (54, z4w), (121, z3q), (122, z39), (165, z4y), (178, z0b), (178, z06), (184, z66)]
noncomputable def lt5 : List ((Nat × Nat) × (Nat → St → Option (Bool × LO))) := [((166, 3), z18), ((120, 3), z1g), ((168, 4), z1f), ((188, 17), z10), ((122, 4), z1p), ((178, 2), z04), ((178, 2), z02), ((184, 5), z3s), ((178, 2), z07)]
noncomputable def Γ5 : Ctx := ⟨tyTab, fnTab, tblSum tb5, tblLp lt5⟩
theorem tb5_ok : SumL Try.prog tb5 := SumL.cons z0r (SumL.cons z13 (SumL.cons z1j (SumL.cons z1i (SumL.cons z27 (SumL.cons z1r (SumL.cons z0t (SumL.cons z30 (SumL.cons z4t (SumL.cons z1d (SumL.cons z2k (SumL.cons z1u (SumL.cons z28 (SumL.cons z3k (SumL.cons z4s (SumL.cons z1e (SumL.cons z3j (SumL.cons z1s (SumL.cons z31 (SumL.cons z14 (SumL.cons z1t (SumL.cons z2z (SumL.cons z0u (SumL.cons z3c (SumL.cons z2v (SumL.cons z3b (SumL.cons z25 (SumL.cons z2j (SumL.cons z26 (SumL.cons z2g (SumL.cons z1b (SumL.cons z11 (SumL.cons z23 (SumL.cons z2h (SumL.cons z37 (SumL.cons z22 (SumL.cons z48 (SumL.cons z1z (SumL.cons z2d (SumL.cons z2q (SumL.cons z2e (SumL.cons z2f (SumL.cons z24 (SumL.cons z45 (SumL.cons z35 (SumL.cons z2r (SumL.cons z44 (SumL.cons z0d (SumL.cons z0a (SumL.cons z58 (SumL.nil))))))))))))))))))))))))))))))))))))))))))))))))))
theorem lt5_ok : LpL Try.prog fnTab lt5 := LpL.cons z12 (LpL.cons z17 (LpL.cons z15 (LpL.cons z0y (LpL.cons z1h (LpL.cons z05 (LpL.cons z03 (LpL.cons z36 (LpL.cons z09 (LpL.nil)))))))))
noncomputable def z5h : List PT → Option (Bool × AV × List Blk)
  | [.agg [.row 1 q0k (.fl .f32 q0p), .row 1 q0m (.fl .f32 q0t), .row 1 q0l (.fl .f32 q0s), .row 3 q11 (.fl .f32 q1b), .s (.int .i64 q1o), .s (.flt .f32 q20), .s (.flt .f32 q1z)], .agg [.row 1 q21 (.fl .f32 q26), .row 1 q22 (.fl .f32 q28), .row 1 q23 (.fl .f32 q2a), .row 3 q2f (.fl .f32 q2i), .s (.int .i64 q2y), .s (.flt .f32 q34), .s (.flt .f32 q33)]] => some ((zhp q0k q0p q0m q0t q0l q0s q11 q1b q1o q20 q1z q21 q26 q22 q28 q23 q2a q2f q2i q2y q34 q33), ((AV.v (TV.one (At.bool (zg1 q0k q0p q0m q0t q0l q0s q11 q1b q1o q20 q1z q21 q26 q22 q28 q23 q2a q2f q2i q2y q34 q33)))), []))
  | _ => none
def zo4 (q0k : Nat) (q0p : List Nat) (q0m : Nat) (q0t : List Nat) (q0l : Nat) (q0s : List Nat) (q11 : Nat) (q1b : List Nat) (q1o : Int) (q20 : Nat) (q1z : Nat) (q21 : Nat) (q26 : List Nat) (q22 : Nat) (q28 : List Nat) (q23 : Nat) (q2a : List Nat) (q2f : Nat) (q2i : List Nat) (q2y : Int) (q34 : Nat) (q33 : Nat) : Option (Bool) → Option (AV × List Blk)
  | some r => some ((AV.v (TV.one (At.bool r))), [])
  | none => none
theorem ztr (q0k : Nat) (q0p : List Nat) (q0m : Nat) (q0t : List Nat) (q0l : Nat) (q0s : List Nat) (q11 : Nat) (q1b : List Nat) (q1o : Int) (q20 : Nat) (q1z : Nat) (q21 : Nat) (q26 : List Nat) (q22 : Nat) (q28 : List Nat) (q23 : Nat) (q2a : List Nat) (q2f : Nat) (q2i : List Nat) (q2y : Int) (q34 : Nat) (q33 : Nat) : evFn Γ5 8 8 56 (impTs 0 [.agg [.row 1 q0k (.fl .f32 q0p), .row 1 q0m (.fl .f32 q0t), .row 1 q0l (.fl .f32 q0s), .row 3 q11 (.fl .f32 q1b), .s (.int .i64 q1o), .s (.flt .f32 q20), .s (.flt .f32 q1z)], .agg [.row 1 q21 (.fl .f32 q26), .row 1 q22 (.fl .f32 q28), .row 1 q23 (.fl .f32 q2a), .row 3 q2f (.fl .f32 q2i), .s (.int .i64 q2y), .s (.flt .f32 q34), .s (.flt .f32 q33)]]).1 (impTs 0 [.agg [.row 1 q0k (.fl .f32 q0p), .row 1 q0m (.fl .f32 q0t), .row 1 q0l (.fl .f32 q0s), .row 3 q11 (.fl .f32 q1b), .s (.int .i64 q1o), .s (.flt .f32 q20), .s (.flt .f32 q1z)], .agg [.row 1 q21 (.fl .f32 q26), .row 1 q22 (.fl .f32 q28), .row 1 q23 (.fl .f32 q2a), .row 3 q2f (.fl .f32 q2i), .s (.int .i64 q2y), .s (.flt .f32 q34), .s (.flt .f32 q33)]]).2 (expo (impTs 0 [.agg [.row 1 q0k (.fl .f32 q0p), .row 1 q0m (.fl .f32 q0t), .row 1 q0l (.fl .f32 q0s), .row 3 q11 (.fl .f32 q1b), .s (.int .i64 q1o), .s (.flt .f32 q20), .s (.flt .f32 q1z)], .agg [.row 1 q21 (.fl .f32 q26), .row 1 q22 (.fl .f32 q28), .row 1 q23 (.fl .f32 q2a), .row 3 q2f (.fl .f32 q2i), .s (.int .i64 q2y), .s (.flt .f32 q34), .s (.flt .f32 q33)]]).2.length) = ze1 q0k q0p q0m q0t q0l q0s q11 q1b q1o q20 q1z q21 q26 q22 q28 q23 q2a q2f q2i q2y q34 q33 (fun c0_ => some ((AV.v (TV.one (At.bool c0_))), [])) := by kernel_rfl
theorem z4g : SumOne Try.prog 56 z5h := sum_of (Γ := Γ5) (fuel := 8) (d := 8) tyTab_ok (FnL.ok fnTab_ok _ _) (LpL.ok lt5_ok) (SumL.ok tb5_ok _) mixed (by
  intro pts v news hp hc
  clear hc
  unfold z5h at hp
  split at hp
  · rename_i q0k q0p q0m q0t q0l q0s q11 q1b q1o q20 q1z q21 q26 q22 q28 q23 q2a q2f q2i q2y q34 q33
    exact Eq.trans (Eq.trans (ztr q0k q0p q0m q0t q0l q0s q11 q1b q1o q20 q1z q21 q26 q22 q28 q23 q2a q2f q2i q2y q34 q33) (zqb (zo4 q0k q0p q0m q0t q0l q0s q11 q1b q1o q20 q1z q21 q26 q22 q28 q23 q2a q2f q2i q2y q34 q33) rfl q0k q0p q0m q0t q0l q0s q11 q1b q1o q20 q1z q21 q26 q22 q28 q23 q2a q2f q2i q2y q34 q33 (fun c0_ => some c0_))) (fin_out (o := (zo4 q0k q0p q0m q0t q0l q0s q11 q1b q1o q20 q1z q21 q26 q22 q28 q23 q2a q2f q2i q2y q34 q33)) (x := zdo q0k q0p q0m q0t q0l q0s q11 q1b q1o q20 q1z q21 q26 q22 q28 q23 q2a q2f q2i q2y q34 q33) (d := default) (V := fun r => ((AV.v (TV.one (At.bool r))), [])) (fun r => rfl) hp)
  · cases hp)
noncomputable def z6d : List PT → Option (Bool × AV × List Blk)
  | [.one (.s (.flt .f64 x))] => some ((zj5 x), ((AV.v (TV.one (At.flt FloatKind.f64 (za4 x)))), []))
  | _ => none
def zqm (x : Nat) : Option (Nat) → Option (AV × List Blk)
  | some r => some ((AV.v (TV.one (At.flt FloatKind.f64 r))), [])
  | none => none
theorem zu9 (x : Nat) : evFn Γ5 8 8 170 (impTs 0 [.one (.s (.flt .f64 x))]).1 (impTs 0 [.one (.s (.flt .f64 x))]).2 (expo (impTs 0 [.one (.s (.flt .f64 x))]).2.length) = zhi x (fun c0_ => some ((AV.v (TV.one (At.flt FloatKind.f64 c0_))), [])) := by kernel_rfl
theorem z5v : SumOne Try.prog 170 z6d := sum_of (Γ := Γ5) (fuel := 8) (d := 8) tyTab_ok (FnL.ok fnTab_ok _ _) (LpL.ok lt5_ok) (SumL.ok tb5_ok _) mixed (by
  intro pts v news hp hc
  clear hc
  unfold z6d at hp
  split at hp
  · rename_i x
    exact Eq.trans (Eq.trans (zu9 x) (zsf (zqm x) rfl x (fun c0_ => some c0_))) (fin_out (o := (zqm x)) (x := zhl x) (d := default) (V := fun r => ((AV.v (TV.one (At.flt FloatKind.f64 r))), [])) (fun r => rfl) hp)
  · cases hp)
noncomputable def z0h : List PT → Option (Bool × AV × List Blk)
  | [.one (.row 1 s_n (.fl .f32 s)), .fn 154 []] => some ((z7n s_n s), ((AV.v (TV.one (At.int IntKind.i64 (z7f s_n s)))), []))
  | _ => none
def zbp (s_n : Nat) (s : List Nat) : Option (Int) → Option (AV × List Blk)
  | some r => some ((AV.v (TV.one (At.int IntKind.i64 r))), [])
  | none => none
theorem zil (s_n : Nat) (s : List Nat) : evFn Γ5 8 8 178 (impTs 0 [.one (.row 1 s_n (.fl .f32 s)), .fn 154 []]).1 (impTs 0 [.one (.row 1 s_n (.fl .f32 s)), .fn 154 []]).2 (expo (impTs 0 [.one (.row 1 s_n (.fl .f32 s)), .fn 154 []]).2.length) = z5f s_n s (fun c0_ => some ((AV.v (TV.one (At.int IntKind.i64 c0_))), [])) := by kernel_rfl
theorem z0l : SumOne Try.prog 178 z0h := sum_of (Γ := Γ5) (fuel := 8) (d := 8) tyTab_ok (FnL.ok fnTab_ok _ _) (LpL.ok lt5_ok) (SumL.ok tb5_ok _) mixed (by
  intro pts v news hp hc
  clear hc
  unfold z0h at hp
  split at hp
  · rename_i s_n s
    exact Eq.trans (Eq.trans (zil s_n s) (zhm (zbp s_n s) rfl s_n s (fun c0_ => some c0_))) (fin_out (o := (zbp s_n s)) (x := z5g s_n s) (d := default) (V := fun r => ((AV.v (TV.one (At.int IntKind.i64 r))), [])) (fun r => rfl) hp)
  · cases hp)
noncomputable def z5d : Nat → St → Option (Bool × LO)
  | 0, (St.mk [(4, (AV.v (TV.one (At.bool q37)))), (5, (AV.v (TV.one (At.flt FloatKind.f64 z)))), (6, (AV.v (TV.one (At.flt FloatKind.f64 u)))), (7, (AV.v (TV.one (At.flt FloatKind.f64 p)))), (8, (AV.v (TV.one (At.flt FloatKind.f64 k))))] []) => some ((zak u p k), (LO.one (Ex.exit 0) (St.mk [(4, (AV.v (TV.one (At.bool q37)))), (5, (AV.v (TV.one (At.flt FloatKind.f64 z)))), (6, (AV.v (TV.one (At.flt FloatKind.f64 u)))), (7, (AV.v (TV.one (At.flt FloatKind.f64 (z8u u p k))))), (8, (AV.v (TV.one (At.flt FloatKind.f64 (zjx u p k))))), (25, (AV.v (TV.one (At.bool (zjw u p k)))))] [])))
  | _, _ => none
def zji (q37 : Bool) (z : Nat) (u : Nat) : Option ((Nat × Nat × Bool)) → Option (Ex × St)
  | none => none
  | some r => some ((Ex.exit 0), (St.mk [(4, (AV.v (TV.one (At.bool q37)))), (5, (AV.v (TV.one (At.flt FloatKind.f64 z)))), (6, (AV.v (TV.one (At.flt FloatKind.f64 u)))), (7, (AV.v (TV.one (At.flt FloatKind.f64 r.1)))), (8, (AV.v (TV.one (At.flt FloatKind.f64 r.2.1)))), (25, (AV.v (TV.one (At.bool r.2.2))))] []))
def zt2 (q37 : Bool) (z : Nat) (u : Nat) (x : Option ((Nat × Nat × Bool))) : LO := (LO.one (Ex.exit 0) (St.mk [(4, (AV.v (TV.one (At.bool q37)))), (5, (AV.v (TV.one (At.flt FloatKind.f64 z)))), (6, (AV.v (TV.one (At.flt FloatKind.f64 u)))), (7, (AV.v (TV.one (At.flt FloatKind.f64 (x.getD default).1)))), (8, (AV.v (TV.one (At.flt FloatKind.f64 (x.getD default).2.1)))), (25, (AV.v (TV.one (At.bool (x.getD default).2.2))))] []))
theorem zty (q37 : Bool) (z : Nat) (u : Nat) : ∀ x : Option ((Nat × Nat × Bool)), x.isSome = true → (zji q37 z u) x = some (pick (zt2 q37 z u x))
  | none, h => by cases h
  | some r, _ => rfl
theorem ztj (q37 : Bool) (z : Nat) (u : Nat) (p : Nat) (k : Nat) (K : Ex → St → Option (Ex × St)) : evC (R := Ex × St) Γ5 (evFn Γ5 8 8) 105 0 fi105.nt fi105.live fi105.nl 8 (findL 9 (loopsIn fi105.code)) (St.mk [(4, (AV.v (TV.one (At.bool q37)))), (5, (AV.v (TV.one (At.flt FloatKind.f64 z)))), (6, (AV.v (TV.one (At.flt FloatKind.f64 u)))), (7, (AV.v (TV.one (At.flt FloatKind.f64 p)))), (8, (AV.v (TV.one (At.flt FloatKind.f64 k))))] []) K = z9h u p k (fun p' k' => K .normal (St.mk [(4, (AV.v (TV.one (At.bool q37)))), (5, (AV.v (TV.one (At.flt FloatKind.f64 z)))), (6, (AV.v (TV.one (At.flt FloatKind.f64 u)))), (7, (AV.v (TV.one (At.flt FloatKind.f64 p')))), (8, (AV.v (TV.one (At.flt FloatKind.f64 k'))))] [])) (fun c0_ c1_ c2_ => K (Ex.exit 0) (St.mk [(4, (AV.v (TV.one (At.bool q37)))), (5, (AV.v (TV.one (At.flt FloatKind.f64 z)))), (6, (AV.v (TV.one (At.flt FloatKind.f64 u)))), (7, (AV.v (TV.one (At.flt FloatKind.f64 c0_)))), (8, (AV.v (TV.one (At.flt FloatKind.f64 c1_)))), (25, (AV.v (TV.one (At.bool c2_))))] [])) := by kernel_rfl
theorem ztg (q37 : Bool) (z : Nat) (u : Nat) : ∀ (n : Nat) (p : Nat) (k : Nat), iter 105 9 0 (evC (R := Ex × St) Γ5 (evFn Γ5 8 8) 105 0 fi105.nt fi105.live fi105.nl 8 (findL 9 (loopsIn fi105.code))) n (St.mk [(4, (AV.v (TV.one (At.bool q37)))), (5, (AV.v (TV.one (At.flt FloatKind.f64 z)))), (6, (AV.v (TV.one (At.flt FloatKind.f64 u)))), (7, (AV.v (TV.one (At.flt FloatKind.f64 p)))), (8, (AV.v (TV.one (At.flt FloatKind.f64 k))))] []) (fun e st => some (e, st)) = (zji q37 z u) (z6w u n p k) := by
  intro n
  induction n with
  | zero => intros; rfl
  | succ n ih =>
    intro p k
    refine Eq.trans (iter_succ ..) (Eq.trans (ztj q37 z u p k (nextK 105 9 0 (evC (R := Ex × St) Γ5 (evFn Γ5 8 8) 105 0 fi105.nt fi105.live fi105.nl 8 (findL 9 (loopsIn fi105.code))) n (fun e st => some (e, st)))) (Eq.trans ?_ (zq5 (zji q37 z u) rfl u p k (fun p' k' => z6w u n p' k') (fun c0_ c1_ c2_ => some (c0_, c1_, c2_)))))
    exact congrArg (fun kn_ => z9h u p k kn_ (fun c0_ c1_ c2_ => (zji q37 z u) (some (c0_, c1_, c2_)))) (funext fun p' => funext fun k' => ih p' k')
theorem z4f : LoopOne Try.prog fnTab 105 9 z5d := lp_of (Γ := Γ5) tyTab_ok (FnL.ok fnTab_ok _ _) (LpL.ok lt5_ok) (SumL.ok tb5_ok _) mixed (fi := fi105) (by kernel_rfl) (by kernel_rfl) (by
  intro lo st out hp
  unfold z5d at hp
  split at hp
  · rename_i q37 z u p k
    injection hp with hp
    injection hp with h1 h2
    subst h2
    exact ⟨8, 8, big, Eq.trans (ztg q37 z u big p k) (zty q37 z u (z6w u big p k) h1)⟩
  · cases hp)
noncomputable def tb6 : List (Nat × (List PT → Option (Bool × AV × List Blk))) := [(156, z0s), (181, z19), (182, z21), (189, z20), (26, z2s), (55, z2b), (84, z0x), (89, z3w), (102, z64), (112, z1y), (114, z3f), (115, z2c), (123, z2u), (126, z4l), (157, z65), (160, z1x), (162, z4h), (167, z2a), (175, z3x), (176, z1o), (187, z29), (74, z3n), (83, z0w), (85, z4a), (90, z3o), (103, z49), (111, z2p), (116, z32), (131, z2n), (138, z33), (148, z1v), (150, z16), (169, z2o), (185, z34), (52, z41), (154, z2m), (158, z5k), (166, z2l), (104, z2w), (119, z3d), (120, z2x), (168, z2y), (188, z2i), (54, z4w), (121, z3q), (122, z39), (165, z4y), (178, z0b), (178, z06), (184, z66), (56, z5h), (170, z6d), (178, z0h)]
noncomputable def lt6 : List ((Nat × Nat) × (Nat → St → Option (Bool × LO))) := [((166, 3), z18), ((120, 3), z1g), ((168, 4), z1f), ((188, 17), z10), ((122, 4), z1p), ((178, 2), z04), ((178, 2), z02), ((184, 5), z3s), ((178, 2), z07), ((105, 9), z5d)]
noncomputable def Γ6 : Ctx := ⟨tyTab, fnTab, tblSum tb6, tblLp lt6⟩
theorem tb6_ok : SumL Try.prog tb6 := SumL.cons z0r (SumL.cons z13 (SumL.cons z1j (SumL.cons z1i (SumL.cons z27 (SumL.cons z1r (SumL.cons z0t (SumL.cons z30 (SumL.cons z4t (SumL.cons z1d (SumL.cons z2k (SumL.cons z1u (SumL.cons z28 (SumL.cons z3k (SumL.cons z4s (SumL.cons z1e (SumL.cons z3j (SumL.cons z1s (SumL.cons z31 (SumL.cons z14 (SumL.cons z1t (SumL.cons z2z (SumL.cons z0u (SumL.cons z3c (SumL.cons z2v (SumL.cons z3b (SumL.cons z25 (SumL.cons z2j (SumL.cons z26 (SumL.cons z2g (SumL.cons z1b (SumL.cons z11 (SumL.cons z23 (SumL.cons z2h (SumL.cons z37 (SumL.cons z22 (SumL.cons z48 (SumL.cons z1z (SumL.cons z2d (SumL.cons z2q (SumL.cons z2e (SumL.cons z2f (SumL.cons z24 (SumL.cons z45 (SumL.cons z35 (SumL.cons z2r (SumL.cons z44 (SumL.cons z0d (SumL.cons z0a (SumL.cons z58 (SumL.cons z4g (SumL.cons z5v (SumL.cons z0l (SumL.nil)))))))))))))))))))))))))))))))))))))))))))))))))))))
theorem lt6_ok : LpL Try.prog fnTab lt6 := LpL.cons z12 (LpL.cons z17 (LpL.cons z15 (LpL.cons z0y (LpL.cons z1h (LpL.cons z05 (LpL.cons z03 (LpL.cons z36 (LpL.cons z09 (LpL.cons z4f (LpL.nil))))))))))
noncomputable def z7d : List PT → Option (Bool × AV × List Blk)
  | [.one (.s (.flt .f64 q29))] => some ((zkt q29), ((AV.v (TV.one (At.flt FloatKind.f64 (zje q29)))), []))
  | _ => none
def zrt (q29 : Nat) : Option (Nat) → Option (AV × List Blk)
  | some r => some ((AV.v (TV.one (At.flt FloatKind.f64 r))), [])
  | none => none
theorem zuh (q29 : Nat) : evFn Γ6 8 8 105 (impTs 0 [.one (.s (.flt .f64 q29))]).1 (impTs 0 [.one (.s (.flt .f64 q29))]).2 (expo (impTs 0 [.one (.s (.flt .f64 q29))]).2.length) = zik q29 (fun c0_ => some ((AV.v (TV.one (At.flt FloatKind.f64 c0_))), [])) := by kernel_rfl
theorem z6i : SumOne Try.prog 105 z7d := sum_of (Γ := Γ6) (fuel := 8) (d := 8) tyTab_ok (FnL.ok fnTab_ok _ _) (LpL.ok lt6_ok) (SumL.ok tb6_ok _) mixed (by
  intro pts v news hp hc
  clear hc
  unfold z7d at hp
  split at hp
  · rename_i q29
    exact Eq.trans (Eq.trans (zuh q29) (zsp (zrt q29) rfl q29 (fun c0_ => some c0_))) (fin_out (o := (zrt q29)) (x := zii q29) (d := default) (V := fun r => ((AV.v (TV.one (At.flt FloatKind.f64 r))), [])) (fun r => rfl) hp)
  · cases hp)
noncomputable def z4i : List PT → Option (Bool × AV × List Blk)
  | [.one (.s (.flt .f32 x))] => some ((zhy x), ((AV.v (TV.one (At.flt FloatKind.f32 (z38 x)))), []))
  | _ => none
def zls (x : Nat) : Option (Nat) → Option (AV × List Blk)
  | some r => some ((AV.v (TV.one (At.flt FloatKind.f32 r))), [])
  | none => none
theorem zs4 (x : Nat) : evFn Γ6 8 8 124 (impTs 0 [.one (.s (.flt .f32 x))]).1 (impTs 0 [.one (.s (.flt .f32 x))]).2 (expo (impTs 0 [.one (.s (.flt .f32 x))]).2.length) = zby x (fun c0_ => some ((AV.v (TV.one (At.flt FloatKind.f32 c0_))), [])) := by kernel_rfl
theorem z46 : SumOne Try.prog 124 z4i := sum_of (Γ := Γ6) (fuel := 8) (d := 8) tyTab_ok (FnL.ok fnTab_ok _ _) (LpL.ok lt6_ok) (SumL.ok tb6_ok _) mixed (by
  intro pts v news hp hc
  clear hc
  unfold z4i at hp
  split at hp
  · rename_i x
    exact Eq.trans (Eq.trans (zs4 x) (zox (zls x) rfl x (fun c0_ => some c0_))) (fin_out (o := (zls x)) (x := zc0 x) (d := default) (V := fun r => ((AV.v (TV.one (At.flt FloatKind.f32 r))), [])) (fun r => rfl) hp)
  · cases hp)
noncomputable def z0e : List PT → Option (Bool × AV × List Blk)
  | [.one (.row 1 s_n (.fl .f32 s)), .fn 148 []] => some ((z6v s_n s), ((AV.v (TV.one (At.bool (z6s s_n s)))), []))
  | _ => none
def zag (s_n : Nat) (s : List Nat) : Option (Bool) → Option (AV × List Blk)
  | some r => some ((AV.v (TV.one (At.bool r))), [])
  | none => none
theorem zhb (s_n : Nat) (s : List Nat) : evFn Γ6 8 8 147 (impTs 0 [.one (.row 1 s_n (.fl .f32 s)), .fn 148 []]).1 (impTs 0 [.one (.row 1 s_n (.fl .f32 s)), .fn 148 []]).2 (expo (impTs 0 [.one (.row 1 s_n (.fl .f32 s)), .fn 148 []]).2.length) = z4d s_n s (fun c0_ => some ((AV.v (TV.one (At.bool c0_))), [])) := by kernel_rfl
theorem z0i : SumOne Try.prog 147 z0e := sum_of (Γ := Γ6) (fuel := 8) (d := 8) tyTab_ok (FnL.ok fnTab_ok _ _) (LpL.ok lt6_ok) (SumL.ok tb6_ok _) mixed (by
  intro pts v news hp hc
  clear hc
  unfold z0e at hp
  split at hp
  · rename_i s_n s
    exact Eq.trans (Eq.trans (zhb s_n s) (zeo (zag s_n s) rfl s_n s (fun c0_ => some c0_))) (fin_out (o := (zag s_n s)) (x := z4c s_n s) (d := default) (V := fun r => ((AV.v (TV.one (At.bool r))), [])) (fun r => rfl) hp)
  · cases hp)
noncomputable def z08 : List PT → Option (Bool × AV × List Blk)
  | [.one (.row 1 s_n (.fl .f32 s)), .fn 150 []] => some ((z6n s_n s), ((AV.v (TV.one (At.bool (z6h s_n s)))), []))
  | _ => none
def za0 (s_n : Nat) (s : List Nat) : Option (Bool) → Option (AV × List Blk)
  | some r => some ((AV.v (TV.one (At.bool r))), [])
  | none => none
theorem zg7 (s_n : Nat) (s : List Nat) : evFn Γ6 8 8 147 (impTs 0 [.one (.row 1 s_n (.fl .f32 s)), .fn 150 []]).1 (impTs 0 [.one (.row 1 s_n (.fl .f32 s)), .fn 150 []]).2 (expo (impTs 0 [.one (.row 1 s_n (.fl .f32 s)), .fn 150 []]).2.length) = z3z s_n s (fun c0_ => some ((AV.v (TV.one (At.bool c0_))), [])) := by kernel_rfl
theorem z0f : SumOne Try.prog 147 z08 := sum_of (Γ := Γ6) (fuel := 8) (d := 8) tyTab_ok (FnL.ok fnTab_ok _ _) (LpL.ok lt6_ok) (SumL.ok tb6_ok _) mixed (by
  intro pts v news hp hc
  clear hc
  unfold z08 at hp
  split at hp
  · rename_i s_n s
    exact Eq.trans (Eq.trans (zg7 s_n s) (ze8 (za0 s_n s) rfl s_n s (fun c0_ => some c0_))) (fin_out (o := (za0 s_n s)) (x := z42 s_n s) (d := default) (V := fun r => ((AV.v (TV.one (At.bool r))), [])) (fun r => rfl) hp)
  · cases hp)
noncomputable def z0g : List PT → Option (Bool × AV × List Blk)
  | [.one (.row 1 s_n (.fl .f32 s)), .fn 154 []] => some ((z74 s_n s), ((AV.v (TV.one (At.bool (z6t s_n s)))), []))
  | _ => none
def zao (s_n : Nat) (s : List Nat) : Option (Bool) → Option (AV × List Blk)
  | some r => some ((AV.v (TV.one (At.bool r))), [])
  | none => none
theorem zhu (s_n : Nat) (s : List Nat) : evFn Γ6 8 8 147 (impTs 0 [.one (.row 1 s_n (.fl .f32 s)), .fn 154 []]).1 (impTs 0 [.one (.row 1 s_n (.fl .f32 s)), .fn 154 []]).2 (expo (impTs 0 [.one (.row 1 s_n (.fl .f32 s)), .fn 154 []]).2.length) = z4p s_n s (fun c0_ => some ((AV.v (TV.one (At.bool c0_))), [])) := by kernel_rfl
theorem z0k : SumOne Try.prog 147 z0g := sum_of (Γ := Γ6) (fuel := 8) (d := 8) tyTab_ok (FnL.ok fnTab_ok _ _) (LpL.ok lt6_ok) (SumL.ok tb6_ok _) mixed (by
  intro pts v news hp hc
  clear hc
  unfold z0g at hp
  split at hp
  · rename_i s_n s
    exact Eq.trans (Eq.trans (zhu s_n s) (zfr (zao s_n s) rfl s_n s (fun c0_ => some c0_))) (fin_out (o := (zao s_n s)) (x := z4o s_n s) (d := default) (V := fun r => ((AV.v (TV.one (At.bool r))), [])) (fun r => rfl) hp)
  · cases hp)
noncomputable def z5z : List PT → Option (Bool × AV × List Blk)
  | [.one (.s (.flt .f32 x))] => some ((zjm x), ((AV.v (TV.one (At.flt FloatKind.f32 (z01 x)))), []))
  | _ => none
def znl (x : Nat) : Option (Nat) → Option (AV × List Blk)
  | some r => some ((AV.v (TV.one (At.flt FloatKind.f32 r))), [])
  | none => none
theorem ztu (x : Nat) : evFn Γ6 8 8 198 (impTs 0 [.one (.s (.flt .f32 x))]).1 (impTs 0 [.one (.s (.flt .f32 x))]).2 (expo (impTs 0 [.one (.s (.flt .f32 x))]).2.length) = zdm x (fun c0_ => some ((AV.v (TV.one (At.flt FloatKind.f32 c0_))), [])) := by kernel_rfl
theorem z57 : SumOne Try.prog 198 z5z := sum_of (Γ := Γ6) (fuel := 8) (d := 8) tyTab_ok (FnL.ok fnTab_ok _ _) (LpL.ok lt6_ok) (SumL.ok tb6_ok _) mixed (by
  intro pts v news hp hc
  clear hc
  unfold z5z at hp
  split at hp
  · rename_i x
    exact Eq.trans (Eq.trans (ztu x) (zql (znl x) rfl x (fun c0_ => some c0_))) (fin_out (o := (znl x)) (x := ze5 x) (d := default) (V := fun r => ((AV.v (TV.one (At.flt FloatKind.f32 r))), [])) (fun r => rfl) hp)
  · cases hp)
noncomputable def z5a : Nat → St → Option (Bool × LO)
  | 5, (St.mk [(0, (AV.v (TV.one (At.ptr 4 0 7)))), (4, (AV.v (TV.one (At.flt FloatKind.f32 t4)))), (57, (AV.v (TV.one (At.int IntKind.i64 t57)))), (58, (AV.v (TV.one (At.int IntKind.i64 t58))))] [(Blk.mk Bool.false (Body.fl FloatKind.f32 b0)), (Blk.mk Bool.false (Body.fl FloatKind.f32 b1)), (Blk.mk Bool.false (Body.fl FloatKind.f32 b2)), (Blk.mk Bool.false (Body.fl FloatKind.f32 b3)), (Blk.mk Bool.false (Body.cells [(At.vw 0 0 q2o 1), (At.vw 1 0 q2p 1), (At.vw 2 0 q2n 1), (At.vw 3 0 q27 3), (At.int IntKind.i64 q2z), (At.flt FloatKind.f32 q30), (At.flt FloatKind.f32 q24)]))]) => some ((zaq t57 b3 q27 q24 t4 t58), (LO.two (za8 t57 b3 q27 q24 t4 t58) (LO.one Ex.ret (St.mk [(2, (AV.v (TV.one (At.bool Bool.false))))] [(Blk.mk Bool.false (Body.fl FloatKind.f32 b0)), (Blk.mk Bool.false (Body.fl FloatKind.f32 b1)), (Blk.mk Bool.false (Body.fl FloatKind.f32 b2)), (Blk.mk Bool.false (Body.fl FloatKind.f32 b3)), (Blk.mk Bool.false (Body.cells [(At.vw 0 0 q2o 1), (At.vw 1 0 q2p 1), (At.vw 2 0 q2n 1), (At.vw 3 0 q27 3), (At.int IntKind.i64 q2z), (At.flt FloatKind.f32 q30), (At.flt FloatKind.f32 q24)]))])) (LO.one (Ex.exit 0) (St.mk [(0, (AV.v (TV.one (At.ptr 4 0 7)))), (4, (AV.v (TV.one (At.flt FloatKind.f32 (zjc t57 b3 q27 q24 t4 t58))))), (57, (AV.v (TV.one (At.int IntKind.i64 t57)))), (58, (AV.v (TV.one (At.int IntKind.i64 (zjd t57 b3 q27 q24 t4 t58))))), (59, (AV.v (TV.one (At.bool (zja t57 b3 q27 q24 t4 t58)))))] [(Blk.mk Bool.false (Body.fl FloatKind.f32 b0)), (Blk.mk Bool.false (Body.fl FloatKind.f32 b1)), (Blk.mk Bool.false (Body.fl FloatKind.f32 b2)), (Blk.mk Bool.false (Body.fl FloatKind.f32 b3)), (Blk.mk Bool.false (Body.cells [(At.vw 0 0 q2o 1), (At.vw 1 0 q2p 1), (At.vw 2 0 q2n 1), (At.vw 3 0 q27 3), (At.int IntKind.i64 q2z), (At.flt FloatKind.f32 q30), (At.flt FloatKind.f32 q24)]))]))))
  | _, _ => none
def zfp (t57 : Int) (b0 : List Nat) (b1 : List Nat) (b2 : List Nat) (b3 : List Nat) (q2o : Nat) (q2p : Nat) (q2n : Nat) (q27 : Nat) (q2z : Int) (q30 : Nat) (q24 : Nat) : Option ((Unit) ⊕ (Nat × Int × Bool)) → Option (Ex × St)
  | none => none
  | some (Sum.inl r) => some (Ex.ret, (St.mk [(2, (AV.v (TV.one (At.bool Bool.false))))] [(Blk.mk Bool.false (Body.fl FloatKind.f32 b0)), (Blk.mk Bool.false (Body.fl FloatKind.f32 b1)), (Blk.mk Bool.false (Body.fl FloatKind.f32 b2)), (Blk.mk Bool.false (Body.fl FloatKind.f32 b3)), (Blk.mk Bool.false (Body.cells [(At.vw 0 0 q2o 1), (At.vw 1 0 q2p 1), (At.vw 2 0 q2n 1), (At.vw 3 0 q27 3), (At.int IntKind.i64 q2z), (At.flt FloatKind.f32 q30), (At.flt FloatKind.f32 q24)]))]))
  | some (Sum.inr r) => some ((Ex.exit 0), (St.mk [(0, (AV.v (TV.one (At.ptr 4 0 7)))), (4, (AV.v (TV.one (At.flt FloatKind.f32 r.1)))), (57, (AV.v (TV.one (At.int IntKind.i64 t57)))), (58, (AV.v (TV.one (At.int IntKind.i64 r.2.1)))), (59, (AV.v (TV.one (At.bool r.2.2))))] [(Blk.mk Bool.false (Body.fl FloatKind.f32 b0)), (Blk.mk Bool.false (Body.fl FloatKind.f32 b1)), (Blk.mk Bool.false (Body.fl FloatKind.f32 b2)), (Blk.mk Bool.false (Body.fl FloatKind.f32 b3)), (Blk.mk Bool.false (Body.cells [(At.vw 0 0 q2o 1), (At.vw 1 0 q2p 1), (At.vw 2 0 q2n 1), (At.vw 3 0 q27 3), (At.int IntKind.i64 q2z), (At.flt FloatKind.f32 q30), (At.flt FloatKind.f32 q24)]))]))
def zsj (t57 : Int) (b0 : List Nat) (b1 : List Nat) (b2 : List Nat) (b3 : List Nat) (q2o : Nat) (q2p : Nat) (q2n : Nat) (q27 : Nat) (q2z : Int) (q30 : Nat) (q24 : Nat) (x : Option ((Unit) ⊕ (Nat × Int × Bool))) : LO := (LO.two (oL x) (LO.one Ex.ret (St.mk [(2, (AV.v (TV.one (At.bool Bool.false))))] [(Blk.mk Bool.false (Body.fl FloatKind.f32 b0)), (Blk.mk Bool.false (Body.fl FloatKind.f32 b1)), (Blk.mk Bool.false (Body.fl FloatKind.f32 b2)), (Blk.mk Bool.false (Body.fl FloatKind.f32 b3)), (Blk.mk Bool.false (Body.cells [(At.vw 0 0 q2o 1), (At.vw 1 0 q2p 1), (At.vw 2 0 q2n 1), (At.vw 3 0 q27 3), (At.int IntKind.i64 q2z), (At.flt FloatKind.f32 q30), (At.flt FloatKind.f32 q24)]))])) (LO.one (Ex.exit 0) (St.mk [(0, (AV.v (TV.one (At.ptr 4 0 7)))), (4, (AV.v (TV.one (At.flt FloatKind.f32 ((tR x).getD default).1)))), (57, (AV.v (TV.one (At.int IntKind.i64 t57)))), (58, (AV.v (TV.one (At.int IntKind.i64 ((tR x).getD default).2.1)))), (59, (AV.v (TV.one (At.bool ((tR x).getD default).2.2))))] [(Blk.mk Bool.false (Body.fl FloatKind.f32 b0)), (Blk.mk Bool.false (Body.fl FloatKind.f32 b1)), (Blk.mk Bool.false (Body.fl FloatKind.f32 b2)), (Blk.mk Bool.false (Body.fl FloatKind.f32 b3)), (Blk.mk Bool.false (Body.cells [(At.vw 0 0 q2o 1), (At.vw 1 0 q2p 1), (At.vw 2 0 q2n 1), (At.vw 3 0 q27 3), (At.int IntKind.i64 q2z), (At.flt FloatKind.f32 q30), (At.flt FloatKind.f32 q24)]))])))
theorem ztc (t57 : Int) (b0 : List Nat) (b1 : List Nat) (b2 : List Nat) (b3 : List Nat) (q2o : Nat) (q2p : Nat) (q2n : Nat) (q27 : Nat) (q2z : Int) (q30 : Nat) (q24 : Nat) : ∀ x : Option ((Unit) ⊕ (Nat × Int × Bool)), x.isSome = true → (zfp t57 b0 b1 b2 b3 q2o q2p q2n q27 q2z q30 q24) x = some (pick (zsj t57 b0 b1 b2 b3 q2o q2p q2n q27 q2z q30 q24 x))
  | none, h => by cases h
  | some (Sum.inl r), _ => rfl
  | some (Sum.inr r), _ => rfl
theorem zt7 (t4 : Nat) (t57 : Int) (t58 : Int) (b0 : List Nat) (b1 : List Nat) (b2 : List Nat) (b3 : List Nat) (q2o : Nat) (q2p : Nat) (q2n : Nat) (q27 : Nat) (q2z : Int) (q30 : Nat) (q24 : Nat) (K : Ex → St → Option (Ex × St)) : evC (R := Ex × St) Γ6 (evFn Γ6 8 8) 161 5 fi161.nt fi161.live fi161.nl 8 (findL 6 (loopsIn fi161.code)) (St.mk [(0, (AV.v (TV.one (At.ptr 4 0 7)))), (4, (AV.v (TV.one (At.flt FloatKind.f32 t4)))), (57, (AV.v (TV.one (At.int IntKind.i64 t57)))), (58, (AV.v (TV.one (At.int IntKind.i64 t58))))] [(Blk.mk Bool.false (Body.fl FloatKind.f32 b0)), (Blk.mk Bool.false (Body.fl FloatKind.f32 b1)), (Blk.mk Bool.false (Body.fl FloatKind.f32 b2)), (Blk.mk Bool.false (Body.fl FloatKind.f32 b3)), (Blk.mk Bool.false (Body.cells [(At.vw 0 0 q2o 1), (At.vw 1 0 q2p 1), (At.vw 2 0 q2n 1), (At.vw 3 0 q27 3), (At.int IntKind.i64 q2z), (At.flt FloatKind.f32 q30), (At.flt FloatKind.f32 q24)]))]) K = z8y t57 b3 q27 q24 t4 t58 (fun t4' t58' => K .normal (St.mk [(0, (AV.v (TV.one (At.ptr 4 0 7)))), (4, (AV.v (TV.one (At.flt FloatKind.f32 t4')))), (57, (AV.v (TV.one (At.int IntKind.i64 t57)))), (58, (AV.v (TV.one (At.int IntKind.i64 t58'))))] [(Blk.mk Bool.false (Body.fl FloatKind.f32 b0)), (Blk.mk Bool.false (Body.fl FloatKind.f32 b1)), (Blk.mk Bool.false (Body.fl FloatKind.f32 b2)), (Blk.mk Bool.false (Body.fl FloatKind.f32 b3)), (Blk.mk Bool.false (Body.cells [(At.vw 0 0 q2o 1), (At.vw 1 0 q2p 1), (At.vw 2 0 q2n 1), (At.vw 3 0 q27 3), (At.int IntKind.i64 q2z), (At.flt FloatKind.f32 q30), (At.flt FloatKind.f32 q24)]))])) (fun _ => K Ex.ret (St.mk [(2, (AV.v (TV.one (At.bool Bool.false))))] [(Blk.mk Bool.false (Body.fl FloatKind.f32 b0)), (Blk.mk Bool.false (Body.fl FloatKind.f32 b1)), (Blk.mk Bool.false (Body.fl FloatKind.f32 b2)), (Blk.mk Bool.false (Body.fl FloatKind.f32 b3)), (Blk.mk Bool.false (Body.cells [(At.vw 0 0 q2o 1), (At.vw 1 0 q2p 1), (At.vw 2 0 q2n 1), (At.vw 3 0 q27 3), (At.int IntKind.i64 q2z), (At.flt FloatKind.f32 q30), (At.flt FloatKind.f32 q24)]))])) (fun c0_ c1_ c2_ => K (Ex.exit 0) (St.mk [(0, (AV.v (TV.one (At.ptr 4 0 7)))), (4, (AV.v (TV.one (At.flt FloatKind.f32 c0_)))), (57, (AV.v (TV.one (At.int IntKind.i64 t57)))), (58, (AV.v (TV.one (At.int IntKind.i64 c1_)))), (59, (AV.v (TV.one (At.bool c2_))))] [(Blk.mk Bool.false (Body.fl FloatKind.f32 b0)), (Blk.mk Bool.false (Body.fl FloatKind.f32 b1)), (Blk.mk Bool.false (Body.fl FloatKind.f32 b2)), (Blk.mk Bool.false (Body.fl FloatKind.f32 b3)), (Blk.mk Bool.false (Body.cells [(At.vw 0 0 q2o 1), (At.vw 1 0 q2p 1), (At.vw 2 0 q2n 1), (At.vw 3 0 q27 3), (At.int IntKind.i64 q2z), (At.flt FloatKind.f32 q30), (At.flt FloatKind.f32 q24)]))])) := by kernel_rfl
theorem zsv (t57 : Int) (b0 : List Nat) (b1 : List Nat) (b2 : List Nat) (b3 : List Nat) (q2o : Nat) (q2p : Nat) (q2n : Nat) (q27 : Nat) (q2z : Int) (q30 : Nat) (q24 : Nat) : ∀ (n : Nat) (t4 : Nat) (t58 : Int), iter 161 6 5 (evC (R := Ex × St) Γ6 (evFn Γ6 8 8) 161 5 fi161.nt fi161.live fi161.nl 8 (findL 6 (loopsIn fi161.code))) n (St.mk [(0, (AV.v (TV.one (At.ptr 4 0 7)))), (4, (AV.v (TV.one (At.flt FloatKind.f32 t4)))), (57, (AV.v (TV.one (At.int IntKind.i64 t57)))), (58, (AV.v (TV.one (At.int IntKind.i64 t58))))] [(Blk.mk Bool.false (Body.fl FloatKind.f32 b0)), (Blk.mk Bool.false (Body.fl FloatKind.f32 b1)), (Blk.mk Bool.false (Body.fl FloatKind.f32 b2)), (Blk.mk Bool.false (Body.fl FloatKind.f32 b3)), (Blk.mk Bool.false (Body.cells [(At.vw 0 0 q2o 1), (At.vw 1 0 q2p 1), (At.vw 2 0 q2n 1), (At.vw 3 0 q27 3), (At.int IntKind.i64 q2z), (At.flt FloatKind.f32 q30), (At.flt FloatKind.f32 q24)]))]) (fun e st => some (e, st)) = (zfp t57 b0 b1 b2 b3 q2o q2p q2n q27 q2z q30 q24) (z59 t57 b3 q27 q24 n t4 t58) := by
  intro n
  induction n with
  | zero => intros; rfl
  | succ n ih =>
    intro t4 t58
    refine Eq.trans (iter_succ ..) (Eq.trans (zt7 t4 t57 t58 b0 b1 b2 b3 q2o q2p q2n q27 q2z q30 q24 (nextK 161 6 5 (evC (R := Ex × St) Γ6 (evFn Γ6 8 8) 161 5 fi161.nt fi161.live fi161.nl 8 (findL 6 (loopsIn fi161.code))) n (fun e st => some (e, st)))) (Eq.trans ?_ (zpm (zfp t57 b0 b1 b2 b3 q2o q2p q2n q27 q2z q30 q24) rfl t57 b3 q27 q24 t4 t58 (fun t4' t58' => z59 t57 b3 q27 q24 n t4' t58') (fun _ => some (Sum.inl ())) (fun c0_ c1_ c2_ => some (Sum.inr (c0_, c1_, c2_))))))
    exact congrArg (fun kn_ => z8y t57 b3 q27 q24 t4 t58 kn_ (fun _ => (zfp t57 b0 b1 b2 b3 q2o q2p q2n q27 q2z q30 q24) (some (Sum.inl ()))) (fun c0_ c1_ c2_ => (zfp t57 b0 b1 b2 b3 q2o q2p q2n q27 q2z q30 q24) (some (Sum.inr (c0_, c1_, c2_))))) (funext fun t4' => funext fun t58' => ih t4' t58')
theorem z4k : LoopOne Try.prog fnTab 161 6 z5a := lp_of (Γ := Γ6) tyTab_ok (FnL.ok fnTab_ok _ _) (LpL.ok lt6_ok) (SumL.ok tb6_ok _) mixed (fi := fi161) (by kernel_rfl) (by kernel_rfl) (by
  intro lo st out hp
  unfold z5a at hp
  split at hp
  · rename_i t4 t57 t58 b0 b1 b2 b3 q2o q2p q2n q27 q2z q30 q24
    injection hp with hp
    injection hp with h1 h2
    subst h2
    exact ⟨8, 8, big, Eq.trans (zsv t57 b0 b1 b2 b3 q2o q2p q2n q27 q2z q30 q24 big t4 t58) (ztc t57 b0 b1 b2 b3 q2o q2p q2n q27 q2z q30 q24 (z59 t57 b3 q27 q24 big t4 t58) h1)⟩
  · cases hp)
noncomputable def tb7 : List (Nat × (List PT → Option (Bool × AV × List Blk))) := [(156, z0s), (181, z19), (182, z21), (189, z20), (26, z2s), (55, z2b), (84, z0x), (89, z3w), (102, z64), (112, z1y), (114, z3f), (115, z2c), (123, z2u), (126, z4l), (157, z65), (160, z1x), (162, z4h), (167, z2a), (175, z3x), (176, z1o), (187, z29), (74, z3n), (83, z0w), (85, z4a), (90, z3o), (103, z49), (111, z2p), (116, z32), (131, z2n), (138, z33), (148, z1v), (150, z16), (169, z2o), (185, z34), (52, z41), (154, z2m), (158, z5k), (166, z2l), (104, z2w), (119, z3d), (120, z2x), (168, z2y), (188, z2i), (54, z4w), (121, z3q), (122, z39), (165, z4y), (178, z0b), (178, z06), (184, z66), (56, z5h), (170, z6d), (178, z0h), (105, z7d), (124, z4i), (147, z0e), (147, z08), (147, z0g), (198, z5z)]
noncomputable def lt7 : List ((Nat × Nat) × (Nat → St → Option (Bool × LO))) := [((166, 3), z18), ((120, 3), z1g), ((168, 4), z1f), ((188, 17), z10), ((122, 4), z1p), ((178, 2), z04), ((178, 2), z02), ((184, 5), z3s), ((178, 2), z07), ((105, 9), z5d), ((161, 6), z5a)]
noncomputable def Γ7 : Ctx := ⟨tyTab, fnTab, tblSum tb7, tblLp lt7⟩
theorem tb7_ok : SumL Try.prog tb7 := SumL.cons z0r (SumL.cons z13 (SumL.cons z1j (SumL.cons z1i (SumL.cons z27 (SumL.cons z1r (SumL.cons z0t (SumL.cons z30 (SumL.cons z4t (SumL.cons z1d (SumL.cons z2k (SumL.cons z1u (SumL.cons z28 (SumL.cons z3k (SumL.cons z4s (SumL.cons z1e (SumL.cons z3j (SumL.cons z1s (SumL.cons z31 (SumL.cons z14 (SumL.cons z1t (SumL.cons z2z (SumL.cons z0u (SumL.cons z3c (SumL.cons z2v (SumL.cons z3b (SumL.cons z25 (SumL.cons z2j (SumL.cons z26 (SumL.cons z2g (SumL.cons z1b (SumL.cons z11 (SumL.cons z23 (SumL.cons z2h (SumL.cons z37 (SumL.cons z22 (SumL.cons z48 (SumL.cons z1z (SumL.cons z2d (SumL.cons z2q (SumL.cons z2e (SumL.cons z2f (SumL.cons z24 (SumL.cons z45 (SumL.cons z35 (SumL.cons z2r (SumL.cons z44 (SumL.cons z0d (SumL.cons z0a (SumL.cons z58 (SumL.cons z4g (SumL.cons z5v (SumL.cons z0l (SumL.cons z6i (SumL.cons z46 (SumL.cons z0i (SumL.cons z0f (SumL.cons z0k (SumL.cons z57 (SumL.nil)))))))))))))))))))))))))))))))))))))))))))))))))))))))))))
theorem lt7_ok : LpL Try.prog fnTab lt7 := LpL.cons z12 (LpL.cons z17 (LpL.cons z15 (LpL.cons z0y (LpL.cons z1h (LpL.cons z05 (LpL.cons z03 (LpL.cons z36 (LpL.cons z09 (LpL.cons z4f (LpL.cons z4k (LpL.nil)))))))))))
noncomputable def z54 : List PT → Option (Bool × AV × List Blk)
  | [.one (.row 1 q1m (.fl .f32 q1y))] => some ((zi2 q1m q1y), ((AV.v (TV.one (At.bool (zgr q1m q1y)))), []))
  | _ => none
def zmb (q1m : Nat) (q1y : List Nat) : Option (Bool) → Option (AV × List Blk)
  | some r => some ((AV.v (TV.one (At.bool r))), [])
  | none => none
theorem zs0 (q1m : Nat) (q1y : List Nat) : evFn Γ7 8 8 77 (impTs 0 [.one (.row 1 q1m (.fl .f32 q1y))]).1 (impTs 0 [.one (.row 1 q1m (.fl .f32 q1y))]).2 (expo (impTs 0 [.one (.row 1 q1m (.fl .f32 q1y))]).2.length) = zcc q1m q1y (fun c0_ => some ((AV.v (TV.one (At.bool c0_))), [])) := by kernel_rfl
theorem z4u : SumOne Try.prog 77 z54 := sum_of (Γ := Γ7) (fuel := 8) (d := 8) tyTab_ok (FnL.ok fnTab_ok _ _) (LpL.ok lt7_ok) (SumL.ok tb7_ok _) mixed (by
  intro pts v news hp hc
  clear hc
  unfold z54 at hp
  split at hp
  · rename_i q1m q1y
    exact Eq.trans (Eq.trans (zs0 q1m q1y) (zoj (zmb q1m q1y) rfl q1m q1y (fun c0_ => some c0_))) (fin_out (o := (zmb q1m q1y)) (x := zbx q1m q1y) (d := default) (V := fun r => ((AV.v (TV.one (At.bool r))), [])) (fun r => rfl) hp)
  · cases hp)
noncomputable def z43 : List PT → Option (Bool × AV × List Blk)
  | [.one (.row 1 q1m (.fl .f32 q1y))] => some ((zaj q1m q1y), ((AV.v (TV.one (At.bool (z9z q1m q1y)))), []))
  | _ => none
def zkz (q1m : Nat) (q1y : List Nat) : Option (Bool) → Option (AV × List Blk)
  | some r => some ((AV.v (TV.one (At.bool r))), [])
  | none => none
theorem zqq (q1m : Nat) (q1y : List Nat) : evFn Γ7 8 8 88 (impTs 0 [.one (.row 1 q1m (.fl .f32 q1y))]).1 (impTs 0 [.one (.row 1 q1m (.fl .f32 q1y))]).2 (expo (impTs 0 [.one (.row 1 q1m (.fl .f32 q1y))]).2.length) = zad q1m q1y (fun c0_ => some ((AV.v (TV.one (At.bool c0_))), [])) := by kernel_rfl
theorem z3v : SumOne Try.prog 88 z43 := sum_of (Γ := Γ7) (fuel := 8) (d := 8) tyTab_ok (FnL.ok fnTab_ok _ _) (LpL.ok lt7_ok) (SumL.ok tb7_ok _) mixed (by
  intro pts v news hp hc
  clear hc
  unfold z43 at hp
  split at hp
  · rename_i q1m q1y
    exact Eq.trans (Eq.trans (zqq q1m q1y) (zn6 (zkz q1m q1y) rfl q1m q1y (fun c0_ => some c0_))) (fin_out (o := (zkz q1m q1y)) (x := z8g q1m q1y) (d := default) (V := fun r => ((AV.v (TV.one (At.bool r))), [])) (fun r => rfl) hp)
  · cases hp)
noncomputable def z5r : List PT → Option (Bool × AV × List Blk)
  | [.one (.row 1 q1m (.fl .f32 q1y))] => some ((ziz q1m q1y), ((AV.v (TV.one (At.bool (zi9 q1m q1y)))), []))
  | _ => none
def zmo (q1m : Nat) (q1y : List Nat) : Option (Bool) → Option (AV × List Blk)
  | some r => some ((AV.v (TV.one (At.bool r))), [])
  | none => none
theorem zsm (q1m : Nat) (q1y : List Nat) : evFn Γ7 8 8 97 (impTs 0 [.one (.row 1 q1m (.fl .f32 q1y))]).1 (impTs 0 [.one (.row 1 q1m (.fl .f32 q1y))]).2 (expo (impTs 0 [.one (.row 1 q1m (.fl .f32 q1y))]).2.length) = zd0 q1m q1y (fun c0_ => some ((AV.v (TV.one (At.bool c0_))), [])) := by kernel_rfl
theorem z5b : SumOne Try.prog 97 z5r := sum_of (Γ := Γ7) (fuel := 8) (d := 8) tyTab_ok (FnL.ok fnTab_ok _ _) (LpL.ok lt7_ok) (SumL.ok tb7_ok _) mixed (by
  intro pts v news hp hc
  clear hc
  unfold z5r at hp
  split at hp
  · rename_i q1m q1y
    exact Eq.trans (Eq.trans (zsm q1m q1y) (zpk (zmo q1m q1y) rfl q1m q1y (fun c0_ => some c0_))) (fin_out (o := (zmo q1m q1y)) (x := zcu q1m q1y) (d := default) (V := fun r => ((AV.v (TV.one (At.bool r))), [])) (fun r => rfl) hp)
  · cases hp)
noncomputable def z55 : List PT → Option (Bool × AV × List Blk)
  | [.one (.s (.flt .f32 x))] => some ((z87 x), ((AV.v (TV.one (At.flt FloatKind.f32 (z5s x)))), []))
  | _ => none
def zlu (x : Nat) : Option (Nat) → Option (AV × List Blk)
  | some r => some ((AV.v (TV.one (At.flt FloatKind.f32 r))), [])
  | none => none
theorem zsl (x : Nat) : evFn Γ7 8 8 109 (impTs 0 [.one (.s (.flt .f32 x))]).1 (impTs 0 [.one (.s (.flt .f32 x))]).2 (expo (impTs 0 [.one (.s (.flt .f32 x))]).2.length) = zcb x (fun c0_ => some ((AV.v (TV.one (At.flt FloatKind.f32 c0_))), [])) := by kernel_rfl
theorem z4v : SumOne Try.prog 109 z55 := sum_of (Γ := Γ7) (fuel := 8) (d := 8) tyTab_ok (FnL.ok fnTab_ok _ _) (LpL.ok lt7_ok) (SumL.ok tb7_ok _) mixed (by
  intro pts v news hp hc
  clear hc
  unfold z55 at hp
  split at hp
  · rename_i x
    exact Eq.trans (Eq.trans (zsl x) (zol (zlu x) rfl x (fun c0_ => some c0_))) (fin_out (o := (zlu x)) (x := zcg x) (d := default) (V := fun r => ((AV.v (TV.one (At.flt FloatKind.f32 r))), [])) (fun r => rfl) hp)
  · cases hp)
noncomputable def z76 : List PT → Option (Bool × AV × List Blk)
  | [.ptr [.row 1 q10 (.fl .f32 q15), .row 1 q13 (.fl .f32 q19), .row 1 q14 (.fl .f32 q18), .row 3 q1a (.fl .f32 q1l), .s (.int .i64 q1q), .s (.flt .f32 q1u), .s (.flt .f32 q1v)]] => some ((zkk q10 q15 q13 q19 q14 q18 q1a q1l q1q q1u q1v), ((AV.v (TV.one (At.bool (zk4 q10 q15 q13 q19 q14 q18 q1a q1l q1q q1u q1v)))), []))
  | _ => none
def zqi (q10 : Nat) (q15 : List Nat) (q13 : Nat) (q19 : List Nat) (q14 : Nat) (q18 : List Nat) (q1a : Nat) (q1l : List Nat) (q1q : Int) (q1u : Nat) (q1v : Nat) : Option (Bool) → Option (AV × List Blk)
  | some r => some ((AV.v (TV.one (At.bool r))), [])
  | none => none
theorem zua (q10 : Nat) (q15 : List Nat) (q13 : Nat) (q19 : List Nat) (q14 : Nat) (q18 : List Nat) (q1a : Nat) (q1l : List Nat) (q1q : Int) (q1u : Nat) (q1v : Nat) : evFn Γ7 8 8 161 (impTs 0 [.ptr [.row 1 q10 (.fl .f32 q15), .row 1 q13 (.fl .f32 q19), .row 1 q14 (.fl .f32 q18), .row 3 q1a (.fl .f32 q1l), .s (.int .i64 q1q), .s (.flt .f32 q1u), .s (.flt .f32 q1v)]]).1 (impTs 0 [.ptr [.row 1 q10 (.fl .f32 q15), .row 1 q13 (.fl .f32 q19), .row 1 q14 (.fl .f32 q18), .row 3 q1a (.fl .f32 q1l), .s (.int .i64 q1q), .s (.flt .f32 q1u), .s (.flt .f32 q1v)]]).2 (expo (impTs 0 [.ptr [.row 1 q10 (.fl .f32 q15), .row 1 q13 (.fl .f32 q19), .row 1 q14 (.fl .f32 q18), .row 3 q1a (.fl .f32 q1l), .s (.int .i64 q1q), .s (.flt .f32 q1u), .s (.flt .f32 q1v)]]).2.length) = zh5 q10 q15 q13 q19 q14 q18 q1a q1l q1q q1u q1v (fun c0_ => some ((AV.v (TV.one (At.bool c0_))), [])) := by kernel_rfl
theorem z6f : SumOne Try.prog 161 z76 := sum_of (Γ := Γ7) (fuel := 8) (d := 8) tyTab_ok (FnL.ok fnTab_ok _ _) (LpL.ok lt7_ok) (SumL.ok tb7_ok _) mixed (by
  intro pts v news hp hc
  clear hc
  unfold z76 at hp
  split at hp
  · rename_i q10 q15 q13 q19 q14 q18 q1a q1l q1q q1u q1v
    exact Eq.trans (Eq.trans (zua q10 q15 q13 q19 q14 q18 q1a q1l q1q q1u q1v) (zsk (zqi q10 q15 q13 q19 q14 q18 q1a q1l q1q q1u q1v) rfl q10 q15 q13 q19 q14 q18 q1a q1l q1q q1u q1v (fun c0_ => some c0_))) (fin_out (o := (zqi q10 q15 q13 q19 q14 q18 q1a q1l q1q q1u q1v)) (x := zh9 q10 q15 q13 q19 q14 q18 q1a q1l q1q q1u q1v) (d := default) (V := fun r => ((AV.v (TV.one (At.bool r))), [])) (fun r => rfl) hp)
  · cases hp)
noncomputable def tb8 : List (Nat × (List PT → Option (Bool × AV × List Blk))) := [(156, z0s), (181, z19), (182, z21), (189, z20), (26, z2s), (55, z2b), (84, z0x), (89, z3w), (102, z64), (112, z1y), (114, z3f), (115, z2c), (123, z2u), (126, z4l), (157, z65), (160, z1x), (162, z4h), (167, z2a), (175, z3x), (176, z1o), (187, z29), (74, z3n), (83, z0w), (85, z4a), (90, z3o), (103, z49), (111, z2p), (116, z32), (131, z2n), (138, z33), (148, z1v), (150, z16), (169, z2o), (185, z34), (52, z41), (154, z2m), (158, z5k), (166, z2l), (104, z2w), (119, z3d), (120, z2x), (168, z2y), (188, z2i), (54, z4w), (121, z3q), (122, z39), (165, z4y), (178, z0b), (178, z06), (184, z66), (56, z5h), (170, z6d), (178, z0h), (105, z7d), (124, z4i), (147, z0e), (147, z08), (147, z0g), (198, z5z), (77, z54), (88, z43), (97, z5r), (109, z55), (161, z76)]
noncomputable def lt8 : List ((Nat × Nat) × (Nat → St → Option (Bool × LO))) := [((166, 3), z18), ((120, 3), z1g), ((168, 4), z1f), ((188, 17), z10), ((122, 4), z1p), ((178, 2), z04), ((178, 2), z02), ((184, 5), z3s), ((178, 2), z07), ((105, 9), z5d), ((161, 6), z5a)]
noncomputable def Γ8 : Ctx := ⟨tyTab, fnTab, tblSum tb8, tblLp lt8⟩
theorem tb8_ok : SumL Try.prog tb8 := SumL.cons z0r (SumL.cons z13 (SumL.cons z1j (SumL.cons z1i (SumL.cons z27 (SumL.cons z1r (SumL.cons z0t (SumL.cons z30 (SumL.cons z4t (SumL.cons z1d (SumL.cons z2k (SumL.cons z1u (SumL.cons z28 (SumL.cons z3k (SumL.cons z4s (SumL.cons z1e (SumL.cons z3j (SumL.cons z1s (SumL.cons z31 (SumL.cons z14 (SumL.cons z1t (SumL.cons z2z (SumL.cons z0u (SumL.cons z3c (SumL.cons z2v (SumL.cons z3b (SumL.cons z25 (SumL.cons z2j (SumL.cons z26 (SumL.cons z2g (SumL.cons z1b (SumL.cons z11 (SumL.cons z23 (SumL.cons z2h (SumL.cons z37 (SumL.cons z22 (SumL.cons z48 (SumL.cons z1z (SumL.cons z2d (SumL.cons z2q (SumL.cons z2e (SumL.cons z2f (SumL.cons z24 (SumL.cons z45 (SumL.cons z35 (SumL.cons z2r (SumL.cons z44 (SumL.cons z0d (SumL.cons z0a (SumL.cons z58 (SumL.cons z4g (SumL.cons z5v (SumL.cons z0l (SumL.cons z6i (SumL.cons z46 (SumL.cons z0i (SumL.cons z0f (SumL.cons z0k (SumL.cons z57 (SumL.cons z4u (SumL.cons z3v (SumL.cons z5b (SumL.cons z4v (SumL.cons z6f (SumL.nil))))))))))))))))))))))))))))))))))))))))))))))))))))))))))))))))
theorem lt8_ok : LpL Try.prog fnTab lt8 := LpL.cons z12 (LpL.cons z17 (LpL.cons z15 (LpL.cons z0y (LpL.cons z1h (LpL.cons z05 (LpL.cons z03 (LpL.cons z36 (LpL.cons z09 (LpL.cons z4f (LpL.cons z4k (LpL.nil)))))))))))
noncomputable def z3e : List PT → Option (Bool × AV × List Blk)
  | [.agg [.row 1 q00 (.fl .f32 q03), .row 1 q02 (.fl .f32 q05), .row 1 q01 (.fl .f32 q04), .row 3 q06 (.fl .f32 q09), .s (.int .i64 q0e), .s (.flt .f32 q0h), .s (.flt .f32 q0g)], .one (.s (.int .i64 i)), .one (.s (.flt .f32 q0z))] => some ((zcx q00 q03 q02 q05 q01 q04 q06 q09 q0e q0h q0g i q0z), ((AV.v (TV.one (At.flt FloatKind.f32 (za2 q00 q03 q02 q05 q01 q04 q06 q09 q0e q0h q0g i q0z)))), []))
  | _ => none
def zka (q00 : Nat) (q03 : List Nat) (q02 : Nat) (q05 : List Nat) (q01 : Nat) (q04 : List Nat) (q06 : Nat) (q09 : List Nat) (q0e : Int) (q0h : Nat) (q0g : Nat) (i : Int) (q0z : Nat) : Option (Nat) → Option (AV × List Blk)
  | some r => some ((AV.v (TV.one (At.flt FloatKind.f32 r))), [])
  | none => none
theorem zo0 (q00 : Nat) (q03 : List Nat) (q02 : Nat) (q05 : List Nat) (q01 : Nat) (q04 : List Nat) (q06 : Nat) (q09 : List Nat) (q0e : Int) (q0h : Nat) (q0g : Nat) (i : Int) (q0z : Nat) : evFn Γ8 8 8 86 (impTs 0 [.agg [.row 1 q00 (.fl .f32 q03), .row 1 q02 (.fl .f32 q05), .row 1 q01 (.fl .f32 q04), .row 3 q06 (.fl .f32 q09), .s (.int .i64 q0e), .s (.flt .f32 q0h), .s (.flt .f32 q0g)], .one (.s (.int .i64 i)), .one (.s (.flt .f32 q0z))]).1 (impTs 0 [.agg [.row 1 q00 (.fl .f32 q03), .row 1 q02 (.fl .f32 q05), .row 1 q01 (.fl .f32 q04), .row 3 q06 (.fl .f32 q09), .s (.int .i64 q0e), .s (.flt .f32 q0h), .s (.flt .f32 q0g)], .one (.s (.int .i64 i)), .one (.s (.flt .f32 q0z))]).2 (expo (impTs 0 [.agg [.row 1 q00 (.fl .f32 q03), .row 1 q02 (.fl .f32 q05), .row 1 q01 (.fl .f32 q04), .row 3 q06 (.fl .f32 q09), .s (.int .i64 q0e), .s (.flt .f32 q0h), .s (.flt .f32 q0g)], .one (.s (.int .i64 i)), .one (.s (.flt .f32 q0z))]).2.length) = z90 q00 q03 q02 q05 q01 q04 q06 q09 q0e q0h q0g i q0z (fun c0_ => some ((AV.v (TV.one (At.flt FloatKind.f32 c0_))), [])) := by kernel_rfl
theorem z3a : SumOne Try.prog 86 z3e := sum_of (Γ := Γ8) (fuel := 8) (d := 8) tyTab_ok (FnL.ok fnTab_ok _ _) (LpL.ok lt8_ok) (SumL.ok tb8_ok _) mixed (by
  intro pts v news hp hc
  clear hc
  unfold z3e at hp
  split at hp
  · rename_i q00 q03 q02 q05 q01 q04 q06 q09 q0e q0h q0g i q0z
    exact Eq.trans (Eq.trans (zo0 q00 q03 q02 q05 q01 q04 q06 q09 q0e q0h q0g i q0z) (zlj (zka q00 q03 q02 q05 q01 q04 q06 q09 q0e q0h q0g i q0z) rfl q00 q03 q02 q05 q01 q04 q06 q09 q0e q0h q0g i q0z (fun c0_ => some c0_))) (fin_out (o := (zka q00 q03 q02 q05 q01 q04 q06 q09 q0e q0h q0g i q0z)) (x := z8z q00 q03 q02 q05 q01 q04 q06 q09 q0e q0h q0g i q0z) (d := default) (V := fun r => ((AV.v (TV.one (At.flt FloatKind.f32 r))), [])) (fun r => rfl) hp)
  · cases hp)
noncomputable def z52 : List PT → Option (Bool × AV × List Blk)
  | [.ptr [.row 1 q00 (.fl .f32 q03), .row 1 q02 (.fl .f32 q05), .row 1 q01 (.fl .f32 q04), .row 3 q06 (.fl .f32 q09), .s (.int .i64 q0e), .s (.flt .f32 q0h), .s (.flt .f32 q0g)], .one (.s (.int .i64 i))] => some ((zgf q00 q03 q02 q05 q01 q04 q06 q09 q0e q0h q0g i), ((AV.v (TV.one (At.bool (zfq q00 q03 q02 q05 q01 q04 q06 q09 q0e q0h q0g i)))), []))
  | _ => none
def zl7 (q00 : Nat) (q03 : List Nat) (q02 : Nat) (q05 : List Nat) (q01 : Nat) (q04 : List Nat) (q06 : Nat) (q09 : List Nat) (q0e : Int) (q0h : Nat) (q0g : Nat) (i : Int) : Option (Bool) → Option (AV × List Blk)
  | some r => some ((AV.v (TV.one (At.bool r))), [])
  | none => none
theorem zrr (q00 : Nat) (q03 : List Nat) (q02 : Nat) (q05 : List Nat) (q01 : Nat) (q04 : List Nat) (q06 : Nat) (q09 : List Nat) (q0e : Int) (q0h : Nat) (q0g : Nat) (i : Int) : evFn Γ8 8 8 113 (impTs 0 [.ptr [.row 1 q00 (.fl .f32 q03), .row 1 q02 (.fl .f32 q05), .row 1 q01 (.fl .f32 q04), .row 3 q06 (.fl .f32 q09), .s (.int .i64 q0e), .s (.flt .f32 q0h), .s (.flt .f32 q0g)], .one (.s (.int .i64 i))]).1 (impTs 0 [.ptr [.row 1 q00 (.fl .f32 q03), .row 1 q02 (.fl .f32 q05), .row 1 q01 (.fl .f32 q04), .row 3 q06 (.fl .f32 q09), .s (.int .i64 q0e), .s (.flt .f32 q0h), .s (.flt .f32 q0g)], .one (.s (.int .i64 i))]).2 (expo (impTs 0 [.ptr [.row 1 q00 (.fl .f32 q03), .row 1 q02 (.fl .f32 q05), .row 1 q01 (.fl .f32 q04), .row 3 q06 (.fl .f32 q09), .s (.int .i64 q0e), .s (.flt .f32 q0h), .s (.flt .f32 q0g)], .one (.s (.int .i64 i))]).2.length) = zb7 q00 q03 q02 q05 q01 q04 q06 q09 q0e q0h q0g i (fun c0_ => some ((AV.v (TV.one (At.bool c0_))), [])) := by kernel_rfl
theorem z4x : SumOne Try.prog 113 z52 := sum_of (Γ := Γ8) (fuel := 8) (d := 8) tyTab_ok (FnL.ok fnTab_ok _ _) (LpL.ok lt8_ok) (SumL.ok tb8_ok _) mixed (by
  intro pts v news hp hc
  clear hc
  unfold z52 at hp
  split at hp
  · rename_i q00 q03 q02 q05 q01 q04 q06 q09 q0e q0h q0g i
    exact Eq.trans (Eq.trans (zrr q00 q03 q02 q05 q01 q04 q06 q09 q0e q0h q0g i) (zo3 (zl7 q00 q03 q02 q05 q01 q04 q06 q09 q0e q0h q0g i) rfl q00 q03 q02 q05 q01 q04 q06 q09 q0e q0h q0g i (fun c0_ => some c0_))) (fin_out (o := (zl7 q00 q03 q02 q05 q01 q04 q06 q09 q0e q0h q0g i)) (x := zba q00 q03 q02 q05 q01 q04 q06 q09 q0e q0h q0g i) (d := default) (V := fun r => ((AV.v (TV.one (At.bool r))), [])) (fun r => rfl) hp)
  · cases hp)
noncomputable def z0j : Nat → St → Option (Bool × LO)
  | 5, (St.mk [(0, (AV.v (TV.one (At.vw 0 0 sn 1)))), (1, (AV.v (TV.one (At.fn 179 [(At.ptr 4 0 1)])))), (7, (AV.v (TV.one (At.int IntKind.i64 t7)))), (8, (AV.v (TV.one (At.int IntKind.i64 t8))))] [(Blk.mk Bool.false (Body.fl FloatKind.f32 b0)), (Blk.mk Bool.false (Body.fl FloatKind.f32 b1)), (Blk.mk Bool.false (Body.fl FloatKind.f32 b2)), (Blk.mk Bool.true (Body.cells [(At.vw 0 0 q1h 1), (At.vw 1 0 q1x 1), (At.vw 2 0 q1w 1)])), (Blk.mk Bool.true (Body.cells [(At.flt FloatKind.f32 b4)]))]) => some ((z3u sn t7 b0 b4 t8), (LO.two (z3p sn t7 b0 b4 t8) (LO.one Ex.ret (St.mk [(4, (AV.v (TV.one (At.int IntKind.i64 (z0q sn t7 b0 b4 t8)))))] [(Blk.mk Bool.false (Body.fl FloatKind.f32 b0)), (Blk.mk Bool.false (Body.fl FloatKind.f32 b1)), (Blk.mk Bool.false (Body.fl FloatKind.f32 b2)), (Blk.mk Bool.true (Body.cells [(At.vw 0 0 q1h 1), (At.vw 1 0 q1x 1), (At.vw 2 0 q1w 1)])), (Blk.mk Bool.true (Body.cells [(At.flt FloatKind.f32 b4)]))])) (LO.one (Ex.exit 0) (St.mk [(0, (AV.v (TV.one (At.vw 0 0 sn 1)))), (1, (AV.v (TV.one (At.fn 179 [(At.ptr 4 0 1)])))), (7, (AV.v (TV.one (At.int IntKind.i64 t7)))), (8, (AV.v (TV.one (At.int IntKind.i64 (z7l sn t7 b0 b4 t8))))), (9, (AV.v (TV.one (At.bool (z7k sn t7 b0 b4 t8)))))] [(Blk.mk Bool.false (Body.fl FloatKind.f32 b0)), (Blk.mk Bool.false (Body.fl FloatKind.f32 b1)), (Blk.mk Bool.false (Body.fl FloatKind.f32 b2)), (Blk.mk Bool.true (Body.cells [(At.vw 0 0 q1h 1), (At.vw 1 0 q1x 1), (At.vw 2 0 q1w 1)])), (Blk.mk Bool.true (Body.cells [(At.flt FloatKind.f32 b4)]))]))))
  | _, _ => none
def z5c (sn : Nat) (t7 : Int) (b0 : List Nat) (b1 : List Nat) (b2 : List Nat) (q1h : Nat) (q1x : Nat) (q1w : Nat) (b4 : Nat) : Option ((Int) ⊕ (Int × Bool)) → Option (Ex × St)
  | none => none
  | some (Sum.inl r) => some (Ex.ret, (St.mk [(4, (AV.v (TV.one (At.int IntKind.i64 r))))] [(Blk.mk Bool.false (Body.fl FloatKind.f32 b0)), (Blk.mk Bool.false (Body.fl FloatKind.f32 b1)), (Blk.mk Bool.false (Body.fl FloatKind.f32 b2)), (Blk.mk Bool.true (Body.cells [(At.vw 0 0 q1h 1), (At.vw 1 0 q1x 1), (At.vw 2 0 q1w 1)])), (Blk.mk Bool.true (Body.cells [(At.flt FloatKind.f32 b4)]))]))
  | some (Sum.inr r) => some ((Ex.exit 0), (St.mk [(0, (AV.v (TV.one (At.vw 0 0 sn 1)))), (1, (AV.v (TV.one (At.fn 179 [(At.ptr 4 0 1)])))), (7, (AV.v (TV.one (At.int IntKind.i64 t7)))), (8, (AV.v (TV.one (At.int IntKind.i64 r.1)))), (9, (AV.v (TV.one (At.bool r.2))))] [(Blk.mk Bool.false (Body.fl FloatKind.f32 b0)), (Blk.mk Bool.false (Body.fl FloatKind.f32 b1)), (Blk.mk Bool.false (Body.fl FloatKind.f32 b2)), (Blk.mk Bool.true (Body.cells [(At.vw 0 0 q1h 1), (At.vw 1 0 q1x 1), (At.vw 2 0 q1w 1)])), (Blk.mk Bool.true (Body.cells [(At.flt FloatKind.f32 b4)]))]))
def zf1 (sn : Nat) (t7 : Int) (b0 : List Nat) (b1 : List Nat) (b2 : List Nat) (q1h : Nat) (q1x : Nat) (q1w : Nat) (b4 : Nat) (x : Option ((Int) ⊕ (Int × Bool))) : LO := (LO.two (oL x) (LO.one Ex.ret (St.mk [(4, (AV.v (TV.one (At.int IntKind.i64 ((tL x).getD default)))))] [(Blk.mk Bool.false (Body.fl FloatKind.f32 b0)), (Blk.mk Bool.false (Body.fl FloatKind.f32 b1)), (Blk.mk Bool.false (Body.fl FloatKind.f32 b2)), (Blk.mk Bool.true (Body.cells [(At.vw 0 0 q1h 1), (At.vw 1 0 q1x 1), (At.vw 2 0 q1w 1)])), (Blk.mk Bool.true (Body.cells [(At.flt FloatKind.f32 b4)]))])) (LO.one (Ex.exit 0) (St.mk [(0, (AV.v (TV.one (At.vw 0 0 sn 1)))), (1, (AV.v (TV.one (At.fn 179 [(At.ptr 4 0 1)])))), (7, (AV.v (TV.one (At.int IntKind.i64 t7)))), (8, (AV.v (TV.one (At.int IntKind.i64 ((tR x).getD default).1)))), (9, (AV.v (TV.one (At.bool ((tR x).getD default).2))))] [(Blk.mk Bool.false (Body.fl FloatKind.f32 b0)), (Blk.mk Bool.false (Body.fl FloatKind.f32 b1)), (Blk.mk Bool.false (Body.fl FloatKind.f32 b2)), (Blk.mk Bool.true (Body.cells [(At.vw 0 0 q1h 1), (At.vw 1 0 q1x 1), (At.vw 2 0 q1w 1)])), (Blk.mk Bool.true (Body.cells [(At.flt FloatKind.f32 b4)]))])))
theorem zfi (sn : Nat) (t7 : Int) (b0 : List Nat) (b1 : List Nat) (b2 : List Nat) (q1h : Nat) (q1x : Nat) (q1w : Nat) (b4 : Nat) : ∀ x : Option ((Int) ⊕ (Int × Bool)), x.isSome = true → (z5c sn t7 b0 b1 b2 q1h q1x q1w b4) x = some (pick (zf1 sn t7 b0 b1 b2 q1h q1x q1w b4 x))
  | none, h => by cases h
  | some (Sum.inl r), _ => rfl
  | some (Sum.inr r), _ => rfl
theorem zfl (sn : Nat) (t7 : Int) (t8 : Int) (b0 : List Nat) (b1 : List Nat) (b2 : List Nat) (q1h : Nat) (q1x : Nat) (q1w : Nat) (b4 : Nat) (K : Ex → St → Option (Ex × St)) : evC (R := Ex × St) Γ8 (evFn Γ8 8 8) 178 5 fi178.nt fi178.live fi178.nl 8 (findL 2 (loopsIn fi178.code)) (St.mk [(0, (AV.v (TV.one (At.vw 0 0 sn 1)))), (1, (AV.v (TV.one (At.fn 179 [(At.ptr 4 0 1)])))), (7, (AV.v (TV.one (At.int IntKind.i64 t7)))), (8, (AV.v (TV.one (At.int IntKind.i64 t8))))] [(Blk.mk Bool.false (Body.fl FloatKind.f32 b0)), (Blk.mk Bool.false (Body.fl FloatKind.f32 b1)), (Blk.mk Bool.false (Body.fl FloatKind.f32 b2)), (Blk.mk Bool.true (Body.cells [(At.vw 0 0 q1h 1), (At.vw 1 0 q1x 1), (At.vw 2 0 q1w 1)])), (Blk.mk Bool.true (Body.cells [(At.flt FloatKind.f32 b4)]))]) K = z1a sn t7 b0 b4 t8 (fun t8' => K .normal (St.mk [(0, (AV.v (TV.one (At.vw 0 0 sn 1)))), (1, (AV.v (TV.one (At.fn 179 [(At.ptr 4 0 1)])))), (7, (AV.v (TV.one (At.int IntKind.i64 t7)))), (8, (AV.v (TV.one (At.int IntKind.i64 t8'))))] [(Blk.mk Bool.false (Body.fl FloatKind.f32 b0)), (Blk.mk Bool.false (Body.fl FloatKind.f32 b1)), (Blk.mk Bool.false (Body.fl FloatKind.f32 b2)), (Blk.mk Bool.true (Body.cells [(At.vw 0 0 q1h 1), (At.vw 1 0 q1x 1), (At.vw 2 0 q1w 1)])), (Blk.mk Bool.true (Body.cells [(At.flt FloatKind.f32 b4)]))])) (fun c0_ => K Ex.ret (St.mk [(4, (AV.v (TV.one (At.int IntKind.i64 c0_))))] [(Blk.mk Bool.false (Body.fl FloatKind.f32 b0)), (Blk.mk Bool.false (Body.fl FloatKind.f32 b1)), (Blk.mk Bool.false (Body.fl FloatKind.f32 b2)), (Blk.mk Bool.true (Body.cells [(At.vw 0 0 q1h 1), (At.vw 1 0 q1x 1), (At.vw 2 0 q1w 1)])), (Blk.mk Bool.true (Body.cells [(At.flt FloatKind.f32 b4)]))])) (fun c0_ c1_ => K (Ex.exit 0) (St.mk [(0, (AV.v (TV.one (At.vw 0 0 sn 1)))), (1, (AV.v (TV.one (At.fn 179 [(At.ptr 4 0 1)])))), (7, (AV.v (TV.one (At.int IntKind.i64 t7)))), (8, (AV.v (TV.one (At.int IntKind.i64 c0_)))), (9, (AV.v (TV.one (At.bool c1_))))] [(Blk.mk Bool.false (Body.fl FloatKind.f32 b0)), (Blk.mk Bool.false (Body.fl FloatKind.f32 b1)), (Blk.mk Bool.false (Body.fl FloatKind.f32 b2)), (Blk.mk Bool.true (Body.cells [(At.vw 0 0 q1h 1), (At.vw 1 0 q1x 1), (At.vw 2 0 q1w 1)])), (Blk.mk Bool.true (Body.cells [(At.flt FloatKind.f32 b4)]))])) := by kernel_rfl
theorem zfz (sn : Nat) (t7 : Int) (b0 : List Nat) (b1 : List Nat) (b2 : List Nat) (q1h : Nat) (q1x : Nat) (q1w : Nat) (b4 : Nat) : ∀ (n : Nat) (t8 : Int), iter 178 2 5 (evC (R := Ex × St) Γ8 (evFn Γ8 8 8) 178 5 fi178.nt fi178.live fi178.nl 8 (findL 2 (loopsIn fi178.code))) n (St.mk [(0, (AV.v (TV.one (At.vw 0 0 sn 1)))), (1, (AV.v (TV.one (At.fn 179 [(At.ptr 4 0 1)])))), (7, (AV.v (TV.one (At.int IntKind.i64 t7)))), (8, (AV.v (TV.one (At.int IntKind.i64 t8))))] [(Blk.mk Bool.false (Body.fl FloatKind.f32 b0)), (Blk.mk Bool.false (Body.fl FloatKind.f32 b1)), (Blk.mk Bool.false (Body.fl FloatKind.f32 b2)), (Blk.mk Bool.true (Body.cells [(At.vw 0 0 q1h 1), (At.vw 1 0 q1x 1), (At.vw 2 0 q1w 1)])), (Blk.mk Bool.true (Body.cells [(At.flt FloatKind.f32 b4)]))]) (fun e st => some (e, st)) = (z5c sn t7 b0 b1 b2 q1h q1x q1w b4) (z0c sn t7 b0 b4 n t8) := by
  intro n
  induction n with
  | zero => intros; rfl
  | succ n ih =>
    intro t8
    refine Eq.trans (iter_succ ..) (Eq.trans (zfl sn t7 t8 b0 b1 b2 q1h q1x q1w b4 (nextK 178 2 5 (evC (R := Ex × St) Γ8 (evFn Γ8 8 8) 178 5 fi178.nt fi178.live fi178.nl 8 (findL 2 (loopsIn fi178.code))) n (fun e st => some (e, st)))) (Eq.trans ?_ (zdp (z5c sn t7 b0 b1 b2 q1h q1x q1w b4) rfl sn t7 b0 b4 t8 (fun t8' => z0c sn t7 b0 b4 n t8') (fun c0_ => some (Sum.inl c0_)) (fun c0_ c1_ => some (Sum.inr (c0_, c1_))))))
    exact congrArg (fun kn_ => z1a sn t7 b0 b4 t8 kn_ (fun c0_ => (z5c sn t7 b0 b1 b2 q1h q1x q1w b4) (some (Sum.inl c0_))) (fun c0_ c1_ => (z5c sn t7 b0 b1 b2 q1h q1x q1w b4) (some (Sum.inr (c0_, c1_))))) (funext fun t8' => ih t8')
theorem z0m : LoopOne Try.prog fnTab 178 2 z0j := lp_of (Γ := Γ8) tyTab_ok (FnL.ok fnTab_ok _ _) (LpL.ok lt8_ok) (SumL.ok tb8_ok _) mixed (fi := fi178) (by kernel_rfl) (by kernel_rfl) (by
  intro lo st out hp
  unfold z0j at hp
  split at hp
  · rename_i sn t7 t8 b0 b1 b2 q1h q1x q1w b4
    injection hp with hp
    injection hp with h1 h2
    subst h2
    exact ⟨8, 8, big, Eq.trans (zfz sn t7 b0 b1 b2 q1h q1x q1w b4 big t8) (zfi sn t7 b0 b1 b2 q1h q1x q1w b4 (z0c sn t7 b0 b4 big t8) h1)⟩
  · cases hp)
noncomputable def z56 : Nat → St → Option (Bool × LO)
  | 4, (St.mk [(0, (AV.v (TV.one (At.ptr 3 0 3)))), (8, (AV.v (TV.one (At.flt FloatKind.f32 t8)))), (9, (AV.v (TV.one (At.int IntKind.i64 t9)))), (10, (AV.v (TV.one (At.int IntKind.i64 t10))))] [(Blk.mk Bool.false (Body.fl FloatKind.f32 b0)), (Blk.mk Bool.false (Body.fl FloatKind.f32 b1)), (Blk.mk Bool.false (Body.fl FloatKind.f32 b2)), (Blk.mk Bool.false (Body.cells [(At.vw 0 0 q1h 1), (At.vw 1 0 q1x 1), (At.vw 2 0 q1w 1)]))]) => some ((zgs t8 b0 q1h t10), (LO.one (Ex.exit 0) (St.mk [(0, (AV.v (TV.one (At.ptr 3 0 3)))), (8, (AV.v (TV.one (At.flt FloatKind.f32 t8)))), (9, (AV.v (TV.one (At.int IntKind.i64 t9)))), (10, (AV.v (TV.one (At.int IntKind.i64 (z00 t8 b0 q1h t10))))), (36, (AV.v (TV.one (At.bool (zi0 t8 b0 q1h t10)))))] [(Blk.mk Bool.false (Body.fl FloatKind.f32 b0)), (Blk.mk Bool.false (Body.fl FloatKind.f32 b1)), (Blk.mk Bool.false (Body.fl FloatKind.f32 b2)), (Blk.mk Bool.false (Body.cells [(At.vw 0 0 q1h 1), (At.vw 1 0 q1x 1), (At.vw 2 0 q1w 1)]))])))
  | _, _ => none
def zgu (t8 : Nat) (t9 : Int) (b0 : List Nat) (b1 : List Nat) (b2 : List Nat) (q1h : Nat) (q1x : Nat) (q1w : Nat) : Option ((Int × Bool)) → Option (Ex × St)
  | none => none
  | some r => some ((Ex.exit 0), (St.mk [(0, (AV.v (TV.one (At.ptr 3 0 3)))), (8, (AV.v (TV.one (At.flt FloatKind.f32 t8)))), (9, (AV.v (TV.one (At.int IntKind.i64 t9)))), (10, (AV.v (TV.one (At.int IntKind.i64 r.1)))), (36, (AV.v (TV.one (At.bool r.2))))] [(Blk.mk Bool.false (Body.fl FloatKind.f32 b0)), (Blk.mk Bool.false (Body.fl FloatKind.f32 b1)), (Blk.mk Bool.false (Body.fl FloatKind.f32 b2)), (Blk.mk Bool.false (Body.cells [(At.vw 0 0 q1h 1), (At.vw 1 0 q1x 1), (At.vw 2 0 q1w 1)]))]))
def zq1 (t8 : Nat) (t9 : Int) (b0 : List Nat) (b1 : List Nat) (b2 : List Nat) (q1h : Nat) (q1x : Nat) (q1w : Nat) (x : Option ((Int × Bool))) : LO := (LO.one (Ex.exit 0) (St.mk [(0, (AV.v (TV.one (At.ptr 3 0 3)))), (8, (AV.v (TV.one (At.flt FloatKind.f32 t8)))), (9, (AV.v (TV.one (At.int IntKind.i64 t9)))), (10, (AV.v (TV.one (At.int IntKind.i64 (x.getD default).1)))), (36, (AV.v (TV.one (At.bool (x.getD default).2))))] [(Blk.mk Bool.false (Body.fl FloatKind.f32 b0)), (Blk.mk Bool.false (Body.fl FloatKind.f32 b1)), (Blk.mk Bool.false (Body.fl FloatKind.f32 b2)), (Blk.mk Bool.false (Body.cells [(At.vw 0 0 q1h 1), (At.vw 1 0 q1x 1), (At.vw 2 0 q1w 1)]))]))
theorem zrs (t8 : Nat) (t9 : Int) (b0 : List Nat) (b1 : List Nat) (b2 : List Nat) (q1h : Nat) (q1x : Nat) (q1w : Nat) : ∀ x : Option ((Int × Bool)), x.isSome = true → (zgu t8 t9 b0 b1 b2 q1h q1x q1w) x = some (pick (zq1 t8 t9 b0 b1 b2 q1h q1x q1w x))
  | none, h => by cases h
  | some r, _ => rfl
theorem zri (t8 : Nat) (t9 : Int) (t10 : Int) (b0 : List Nat) (b1 : List Nat) (b2 : List Nat) (q1h : Nat) (q1x : Nat) (q1w : Nat) (K : Ex → St → Option (Ex × St)) : evC (R := Ex × St) Γ8 (evFn Γ8 8 8) 193 4 fi193.nt fi193.live fi193.nl 8 (findL 4 (loopsIn fi193.code)) (St.mk [(0, (AV.v (TV.one (At.ptr 3 0 3)))), (8, (AV.v (TV.one (At.flt FloatKind.f32 t8)))), (9, (AV.v (TV.one (At.int IntKind.i64 t9)))), (10, (AV.v (TV.one (At.int IntKind.i64 t10))))] [(Blk.mk Bool.false (Body.fl FloatKind.f32 b0)), (Blk.mk Bool.false (Body.fl FloatKind.f32 b1)), (Blk.mk Bool.false (Body.fl FloatKind.f32 b2)), (Blk.mk Bool.false (Body.cells [(At.vw 0 0 q1h 1), (At.vw 1 0 q1x 1), (At.vw 2 0 q1w 1)]))]) K = z8b t8 b0 q1h t10 (fun t10' => K .normal (St.mk [(0, (AV.v (TV.one (At.ptr 3 0 3)))), (8, (AV.v (TV.one (At.flt FloatKind.f32 t8)))), (9, (AV.v (TV.one (At.int IntKind.i64 t9)))), (10, (AV.v (TV.one (At.int IntKind.i64 t10'))))] [(Blk.mk Bool.false (Body.fl FloatKind.f32 b0)), (Blk.mk Bool.false (Body.fl FloatKind.f32 b1)), (Blk.mk Bool.false (Body.fl FloatKind.f32 b2)), (Blk.mk Bool.false (Body.cells [(At.vw 0 0 q1h 1), (At.vw 1 0 q1x 1), (At.vw 2 0 q1w 1)]))])) (fun c0_ c1_ => K (Ex.exit 0) (St.mk [(0, (AV.v (TV.one (At.ptr 3 0 3)))), (8, (AV.v (TV.one (At.flt FloatKind.f32 t8)))), (9, (AV.v (TV.one (At.int IntKind.i64 t9)))), (10, (AV.v (TV.one (At.int IntKind.i64 c0_)))), (36, (AV.v (TV.one (At.bool c1_))))] [(Blk.mk Bool.false (Body.fl FloatKind.f32 b0)), (Blk.mk Bool.false (Body.fl FloatKind.f32 b1)), (Blk.mk Bool.false (Body.fl FloatKind.f32 b2)), (Blk.mk Bool.false (Body.cells [(At.vw 0 0 q1h 1), (At.vw 1 0 q1x 1), (At.vw 2 0 q1w 1)]))])) := by kernel_rfl
theorem zrb (t8 : Nat) (t9 : Int) (b0 : List Nat) (b1 : List Nat) (b2 : List Nat) (q1h : Nat) (q1x : Nat) (q1w : Nat) : ∀ (n : Nat) (t10 : Int), iter 193 4 4 (evC (R := Ex × St) Γ8 (evFn Γ8 8 8) 193 4 fi193.nt fi193.live fi193.nl 8 (findL 4 (loopsIn fi193.code))) n (St.mk [(0, (AV.v (TV.one (At.ptr 3 0 3)))), (8, (AV.v (TV.one (At.flt FloatKind.f32 t8)))), (9, (AV.v (TV.one (At.int IntKind.i64 t9)))), (10, (AV.v (TV.one (At.int IntKind.i64 t10))))] [(Blk.mk Bool.false (Body.fl FloatKind.f32 b0)), (Blk.mk Bool.false (Body.fl FloatKind.f32 b1)), (Blk.mk Bool.false (Body.fl FloatKind.f32 b2)), (Blk.mk Bool.false (Body.cells [(At.vw 0 0 q1h 1), (At.vw 1 0 q1x 1), (At.vw 2 0 q1w 1)]))]) (fun e st => some (e, st)) = (zgu t8 t9 b0 b1 b2 q1h q1x q1w) (z6l t8 b0 q1h n t10) := by
  intro n
  induction n with
  | zero => intros; rfl
  | succ n ih =>
    intro t10
    refine Eq.trans (iter_succ ..) (Eq.trans (zri t8 t9 t10 b0 b1 b2 q1h q1x q1w (nextK 193 4 4 (evC (R := Ex × St) Γ8 (evFn Γ8 8 8) 193 4 fi193.nt fi193.live fi193.nl 8 (findL 4 (loopsIn fi193.code))) n (fun e st => some (e, st)))) (Eq.trans ?_ (znr (zgu t8 t9 b0 b1 b2 q1h q1x q1w) rfl t8 b0 q1h t10 (fun t10' => z6l t8 b0 q1h n t10') (fun c0_ c1_ => some (c0_, c1_)))))
    exact congrArg (fun kn_ => z8b t8 b0 q1h t10 kn_ (fun c0_ c1_ => (zgu t8 t9 b0 b1 b2 q1h q1x q1w) (some (c0_, c1_)))) (funext fun t10' => ih t10')
theorem z4z : LoopOne Try.prog fnTab 193 4 z56 := lp_of (Γ := Γ8) tyTab_ok (FnL.ok fnTab_ok _ _) (LpL.ok lt8_ok) (SumL.ok tb8_ok _) mixed (fi := fi193) (by kernel_rfl) (by kernel_rfl) (by
  intro lo st out hp
  unfold z56 at hp
  split at hp
  · rename_i t8 t9 t10 b0 b1 b2 q1h q1x q1w
    injection hp with hp
    injection hp with h1 h2
    subst h2
    exact ⟨8, 8, big, Eq.trans (zrb t8 t9 b0 b1 b2 q1h q1x q1w big t10) (zrs t8 t9 b0 b1 b2 q1h q1x q1w (z6l t8 b0 q1h big t10) h1)⟩
  · cases hp)
noncomputable def tb9 : List (Nat × (List PT → Option (Bool × AV × List Blk))) := [(156, z0s), (181, z19), (182, z21), (189, z20), (26, z2s), (55, z2b), (84, z0x), (89, z3w), (102, z64), (112, z1y), (114, z3f), (115, z2c), (123, z2u), (126, z4l), (157, z65), (160, z1x), (162, z4h), (167, z2a), (175, z3x), (176, z1o), (187, z29), (74, z3n), (83, z0w), (85, z4a), (90, z3o), (103, z49), (111, z2p), (116, z32), (131, z2n), (138, z33), (148, z1v), (150, z16), (169, z2o), (185, z34), (52, z41), (154, z2m), (158, z5k), (166, z2l), (104, z2w), (119, z3d), (120, z2x), (168, z2y), (188, z2i), (54, z4w), (121, z3q), (122, z39), (165, z4y), (178, z0b), (178, z06), (184, z66), (56, z5h), (170, z6d), (178, z0h), (105, z7d), (124, z4i), (147, z0e), (147, z08), (147, z0g), (198, z5z), (77, z54), (88, z43), (97, z5r), (109, z55), (161, z76), (86, z3e), (113, z52)]
noncomputable def lt9 : List ((Nat × Nat) × (Nat → St → Option (Bool × LO))) := [((166, 3), z18), ((120, 3), z1g), ((168, 4), z1f), ((188, 17), z10), ((122, 4), z1p), ((178, 2), z04), ((178, 2), z02), ((184, 5), z3s), ((178, 2), z07), ((105, 9), z5d), ((161, 6), z5a), ((178, 2), z0j), ((193, 4), z56)]
noncomputable def Γ9 : Ctx := ⟨tyTab, fnTab, tblSum tb9, tblLp lt9⟩
theorem tb9_ok : SumL Try.prog tb9 := SumL.cons z0r (SumL.cons z13 (SumL.cons z1j (SumL.cons z1i (SumL.cons z27 (SumL.cons z1r (SumL.cons z0t (SumL.cons z30 (SumL.cons z4t (SumL.cons z1d (SumL.cons z2k (SumL.cons z1u (SumL.cons z28 (SumL.cons z3k (SumL.cons z4s (SumL.cons z1e (SumL.cons z3j (SumL.cons z1s (SumL.cons z31 (SumL.cons z14 (SumL.cons z1t (SumL.cons z2z (SumL.cons z0u (SumL.cons z3c (SumL.cons z2v (SumL.cons z3b (SumL.cons z25 (SumL.cons z2j (SumL.cons z26 (SumL.cons z2g (SumL.cons z1b (SumL.cons z11 (SumL.cons z23 (SumL.cons z2h (SumL.cons z37 (SumL.cons z22 (SumL.cons z48 (SumL.cons z1z (SumL.cons z2d (SumL.cons z2q (SumL.cons z2e (SumL.cons z2f (SumL.cons z24 (SumL.cons z45 (SumL.cons z35 (SumL.cons z2r (SumL.cons z44 (SumL.cons z0d (SumL.cons z0a (SumL.cons z58 (SumL.cons z4g (SumL.cons z5v (SumL.cons z0l (SumL.cons z6i (SumL.cons z46 (SumL.cons z0i (SumL.cons z0f (SumL.cons z0k (SumL.cons z57 (SumL.cons z4u (SumL.cons z3v (SumL.cons z5b (SumL.cons z4v (SumL.cons z6f (SumL.cons z3a (SumL.cons z4x (SumL.nil))))))))))))))))))))))))))))))))))))))))))))))))))))))))))))))))))
theorem lt9_ok : LpL Try.prog fnTab lt9 := LpL.cons z12 (LpL.cons z17 (LpL.cons z15 (LpL.cons z0y (LpL.cons z1h (LpL.cons z05 (LpL.cons z03 (LpL.cons z36 (LpL.cons z09 (LpL.cons z4f (LpL.cons z4k (LpL.cons z0m (LpL.cons z4z (LpL.nil)))))))))))))
noncomputable def z7g : List PT → Option (Bool × AV × List Blk)
  | [.ptr [.row 1 q00 (.fl .f32 q03), .row 1 q02 (.fl .f32 q05), .row 1 q01 (.fl .f32 q04), .row 3 q06 (.fl .f32 q09), .s (.int .i64 q0e), .s (.flt .f32 q0h), .s (.flt .f32 q0g)], .one (.s (.int .i64 i)), .one (.s (.flt .f32 q1s)), .one (.s (.flt .f32 q1k)), .one (.s (.flt .f32 q0q))] => some ((zk1 q00 q03 q02 q05 q01 q04 q06 q09 q0e q0h q0g i q1s q1k q0q), ((AV.v (TV.one (At.bool (zjo q00 q03 q02 q05 q01 q04 q06 q09 q0e q0h q0g i q1s q1k q0q)))), []))
  | _ => none
def zpg (q00 : Nat) (q03 : List Nat) (q02 : Nat) (q05 : List Nat) (q01 : Nat) (q04 : List Nat) (q06 : Nat) (q09 : List Nat) (q0e : Int) (q0h : Nat) (q0g : Nat) (i : Int) (q1s : Nat) (q1k : Nat) (q0q : Nat) : Option (Bool) → Option (AV × List Blk)
  | some r => some ((AV.v (TV.one (At.bool r))), [])
  | none => none
theorem zu6 (q00 : Nat) (q03 : List Nat) (q02 : Nat) (q05 : List Nat) (q01 : Nat) (q04 : List Nat) (q06 : Nat) (q09 : List Nat) (q0e : Int) (q0h : Nat) (q0g : Nat) (i : Int) (q1s : Nat) (q1k : Nat) (q0q : Nat) : evFn Γ9 8 8 130 (impTs 0 [.ptr [.row 1 q00 (.fl .f32 q03), .row 1 q02 (.fl .f32 q05), .row 1 q01 (.fl .f32 q04), .row 3 q06 (.fl .f32 q09), .s (.int .i64 q0e), .s (.flt .f32 q0h), .s (.flt .f32 q0g)], .one (.s (.int .i64 i)), .one (.s (.flt .f32 q1s)), .one (.s (.flt .f32 q1k)), .one (.s (.flt .f32 q0q))]).1 (impTs 0 [.ptr [.row 1 q00 (.fl .f32 q03), .row 1 q02 (.fl .f32 q05), .row 1 q01 (.fl .f32 q04), .row 3 q06 (.fl .f32 q09), .s (.int .i64 q0e), .s (.flt .f32 q0h), .s (.flt .f32 q0g)], .one (.s (.int .i64 i)), .one (.s (.flt .f32 q1s)), .one (.s (.flt .f32 q1k)), .one (.s (.flt .f32 q0q))]).2 (expo (impTs 0 [.ptr [.row 1 q00 (.fl .f32 q03), .row 1 q02 (.fl .f32 q05), .row 1 q01 (.fl .f32 q04), .row 3 q06 (.fl .f32 q09), .s (.int .i64 q0e), .s (.flt .f32 q0h), .s (.flt .f32 q0g)], .one (.s (.int .i64 i)), .one (.s (.flt .f32 q1s)), .one (.s (.flt .f32 q1k)), .one (.s (.flt .f32 q0q))]).2.length) = zf2 q00 q03 q02 q05 q01 q04 q06 q09 q0e q0h q0g i q1s q1k q0q (fun c0_ => some ((AV.v (TV.one (At.bool c0_))), [])) := by kernel_rfl
theorem z70 : SumOne Try.prog 130 z7g := sum_of (Γ := Γ9) (fuel := 8) (d := 8) tyTab_ok (FnL.ok fnTab_ok _ _) (LpL.ok lt9_ok) (SumL.ok tb9_ok _) mixed (by
  intro pts v news hp hc
  clear hc
  unfold z7g at hp
  split at hp
  · rename_i q00 q03 q02 q05 q01 q04 q06 q09 q0e q0h q0g i q1s q1k q0q
    exact Eq.trans (Eq.trans (zu6 q00 q03 q02 q05 q01 q04 q06 q09 q0e q0h q0g i q1s q1k q0q) (zrc (zpg q00 q03 q02 q05 q01 q04 q06 q09 q0e q0h q0g i q1s q1k q0q) rfl q00 q03 q02 q05 q01 q04 q06 q09 q0e q0h q0g i q1s q1k q0q (fun c0_ => some c0_))) (fin_out (o := (zpg q00 q03 q02 q05 q01 q04 q06 q09 q0e q0h q0g i q1s q1k q0q)) (x := zf3 q00 q03 q02 q05 q01 q04 q06 q09 q0e q0h q0g i q1s q1k q0q) (d := default) (V := fun r => ((AV.v (TV.one (At.bool r))), [])) (fun r => rfl) hp)
  · cases hp)
noncomputable def z3h : List PT → Option (Bool × AV × List Blk)
  | [.agg [.row 1 q07 (.fl .f32 q0c), .row 1 q0o (.fl .f32 q0u), .row 1 q0n (.fl .f32 q0v)], .one (.s (.flt .f32 x1))] => some ((zck q07 q0c q0o q0u q0n q0v x1), ((AV.tup [(TV.one (At.int IntKind.i64 (z6b q07 q0c q0o q0u q0n q0v x1))), (TV.one (At.int IntKind.i64 (z6a q07 q0c q0o q0u q0n q0v x1))), (TV.one (At.flt FloatKind.f32 (z72 q07 q0c q0o q0u q0n q0v x1))), (TV.one (At.flt FloatKind.f32 (z8j q07 q0c q0o q0u q0n q0v x1))), (TV.one (At.flt FloatKind.f32 (z9j q07 q0c q0o q0u q0n q0v x1)))]), []))
  | _ => none
def zjy (q07 : Nat) (q0c : List Nat) (q0o : Nat) (q0u : List Nat) (q0n : Nat) (q0v : List Nat) (x1 : Nat) : Option (Int × Int × Nat × Nat × Nat) → Option (AV × List Blk)
  | some r => some ((AV.tup [(TV.one (At.int IntKind.i64 r.1)), (TV.one (At.int IntKind.i64 r.2.1)), (TV.one (At.flt FloatKind.f32 r.2.2.1)), (TV.one (At.flt FloatKind.f32 r.2.2.2.1)), (TV.one (At.flt FloatKind.f32 r.2.2.2.2))]), [])
  | none => none
theorem zn7 (q07 : Nat) (q0c : List Nat) (q0o : Nat) (q0u : List Nat) (q0n : Nat) (q0v : List Nat) (x1 : Nat) : evFn Γ9 8 8 146 (impTs 0 [.agg [.row 1 q07 (.fl .f32 q0c), .row 1 q0o (.fl .f32 q0u), .row 1 q0n (.fl .f32 q0v)], .one (.s (.flt .f32 x1))]).1 (impTs 0 [.agg [.row 1 q07 (.fl .f32 q0c), .row 1 q0o (.fl .f32 q0u), .row 1 q0n (.fl .f32 q0v)], .one (.s (.flt .f32 x1))]).2 (expo (impTs 0 [.agg [.row 1 q07 (.fl .f32 q0c), .row 1 q0o (.fl .f32 q0u), .row 1 q0n (.fl .f32 q0v)], .one (.s (.flt .f32 x1))]).2.length) = z84 q07 q0c q0o q0u q0n q0v x1 (fun c0_ c1_ c2_ c3_ c4_ => some ((AV.tup [(TV.one (At.int IntKind.i64 c0_)), (TV.one (At.int IntKind.i64 c1_)), (TV.one (At.flt FloatKind.f32 c2_)), (TV.one (At.flt FloatKind.f32 c3_)), (TV.one (At.flt FloatKind.f32 c4_))]), [])) := by kernel_rfl
theorem z3m : SumOne Try.prog 146 z3h := sum_of (Γ := Γ9) (fuel := 8) (d := 8) tyTab_ok (FnL.ok fnTab_ok _ _) (LpL.ok lt9_ok) (SumL.ok tb9_ok _) mixed (by
  intro pts v news hp hc
  clear hc
  unfold z3h at hp
  split at hp
  · rename_i q07 q0c q0o q0u q0n q0v x1
    exact Eq.trans (Eq.trans (zn7 q07 q0c q0o q0u q0n q0v x1) (zl0 (zjy q07 q0c q0o q0u q0n q0v x1) rfl q07 q0c q0o q0u q0n q0v x1 (fun c0_ c1_ c2_ c3_ c4_ => some (c0_, c1_, c2_, c3_, c4_)))) (fin_out (o := (zjy q07 q0c q0o q0u q0n q0v x1)) (x := z5i q07 q0c q0o q0u q0n q0v x1) (d := default) (V := fun r => ((AV.tup [(TV.one (At.int IntKind.i64 r.1)), (TV.one (At.int IntKind.i64 r.2.1)), (TV.one (At.flt FloatKind.f32 r.2.2.1)), (TV.one (At.flt FloatKind.f32 r.2.2.2.1)), (TV.one (At.flt FloatKind.f32 r.2.2.2.2))]), [])) (fun r => rfl) hp)
  · cases hp)
noncomputable def z6y : List PT → Option (Bool × AV × List Blk)
  | [.ptr [.row 1 q07 (.fl .f32 q0c), .row 1 q0o (.fl .f32 q0u), .row 1 q0n (.fl .f32 q0v)], .one (.s (.flt .f32 x1))] => some ((zjk q07 q0c q0o q0u q0n q0v x1), ((AV.tup [(TV.one (At.int IntKind.i64 (zar q07 q0c q0o q0u q0n q0v x1))), (TV.one (At.int IntKind.i64 (zfu q07 q0c q0o q0u q0n q0v x1))), (TV.one (At.flt FloatKind.f32 (zio q07 q0c q0o q0u q0n q0v x1))), (TV.one (At.flt FloatKind.f32 (zkf q07 q0c q0o q0u q0n q0v x1)))]), []))
  | _ => none
def znf (q07 : Nat) (q0c : List Nat) (q0o : Nat) (q0u : List Nat) (q0n : Nat) (q0v : List Nat) (x1 : Nat) : Option (Int × Int × Nat × Nat) → Option (AV × List Blk)
  | some r => some ((AV.tup [(TV.one (At.int IntKind.i64 r.1)), (TV.one (At.int IntKind.i64 r.2.1)), (TV.one (At.flt FloatKind.f32 r.2.2.1)), (TV.one (At.flt FloatKind.f32 r.2.2.2))]), [])
  | none => none
theorem ztp (q07 : Nat) (q0c : List Nat) (q0o : Nat) (q0u : List Nat) (q0n : Nat) (q0v : List Nat) (x1 : Nat) : evFn Γ9 8 8 193 (impTs 0 [.ptr [.row 1 q07 (.fl .f32 q0c), .row 1 q0o (.fl .f32 q0u), .row 1 q0n (.fl .f32 q0v)], .one (.s (.flt .f32 x1))]).1 (impTs 0 [.ptr [.row 1 q07 (.fl .f32 q0c), .row 1 q0o (.fl .f32 q0u), .row 1 q0n (.fl .f32 q0v)], .one (.s (.flt .f32 x1))]).2 (expo (impTs 0 [.ptr [.row 1 q07 (.fl .f32 q0c), .row 1 q0o (.fl .f32 q0u), .row 1 q0n (.fl .f32 q0v)], .one (.s (.flt .f32 x1))]).2.length) = zbz q07 q0c q0o q0u q0n q0v x1 (fun c0_ c1_ c2_ c3_ => some ((AV.tup [(TV.one (At.int IntKind.i64 c0_)), (TV.one (At.int IntKind.i64 c1_)), (TV.one (At.flt FloatKind.f32 c2_)), (TV.one (At.flt FloatKind.f32 c3_))]), [])) := by kernel_rfl
theorem z6k : SumOne Try.prog 193 z6y := sum_of (Γ := Γ9) (fuel := 8) (d := 8) tyTab_ok (FnL.ok fnTab_ok _ _) (LpL.ok lt9_ok) (SumL.ok tb9_ok _) mixed (by
  intro pts v news hp hc
  clear hc
  unfold z6y at hp
  split at hp
  · rename_i q07 q0c q0o q0u q0n q0v x1
    exact Eq.trans (Eq.trans (ztp q07 q0c q0o q0u q0n q0v x1) (zqe (znf q07 q0c q0o q0u q0n q0v x1) rfl q07 q0c q0o q0u q0n q0v x1 (fun c0_ c1_ c2_ c3_ => some (c0_, c1_, c2_, c3_)))) (fin_out (o := (znf q07 q0c q0o q0u q0n q0v x1)) (x := z8p q07 q0c q0o q0u q0n q0v x1) (d := default) (V := fun r => ((AV.tup [(TV.one (At.int IntKind.i64 r.1)), (TV.one (At.int IntKind.i64 r.2.1)), (TV.one (At.flt FloatKind.f32 r.2.2.1)), (TV.one (At.flt FloatKind.f32 r.2.2.2))]), [])) (fun r => rfl) hp)
  · cases hp)
noncomputable def z3i : Nat → St → Option (Bool × LO)
  | 3, (St.mk [(1, (AV.v (TV.one (At.ptr 3 0 3)))), (42, (AV.v (TV.one (At.vw 0 0 q2m 1)))), (43, (AV.v (TV.one (At.int IntKind.i64 t43)))), (44, (AV.v (TV.one (At.int IntKind.i64 t44))))] [(Blk.mk Bool.false (Body.fl FloatKind.f32 b0)), (Blk.mk Bool.false (Body.fl FloatKind.f32 b1)), (Blk.mk Bool.false (Body.fl FloatKind.f32 b2)), (Blk.mk Bool.true (Body.cells [(At.vw 0 0 q1h 1), (At.vw 1 0 q1x 1), (At.vw 2 0 q1w 1)]))]) => some ((z83 q2m t43 b0 q1h t44), (LO.two (z7u q2m t43 b0 q1h t44) (LO.one Ex.ret (St.mk [(2, (AV.v (TV.one (At.bool Bool.false))))] [(Blk.mk Bool.false (Body.fl FloatKind.f32 b0)), (Blk.mk Bool.false (Body.fl FloatKind.f32 b1)), (Blk.mk Bool.false (Body.fl FloatKind.f32 b2))])) (LO.one (Ex.exit 0) (St.mk [(1, (AV.v (TV.one (At.ptr 3 0 3)))), (42, (AV.v (TV.one (At.vw 0 0 q2m 1)))), (43, (AV.v (TV.one (At.int IntKind.i64 t43)))), (44, (AV.v (TV.one (At.int IntKind.i64 (zdg q2m t43 b0 q1h t44))))), (45, (AV.v (TV.one (At.bool (zde q2m t43 b0 q1h t44)))))] [(Blk.mk Bool.false (Body.fl FloatKind.f32 b0)), (Blk.mk Bool.false (Body.fl FloatKind.f32 b1)), (Blk.mk Bool.false (Body.fl FloatKind.f32 b2)), (Blk.mk Bool.true (Body.cells [(At.vw 0 0 q1h 1), (At.vw 1 0 q1x 1), (At.vw 2 0 q1w 1)]))]))))
  | _, _ => none
def za1 (q2m : Nat) (t43 : Int) (b0 : List Nat) (b1 : List Nat) (b2 : List Nat) (q1h : Nat) (q1x : Nat) (q1w : Nat) : Option ((Unit) ⊕ (Int × Bool)) → Option (Ex × St)
  | none => none
  | some (Sum.inl r) => some (Ex.ret, (St.mk [(2, (AV.v (TV.one (At.bool Bool.false))))] [(Blk.mk Bool.false (Body.fl FloatKind.f32 b0)), (Blk.mk Bool.false (Body.fl FloatKind.f32 b1)), (Blk.mk Bool.false (Body.fl FloatKind.f32 b2))]))
  | some (Sum.inr r) => some ((Ex.exit 0), (St.mk [(1, (AV.v (TV.one (At.ptr 3 0 3)))), (42, (AV.v (TV.one (At.vw 0 0 q2m 1)))), (43, (AV.v (TV.one (At.int IntKind.i64 t43)))), (44, (AV.v (TV.one (At.int IntKind.i64 r.1)))), (45, (AV.v (TV.one (At.bool r.2))))] [(Blk.mk Bool.false (Body.fl FloatKind.f32 b0)), (Blk.mk Bool.false (Body.fl FloatKind.f32 b1)), (Blk.mk Bool.false (Body.fl FloatKind.f32 b2)), (Blk.mk Bool.true (Body.cells [(At.vw 0 0 q1h 1), (At.vw 1 0 q1x 1), (At.vw 2 0 q1w 1)]))]))
def zmk (q2m : Nat) (t43 : Int) (b0 : List Nat) (b1 : List Nat) (b2 : List Nat) (q1h : Nat) (q1x : Nat) (q1w : Nat) (x : Option ((Unit) ⊕ (Int × Bool))) : LO := (LO.two (oL x) (LO.one Ex.ret (St.mk [(2, (AV.v (TV.one (At.bool Bool.false))))] [(Blk.mk Bool.false (Body.fl FloatKind.f32 b0)), (Blk.mk Bool.false (Body.fl FloatKind.f32 b1)), (Blk.mk Bool.false (Body.fl FloatKind.f32 b2))])) (LO.one (Ex.exit 0) (St.mk [(1, (AV.v (TV.one (At.ptr 3 0 3)))), (42, (AV.v (TV.one (At.vw 0 0 q2m 1)))), (43, (AV.v (TV.one (At.int IntKind.i64 t43)))), (44, (AV.v (TV.one (At.int IntKind.i64 ((tR x).getD default).1)))), (45, (AV.v (TV.one (At.bool ((tR x).getD default).2))))] [(Blk.mk Bool.false (Body.fl FloatKind.f32 b0)), (Blk.mk Bool.false (Body.fl FloatKind.f32 b1)), (Blk.mk Bool.false (Body.fl FloatKind.f32 b2)), (Blk.mk Bool.true (Body.cells [(At.vw 0 0 q1h 1), (At.vw 1 0 q1x 1), (At.vw 2 0 q1w 1)]))])))
theorem zms (q2m : Nat) (t43 : Int) (b0 : List Nat) (b1 : List Nat) (b2 : List Nat) (q1h : Nat) (q1x : Nat) (q1w : Nat) : ∀ x : Option ((Unit) ⊕ (Int × Bool)), x.isSome = true → (za1 q2m t43 b0 b1 b2 q1h q1x q1w) x = some (pick (zmk q2m t43 b0 b1 b2 q1h q1x q1w x))
  | none, h => by cases h
  | some (Sum.inl r), _ => rfl
  | some (Sum.inr r), _ => rfl
theorem zna (q2m : Nat) (t43 : Int) (t44 : Int) (b0 : List Nat) (b1 : List Nat) (b2 : List Nat) (q1h : Nat) (q1x : Nat) (q1w : Nat) (K : Ex → St → Option (Ex × St)) : evC (R := Ex × St) Γ9 (evFn Γ9 8 8) 57 3 fi57.nt fi57.live fi57.nl 8 (findL 5 (loopsIn fi57.code)) (St.mk [(1, (AV.v (TV.one (At.ptr 3 0 3)))), (42, (AV.v (TV.one (At.vw 0 0 q2m 1)))), (43, (AV.v (TV.one (At.int IntKind.i64 t43)))), (44, (AV.v (TV.one (At.int IntKind.i64 t44))))] [(Blk.mk Bool.false (Body.fl FloatKind.f32 b0)), (Blk.mk Bool.false (Body.fl FloatKind.f32 b1)), (Blk.mk Bool.false (Body.fl FloatKind.f32 b2)), (Blk.mk Bool.true (Body.cells [(At.vw 0 0 q1h 1), (At.vw 1 0 q1x 1), (At.vw 2 0 q1w 1)]))]) K = z6m q2m t43 b0 q1h t44 (fun t44' => K .normal (St.mk [(1, (AV.v (TV.one (At.ptr 3 0 3)))), (42, (AV.v (TV.one (At.vw 0 0 q2m 1)))), (43, (AV.v (TV.one (At.int IntKind.i64 t43)))), (44, (AV.v (TV.one (At.int IntKind.i64 t44'))))] [(Blk.mk Bool.false (Body.fl FloatKind.f32 b0)), (Blk.mk Bool.false (Body.fl FloatKind.f32 b1)), (Blk.mk Bool.false (Body.fl FloatKind.f32 b2)), (Blk.mk Bool.true (Body.cells [(At.vw 0 0 q1h 1), (At.vw 1 0 q1x 1), (At.vw 2 0 q1w 1)]))])) (fun _ => K Ex.ret (St.mk [(2, (AV.v (TV.one (At.bool Bool.false))))] [(Blk.mk Bool.false (Body.fl FloatKind.f32 b0)), (Blk.mk Bool.false (Body.fl FloatKind.f32 b1)), (Blk.mk Bool.false (Body.fl FloatKind.f32 b2))])) (fun c0_ c1_ => K (Ex.exit 0) (St.mk [(1, (AV.v (TV.one (At.ptr 3 0 3)))), (42, (AV.v (TV.one (At.vw 0 0 q2m 1)))), (43, (AV.v (TV.one (At.int IntKind.i64 t43)))), (44, (AV.v (TV.one (At.int IntKind.i64 c0_)))), (45, (AV.v (TV.one (At.bool c1_))))] [(Blk.mk Bool.false (Body.fl FloatKind.f32 b0)), (Blk.mk Bool.false (Body.fl FloatKind.f32 b1)), (Blk.mk Bool.false (Body.fl FloatKind.f32 b2)), (Blk.mk Bool.true (Body.cells [(At.vw 0 0 q1h 1), (At.vw 1 0 q1x 1), (At.vw 2 0 q1w 1)]))])) := by kernel_rfl
theorem zn8 (q2m : Nat) (t43 : Int) (b0 : List Nat) (b1 : List Nat) (b2 : List Nat) (q1h : Nat) (q1x : Nat) (q1w : Nat) : ∀ (n : Nat) (t44 : Int), iter 57 5 3 (evC (R := Ex × St) Γ9 (evFn Γ9 8 8) 57 3 fi57.nt fi57.live fi57.nl 8 (findL 5 (loopsIn fi57.code))) n (St.mk [(1, (AV.v (TV.one (At.ptr 3 0 3)))), (42, (AV.v (TV.one (At.vw 0 0 q2m 1)))), (43, (AV.v (TV.one (At.int IntKind.i64 t43)))), (44, (AV.v (TV.one (At.int IntKind.i64 t44))))] [(Blk.mk Bool.false (Body.fl FloatKind.f32 b0)), (Blk.mk Bool.false (Body.fl FloatKind.f32 b1)), (Blk.mk Bool.false (Body.fl FloatKind.f32 b2)), (Blk.mk Bool.true (Body.cells [(At.vw 0 0 q1h 1), (At.vw 1 0 q1x 1), (At.vw 2 0 q1w 1)]))]) (fun e st => some (e, st)) = (za1 q2m t43 b0 b1 b2 q1h q1x q1w) (z40 q2m t43 b0 q1h n t44) := by
  intro n
  induction n with
  | zero => intros; rfl
  | succ n ih =>
    intro t44
    refine Eq.trans (iter_succ ..) (Eq.trans (zna q2m t43 t44 b0 b1 b2 q1h q1x q1w (nextK 57 5 3 (evC (R := Ex × St) Γ9 (evFn Γ9 8 8) 57 3 fi57.nt fi57.live fi57.nl 8 (findL 5 (loopsIn fi57.code))) n (fun e st => some (e, st)))) (Eq.trans ?_ (zl3 (za1 q2m t43 b0 b1 b2 q1h q1x q1w) rfl q2m t43 b0 q1h t44 (fun t44' => z40 q2m t43 b0 q1h n t44') (fun _ => some (Sum.inl ())) (fun c0_ c1_ => some (Sum.inr (c0_, c1_))))))
    exact congrArg (fun kn_ => z6m q2m t43 b0 q1h t44 kn_ (fun _ => (za1 q2m t43 b0 b1 b2 q1h q1x q1w) (some (Sum.inl ()))) (fun c0_ c1_ => (za1 q2m t43 b0 b1 b2 q1h q1x q1w) (some (Sum.inr (c0_, c1_))))) (funext fun t44' => ih t44')
theorem z3l : LoopOne Try.prog fnTab 57 5 z3i := lp_of (Γ := Γ9) tyTab_ok (FnL.ok fnTab_ok _ _) (LpL.ok lt9_ok) (SumL.ok tb9_ok _) mixed (fi := fi57) (by kernel_rfl) (by kernel_rfl) (by
  intro lo st out hp
  unfold z3i at hp
  split at hp
  · rename_i q2m t43 t44 b0 b1 b2 q1h q1x q1w
    injection hp with hp
    injection hp with h1 h2
    subst h2
    exact ⟨8, 8, big, Eq.trans (zn8 q2m t43 b0 b1 b2 q1h q1x q1w big t44) (zms q2m t43 b0 b1 b2 q1h q1x q1w (z40 q2m t43 b0 q1h big t44) h1)⟩
  · cases hp)
noncomputable def tb10 : List (Nat × (List PT → Option (Bool × AV × List Blk))) := [(156, z0s), (181, z19), (182, z21), (189, z20), (26, z2s), (55, z2b), (84, z0x), (89, z3w), (102, z64), (112, z1y), (114, z3f), (115, z2c), (123, z2u), (126, z4l), (157, z65), (160, z1x), (162, z4h), (167, z2a), (175, z3x), (176, z1o), (187, z29), (74, z3n), (83, z0w), (85, z4a), (90, z3o), (103, z49), (111, z2p), (116, z32), (131, z2n), (138, z33), (148, z1v), (150, z16), (169, z2o), (185, z34), (52, z41), (154, z2m), (158, z5k), (166, z2l), (104, z2w), (119, z3d), (120, z2x), (168, z2y), (188, z2i), (54, z4w), (121, z3q), (122, z39), (165, z4y), (178, z0b), (178, z06), (184, z66), (56, z5h), (170, z6d), (178, z0h), (105, z7d), (124, z4i), (147, z0e), (147, z08), (147, z0g), (198, z5z), (77, z54), (88, z43), (97, z5r), (109, z55), (161, z76), (86, z3e), (113, z52), (130, z7g), (146, z3h), (193, z6y)]
noncomputable def lt10 : List ((Nat × Nat) × (Nat → St → Option (Bool × LO))) := [((166, 3), z18), ((120, 3), z1g), ((168, 4), z1f), ((188, 17), z10), ((122, 4), z1p), ((178, 2), z04), ((178, 2), z02), ((184, 5), z3s), ((178, 2), z07), ((105, 9), z5d), ((161, 6), z5a), ((178, 2), z0j), ((193, 4), z56), ((57, 5), z3i)]
noncomputable def Γ10 : Ctx := ⟨tyTab, fnTab, tblSum tb10, tblLp lt10⟩
end Go.Proofs.Ytdhmognknjpemaa
