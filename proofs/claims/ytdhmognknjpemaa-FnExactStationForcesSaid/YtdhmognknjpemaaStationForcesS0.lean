/-
  What functions answer: that the evaluator answers so. Printed by a program.
-/
import Derived.Test.YtdhmognknjpemaaStationForcesC
set_option linter.unusedVariables false
set_option linter.unusedSimpArgs false
set_option maxRecDepth 100000
set_option maxHeartbeats 4000000
namespace Go.Proofs.Ytdhmognknjpemaa
open Go Go.Rf
def z0y : List PT → Option (Bool × AV × List Blk)
  | [.one (.s (.int .u64 x))] => some (okU .f64 x, A1 (.flt .f64 (cnI .f64 x)), [])
  | _ => none
theorem z0t : SumOne Try.prog 156 z0y := by
  intro pts v news hp w vals hv
  unfold z0y at hp
  split at hp
  · rename_i x
    injection hp with hp
    injection hp with h1 hp
    injection hp with h2 h3
    subst h2
    subst h3
    obtain ⟨l, hl⟩ : ∃ l, l = vals.toList := ⟨_, rfl⟩
    rw [← hl] at hv
    cases hv with
    | cons a1 a2 =>
      cases a2
      have hb1 : _ = Value.int .u64 x := a1
      subst hb1
      rename_i hx
      have hvals : vals = #[.int .u64 x] := by rw [← Array.toList_inj, ← hl]
      subst hvals
      have hw := okU_lt h1
      refine .inl ⟨_, w, by (simp only [callFunc, Sem.run_bind, run_program, Result.andThen_ok, Try.func156]; rfl), NoB, ⟨⟨(fun t b' h => by cases t <;> cases h), (fun t t' b1 b2 x x' _ h => by cases t <;> cases h)⟩, (fun t x h => by cases h), Fr.refl _ w⟩, ⟨_, rfl, hw, rfl⟩⟩
  · cases hp
def z1f : List PT → Option (Bool × AV × List Blk)
  | [.one (.s (.flt .f64 x))] => some (bnot (nanQ .f64 x), A1 (.int .u64 x), [])
  | _ => none
theorem z17 : SumOne Try.prog 181 z1f := by
  intro pts v news hp w vals hv
  unfold z1f at hp
  split at hp
  · rename_i x
    injection hp with hp
    injection hp with h1 hp
    injection hp with h2 h3
    subst h2
    subst h3
    obtain ⟨l, hl⟩ : ∃ l, l = vals.toList := ⟨_, rfl⟩
    rw [← hl] at hv
    cases hv with
    | cons a1 a2 =>
      cases a2
      obtain ⟨b, hb1, hb2, hb3⟩ := a1
      subst hb1
      rename_i hx
      have hvals : vals = #[.float .f64 b] := by rw [← Array.toList_inj, ← hl]
      subst hvals
      have hn : nanB .f64 b = false := by rw [← nanB_cn, hb3]; simpa [bnot, nanQ] using h1
      rw [cn_of_not hn] at hb3
      subst hb3
      refine .inl ⟨_, w, by (simp only [callFunc, Sem.run_bind, run_program, Result.andThen_ok, Try.func181]; rfl), NoB, ⟨⟨(fun t b' h => by cases t <;> cases h), (fun t t' b1 b2 x x' _ h => by cases t <;> cases h)⟩, (fun t x h => by cases h), Fr.refl _ w⟩, rfl⟩
  · cases hp
def z23 : List PT → Option (Bool × AV × List Blk)
  | [.one (.s (.flt .f64 x))] => some (bnot (nanQ .f64 x), A1 (.flt .f64 (fint .zero x)), [])
  | _ => none
theorem z1o : SumOne Try.prog 182 z23 := by
  intro pts v news hp w vals hv
  unfold z23 at hp
  split at hp
  · rename_i x
    injection hp with hp
    injection hp with h1 hp
    injection hp with h2 h3
    subst h2
    subst h3
    obtain ⟨l, hl⟩ : ∃ l, l = vals.toList := ⟨_, rfl⟩
    rw [← hl] at hv
    cases hv with
    | cons a1 a2 =>
      cases a2
      obtain ⟨b, hb1, hb2, hb3⟩ := a1
      subst hb1
      rename_i hx
      have hvals : vals = #[.float .f64 b] := by rw [← Array.toList_inj, ← hl]
      subst hvals
      have hn : nanB .f64 b = false := by rw [← nanB_cn, hb3]; simpa [bnot, nanQ] using h1
      rw [cn_of_not hn] at hb3
      subst hb3
      refine .inl ⟨_, w, by (simp only [callFunc, Sem.run_bind, run_program, Result.andThen_ok, Try.func182]; change (do let v ← Extern.MathFloor.toIntegral "math.archTrunc" .zero #[.float .f64 b]; pure (.value v) : Sem Next).run Try.prog w = _; rw [Sem.run_bind, run_fint hn]; rfl), NoB, ⟨⟨(fun t b' h => by cases t <;> cases h), (fun t t' b1 b2 x x' _ h => by cases t <;> cases h)⟩, (fun t x h => by cases h), Fr.refl _ w⟩, fint_rel hn⟩
  · cases hp
def z25 : List PT → Option (Bool × AV × List Blk)
  | [.one (.s (.flt .f64 x))] => some (bnot (nanQ .f64 x), A1 (.flt .f64 (fint .down x)), [])
  | _ => none
theorem z1p : SumOne Try.prog 189 z25 := by
  intro pts v news hp w vals hv
  unfold z25 at hp
  split at hp
  · rename_i x
    injection hp with hp
    injection hp with h1 hp
    injection hp with h2 h3
    subst h2
    subst h3
    obtain ⟨l, hl⟩ : ∃ l, l = vals.toList := ⟨_, rfl⟩
    rw [← hl] at hv
    cases hv with
    | cons a1 a2 =>
      cases a2
      obtain ⟨b, hb1, hb2, hb3⟩ := a1
      subst hb1
      rename_i hx
      have hvals : vals = #[.float .f64 b] := by rw [← Array.toList_inj, ← hl]
      subst hvals
      have hn : nanB .f64 b = false := by rw [← nanB_cn, hb3]; simpa [bnot, nanQ] using h1
      rw [cn_of_not hn] at hb3
      subst hb3
      refine .inl ⟨_, w, by (simp only [callFunc, Sem.run_bind, run_program, Result.andThen_ok, Try.func189]; change (do let v ← Extern.MathFloor.toIntegral "math.archFloor" .down #[.float .f64 b]; pure (.value v) : Sem Next).run Try.prog w = _; rw [Sem.run_bind, run_fint hn]; rfl), NoB, ⟨⟨(fun t b' h => by cases t <;> cases h), (fun t t' b1 b2 x x' _ h => by cases t <;> cases h)⟩, (fun t x h => by cases h), Fr.refl _ w⟩, fint_rel hn⟩
  · cases hp
noncomputable def tb0 : List (Nat × (List PT → Option (Bool × AV × List Blk))) := [(156, z0y), (181, z1f), (182, z23), (189, z25)]
noncomputable def lt0 : List ((Nat × Nat) × (Nat → St → Option (Bool × LO))) := []
noncomputable def Γ0 : Ctx := ⟨tyTab, fnTab, tblSum tb0, tblLp lt0⟩
theorem tb0_ok : SumL Try.prog tb0 := SumL.cons z0t (SumL.cons z17 (SumL.cons z1o (SumL.cons z1p (SumL.nil))))
theorem lt0_ok : LpL Try.prog fnTab lt0 := LpL.nil
noncomputable def z2u : List PT → Option (Bool × AV × List Blk)
  | [.one (.s (.flt .f32 x))] => some ((z77 x), ((AV.v (TV.one (At.bool (z6q x)))), []))
  | _ => none
def zok (x : Nat) : Option (Bool) → Option (AV × List Blk)
  | some r => some ((AV.v (TV.one (At.bool r))), [])
  | none => none
theorem zv5 (x : Nat) : evFn Γ0 8 8 26 (impTs 0 [.one (.s (.flt .f32 x))]).1 (impTs 0 [.one (.s (.flt .f32 x))]).2 (expo (impTs 0 [.one (.s (.flt .f32 x))]).2.length) = zhf x (fun c0_ => some ((AV.v (TV.one (At.bool c0_))), [])) := by kernel_rfl
theorem z2a : SumOne Try.prog 26 z2u := sum_of (Γ := Γ0) (fuel := 8) (d := 8) tyTab_ok (FnL.ok fnTab_ok _ _) (LpL.ok lt0_ok) (SumL.ok tb0_ok _) mixed (by
  intro pts v news hp hc
  clear hc
  unfold z2u at hp
  split at hp
  · rename_i x
    exact Eq.trans (Eq.trans (zv5 x) (zrs (zok x) rfl x (fun c0_ => some c0_))) (fin_out (o := (zok x)) (x := zgz x) (d := default) (V := fun r => ((AV.v (TV.one (At.bool r))), [])) (fun r => rfl) hp)
  · cases hp)
noncomputable def z2f : List PT → Option (Bool × AV × List Blk)
  | [.one (.s (.flt .f64 a)), .one (.s (.flt .f64 b))] => some ((z7u a b), ((AV.v (TV.one (At.bool (z7e a b)))), []))
  | _ => none
def zny (a : Nat) (b : Nat) : Option (Bool) → Option (AV × List Blk)
  | some r => some ((AV.v (TV.one (At.bool r))), [])
  | none => none
theorem zuh (a : Nat) (b : Nat) : evFn Γ0 8 8 55 (impTs 0 [.one (.s (.flt .f64 a)), .one (.s (.flt .f64 b))]).1 (impTs 0 [.one (.s (.flt .f64 a)), .one (.s (.flt .f64 b))]).2 (expo (impTs 0 [.one (.s (.flt .f64 a)), .one (.s (.flt .f64 b))]).2.length) = zd6 a b (fun c0_ => some ((AV.v (TV.one (At.bool c0_))), [])) := by kernel_rfl
theorem z1w : SumOne Try.prog 55 z2f := sum_of (Γ := Γ0) (fuel := 8) (d := 8) tyTab_ok (FnL.ok fnTab_ok _ _) (LpL.ok lt0_ok) (SumL.ok tb0_ok _) mixed (by
  intro pts v news hp hc
  clear hc
  unfold z2f at hp
  split at hp
  · rename_i a b
    exact Eq.trans (Eq.trans (zuh a b) (zrd (zny a b) rfl a b (fun c0_ => some c0_))) (fin_out (o := (zny a b)) (x := zcs a b) (d := default) (V := fun r => ((AV.v (TV.one (At.bool r))), [])) (fun r => rfl) hp)
  · cases hp)
noncomputable def z13 : List PT → Option (Bool × AV × List Blk)
  | [.agg [.row 1 q04 (.fl .f32 q0a), .row 1 q05 (.fl .f32 q0c), .row 1 q06 (.fl .f32 q0b), .row 3 q0e (.fl .f32 q0h), .s (.int .i64 q0l), .s (.flt .f32 q0n), .s (.flt .f32 q0m)], .one (.s (.int .i64 i))] => some ((zdu q04 q0a q05 q0c q06 q0b q0e q0h q0l q0n q0m i), ((AV.v (TV.one (At.flt FloatKind.f32 (zal q04 q0a q05 q0c q06 q0b q0e q0h q0l q0n q0m i)))), []))
  | _ => none
def zly (q04 : Nat) (q0a : List Nat) (q05 : Nat) (q0c : List Nat) (q06 : Nat) (q0b : List Nat) (q0e : Nat) (q0h : List Nat) (q0l : Int) (q0n : Nat) (q0m : Nat) (i : Int) : Option (Nat) → Option (AV × List Blk)
  | some r => some ((AV.v (TV.one (At.flt FloatKind.f32 r))), [])
  | none => none
theorem zpq (q04 : Nat) (q0a : List Nat) (q05 : Nat) (q0c : List Nat) (q06 : Nat) (q0b : List Nat) (q0e : Nat) (q0h : List Nat) (q0l : Int) (q0n : Nat) (q0m : Nat) (i : Int) : evFn Γ0 8 8 84 (impTs 0 [.agg [.row 1 q04 (.fl .f32 q0a), .row 1 q05 (.fl .f32 q0c), .row 1 q06 (.fl .f32 q0b), .row 3 q0e (.fl .f32 q0h), .s (.int .i64 q0l), .s (.flt .f32 q0n), .s (.flt .f32 q0m)], .one (.s (.int .i64 i))]).1 (impTs 0 [.agg [.row 1 q04 (.fl .f32 q0a), .row 1 q05 (.fl .f32 q0c), .row 1 q06 (.fl .f32 q0b), .row 3 q0e (.fl .f32 q0h), .s (.int .i64 q0l), .s (.flt .f32 q0n), .s (.flt .f32 q0m)], .one (.s (.int .i64 i))]).2 (expo (impTs 0 [.agg [.row 1 q04 (.fl .f32 q0a), .row 1 q05 (.fl .f32 q0c), .row 1 q06 (.fl .f32 q0b), .row 3 q0e (.fl .f32 q0h), .s (.int .i64 q0l), .s (.flt .f32 q0n), .s (.flt .f32 q0m)], .one (.s (.int .i64 i))]).2.length) = z9j q04 q0a q05 q0c q06 q0b q0e q0h q0l q0n q0m i (fun c0_ => some ((AV.v (TV.one (At.flt FloatKind.f32 c0_))), [])) := by kernel_rfl
theorem z0z : SumOne Try.prog 84 z13 := sum_of (Γ := Γ0) (fuel := 8) (d := 8) tyTab_ok (FnL.ok fnTab_ok _ _) (LpL.ok lt0_ok) (SumL.ok tb0_ok _) mixed (by
  intro pts v news hp hc
  clear hc
  unfold z13 at hp
  split at hp
  · rename_i q04 q0a q05 q0c q06 q0b q0e q0h q0l q0n q0m i
    exact Eq.trans (Eq.trans (zpq q04 q0a q05 q0c q06 q0b q0e q0h q0l q0n q0m i) (znd (zly q04 q0a q05 q0c q06 q0b q0e q0h q0l q0n q0m i) rfl q04 q0a q05 q0c q06 q0b q0e q0h q0l q0n q0m i (fun c0_ => some c0_))) (fin_out (o := (zly q04 q0a q05 q0c q06 q0b q0e q0h q0l q0n q0m i)) (x := z9l q04 q0a q05 q0c q06 q0b q0e q0h q0l q0n q0m i) (d := default) (V := fun r => ((AV.v (TV.one (At.flt FloatKind.f32 r))), [])) (fun r => rfl) hp)
  · cases hp)
noncomputable def z45 : List PT → Option (Bool × AV × List Blk)
  | [.one (.s (.int .i64 n_)), .one (.s (.int .i64 low)), .one (.s (.int .i64 q1m))] => some ((zk1 n_ low q1m), ((AV.v (TV.one (At.bool (zj4 n_ low q1m)))), []))
  | _ => none
def zrm (n_ : Int) (low : Int) (q1m : Int) : Option (Bool) → Option (AV × List Blk)
  | some r => some ((AV.v (TV.one (At.bool r))), [])
  | none => none
theorem zwm (n_ : Int) (low : Int) (q1m : Int) : evFn Γ0 8 8 89 (impTs 0 [.one (.s (.int .i64 n_)), .one (.s (.int .i64 low)), .one (.s (.int .i64 q1m))]).1 (impTs 0 [.one (.s (.int .i64 n_)), .one (.s (.int .i64 low)), .one (.s (.int .i64 q1m))]).2 (expo (impTs 0 [.one (.s (.int .i64 n_)), .one (.s (.int .i64 low)), .one (.s (.int .i64 q1m))]).2.length) = zgd n_ low q1m (fun c0_ => some ((AV.v (TV.one (At.bool c0_))), [])) := by kernel_rfl
theorem z31 : SumOne Try.prog 89 z45 := sum_of (Γ := Γ0) (fuel := 8) (d := 8) tyTab_ok (FnL.ok fnTab_ok _ _) (LpL.ok lt0_ok) (SumL.ok tb0_ok _) mixed (by
  intro pts v news hp hc
  clear hc
  unfold z45 at hp
  split at hp
  · rename_i n_ low q1m
    exact Eq.trans (Eq.trans (zwm n_ low q1m) (ztn (zrm n_ low q1m) rfl n_ low q1m (fun c0_ => some c0_))) (fin_out (o := (zrm n_ low q1m)) (x := zgj n_ low q1m) (d := default) (V := fun r => ((AV.v (TV.one (At.bool r))), [])) (fun r => rfl) hp)
  · cases hp)
noncomputable def z6f : List PT → Option (Bool × AV × List Blk)
  | [] => some (zm3, ((AV.v (TV.one (At.flt FloatKind.f64 zk5))), []))
  | _ => none
def zvf  : Option (Nat) → Option (AV × List Blk)
  | some r => some ((AV.v (TV.one (At.flt FloatKind.f64 r))), [])
  | none => none
theorem zwy  : evFn Γ0 8 8 102 (impTs 0 []).1 (impTs 0 []).2 (expo (impTs 0 []).2.length) = zlc (fun c0_ => some ((AV.v (TV.one (At.flt FloatKind.f64 c0_))), [])) := by kernel_rfl
theorem z53 : SumOne Try.prog 102 z6f := sum_of (Γ := Γ0) (fuel := 8) (d := 8) tyTab_ok (FnL.ok fnTab_ok _ _) (LpL.ok lt0_ok) (SumL.ok tb0_ok _) mixed (by
  intro pts v news hp hc
  clear hc
  unfold z6f at hp
  split at hp
  · exact Eq.trans (Eq.trans (zwy) (zvr zvf rfl  (fun c0_ => some c0_))) (fin_out (o := zvf) (x := zl7) (d := default) (V := fun r => ((AV.v (TV.one (At.flt FloatKind.f64 r))), [])) (fun r => rfl) hp)
  · cases hp)
noncomputable def z21 : List PT → Option (Bool × AV × List Blk)
  | [.one (.row 3 a_n (.fl .f32 a)), .one (.s (.int .i64 q21))] => some ((zid a_n a q21), ((AV.v (TV.one (At.int IntKind.i64 (zdm a_n a q21)))), []))
  | _ => none
def zmw (a_n : Nat) (a : List Nat) (q21 : Int) : Option (Int) → Option (AV × List Blk)
  | some r => some ((AV.v (TV.one (At.int IntKind.i64 r))), [])
  | none => none
theorem zu4 (a_n : Nat) (a : List Nat) (q21 : Int) : evFn Γ0 8 8 112 (impTs 0 [.one (.row 3 a_n (.fl .f32 a)), .one (.s (.int .i64 q21))]).1 (impTs 0 [.one (.row 3 a_n (.fl .f32 a)), .one (.s (.int .i64 q21))]).2 (expo (impTs 0 [.one (.row 3 a_n (.fl .f32 a)), .one (.s (.int .i64 q21))]).2.length) = zcd a_n a q21 (fun c0_ => some ((AV.v (TV.one (At.int IntKind.i64 c0_))), [])) := by kernel_rfl
theorem z1i : SumOne Try.prog 112 z21 := sum_of (Γ := Γ0) (fuel := 8) (d := 8) tyTab_ok (FnL.ok fnTab_ok _ _) (LpL.ok lt0_ok) (SumL.ok tb0_ok _) mixed (by
  intro pts v news hp hc
  clear hc
  unfold z21 at hp
  split at hp
  · rename_i a_n a q21
    exact Eq.trans (Eq.trans (zu4 a_n a q21) (zpc (zmw a_n a q21) rfl a_n a q21 (fun c0_ => some c0_))) (fin_out (o := (zmw a_n a q21)) (x := zby a_n a q21) (d := default) (V := fun r => ((AV.v (TV.one (At.int IntKind.i64 r))), [])) (fun r => rfl) hp)
  · cases hp)
noncomputable def z2e : List PT → Option (Bool × AV × List Blk)
  | [.one (.s (.flt .f32 x))] => some ((z4r x), ((AV.v (TV.one (At.bool (z4c x)))), []))
  | _ => none
def zo3 (x : Nat) : Option (Bool) → Option (AV × List Blk)
  | some r => some ((AV.v (TV.one (At.bool r))), [])
  | none => none
theorem zv0 (x : Nat) : evFn Γ0 8 8 115 (impTs 0 [.one (.s (.flt .f32 x))]).1 (impTs 0 [.one (.s (.flt .f32 x))]).2 (expo (impTs 0 [.one (.s (.flt .f32 x))]).2.length) = zfm x (fun c0_ => some ((AV.v (TV.one (At.bool c0_))), [])) := by kernel_rfl
theorem z1x : SumOne Try.prog 115 z2e := sum_of (Γ := Γ0) (fuel := 8) (d := 8) tyTab_ok (FnL.ok fnTab_ok _ _) (LpL.ok lt0_ok) (SumL.ok tb0_ok _) mixed (by
  intro pts v news hp hc
  clear hc
  unfold z2e at hp
  split at hp
  · rename_i x
    exact Eq.trans (Eq.trans (zv0 x) (zqj (zo3 x) rfl x (fun c0_ => some c0_))) (fin_out (o := (zo3 x)) (x := zfj x) (d := default) (V := fun r => ((AV.v (TV.one (At.bool r))), [])) (fun r => rfl) hp)
  · cases hp)
noncomputable def z2s : List PT → Option (Bool × AV × List Blk)
  | [.one (.s (.flt .f32 x)), .one (.s (.flt .f32 low)), .one (.s (.flt .f32 q1m))] => some ((zh9 x low q1m), ((AV.v (TV.one (At.bool (zfg x low q1m)))), []))
  | _ => none
def zom (x : Nat) (low : Nat) (q1m : Nat) : Option (Bool) → Option (AV × List Blk)
  | some r => some ((AV.v (TV.one (At.bool r))), [])
  | none => none
theorem zv8 (x : Nat) (low : Nat) (q1m : Nat) : evFn Γ0 8 8 123 (impTs 0 [.one (.s (.flt .f32 x)), .one (.s (.flt .f32 low)), .one (.s (.flt .f32 q1m))]).1 (impTs 0 [.one (.s (.flt .f32 x)), .one (.s (.flt .f32 low)), .one (.s (.flt .f32 q1m))]).2 (expo (impTs 0 [.one (.s (.flt .f32 x)), .one (.s (.flt .f32 low)), .one (.s (.flt .f32 q1m))]).2.length) = ze5 x low q1m (fun c0_ => some ((AV.v (TV.one (At.bool c0_))), [])) := by kernel_rfl
theorem z2b : SumOne Try.prog 123 z2s := sum_of (Γ := Γ0) (fuel := 8) (d := 8) tyTab_ok (FnL.ok fnTab_ok _ _) (LpL.ok lt0_ok) (SumL.ok tb0_ok _) mixed (by
  intro pts v news hp hc
  clear hc
  unfold z2s at hp
  split at hp
  · rename_i x low q1m
    exact Eq.trans (Eq.trans (zv8 x low q1m) (zs2 (zom x low q1m) rfl x low q1m (fun c0_ => some c0_))) (fin_out (o := (zom x low q1m)) (x := zdv x low q1m) (d := default) (V := fun r => ((AV.v (TV.one (At.bool r))), [])) (fun r => rfl) hp)
  · cases hp)
noncomputable def z4t : List PT → Option (Bool × AV × List Blk)
  | [.one (.s (.flt .f32 a)), .one (.s (.flt .f32 b)), .one (.s (.flt .f32 q2r))] => some ((zkv a b q2r), ((AV.v (TV.one (At.flt FloatKind.f32 (zk0 a b q2r)))), []))
  | _ => none
def zst (a : Nat) (b : Nat) (q2r : Nat) : Option (Nat) → Option (AV × List Blk)
  | some r => some ((AV.v (TV.one (At.flt FloatKind.f32 r))), [])
  | none => none
theorem zwr (a : Nat) (b : Nat) (q2r : Nat) : evFn Γ0 8 8 126 (impTs 0 [.one (.s (.flt .f32 a)), .one (.s (.flt .f32 b)), .one (.s (.flt .f32 q2r))]).1 (impTs 0 [.one (.s (.flt .f32 a)), .one (.s (.flt .f32 b)), .one (.s (.flt .f32 q2r))]).2 (expo (impTs 0 [.one (.s (.flt .f32 a)), .one (.s (.flt .f32 b)), .one (.s (.flt .f32 q2r))]).2.length) = zkq a b q2r (fun c0_ => some ((AV.v (TV.one (At.flt FloatKind.f32 c0_))), [])) := by kernel_rfl
theorem z3i : SumOne Try.prog 126 z4t := sum_of (Γ := Γ0) (fuel := 8) (d := 8) tyTab_ok (FnL.ok fnTab_ok _ _) (LpL.ok lt0_ok) (SumL.ok tb0_ok _) mixed (by
  intro pts v news hp hc
  clear hc
  unfold z4t at hp
  split at hp
  · rename_i a b q2r
    exact Eq.trans (Eq.trans (zwr a b q2r) (zuz (zst a b q2r) rfl a b q2r (fun c0_ => some c0_))) (fin_out (o := (zst a b q2r)) (x := zkp a b q2r) (d := default) (V := fun r => ((AV.v (TV.one (At.flt FloatKind.f32 r))), [])) (fun r => rfl) hp)
  · cases hp)
noncomputable def z6b : List PT → Option (Bool × AV × List Blk)
  | [.one (.s (.flt .f64 x))] => some ((znc x), ((AV.v (TV.one (At.flt FloatKind.f64 (zmk x)))), []))
  | _ => none
def zve (x : Nat) : Option (Nat) → Option (AV × List Blk)
  | some r => some ((AV.v (TV.one (At.flt FloatKind.f64 r))), [])
  | none => none
theorem zwz (x : Nat) : evFn Γ0 8 8 157 (impTs 0 [.one (.s (.flt .f64 x))]).1 (impTs 0 [.one (.s (.flt .f64 x))]).2 (expo (impTs 0 [.one (.s (.flt .f64 x))]).2.length) = zl5 x (fun c0_ => some ((AV.v (TV.one (At.flt FloatKind.f64 c0_))), [])) := by kernel_rfl
theorem z54 : SumOne Try.prog 157 z6b := sum_of (Γ := Γ0) (fuel := 8) (d := 8) tyTab_ok (FnL.ok fnTab_ok _ _) (LpL.ok lt0_ok) (SumL.ok tb0_ok _) mixed (by
  intro pts v news hp hc
  clear hc
  unfold z6b at hp
  split at hp
  · rename_i x
    exact Eq.trans (Eq.trans (zwz x) (zw8 (zve x) rfl x (fun c0_ => some c0_))) (fin_out (o := (zve x)) (x := zlf x) (d := default) (V := fun r => ((AV.v (TV.one (At.flt FloatKind.f64 r))), [])) (fun r => rfl) hp)
  · cases hp)
noncomputable def z22 : List PT → Option (Bool × AV × List Blk)
  | [.one (.row 1 a_n (.fl .f32 a)), .one (.s (.int .i64 q21))] => some ((zcb a_n a q21), ((AV.v (TV.one (At.int IntKind.i64 (z4s a_n a q21)))), []))
  | _ => none
def zn6 (a_n : Nat) (a : List Nat) (q21 : Int) : Option (Int) → Option (AV × List Blk)
  | some r => some ((AV.v (TV.one (At.int IntKind.i64 r))), [])
  | none => none
theorem ztv (a_n : Nat) (a : List Nat) (q21 : Int) : evFn Γ0 8 8 160 (impTs 0 [.one (.row 1 a_n (.fl .f32 a)), .one (.s (.int .i64 q21))]).1 (impTs 0 [.one (.row 1 a_n (.fl .f32 a)), .one (.s (.int .i64 q21))]).2 (expo (impTs 0 [.one (.row 1 a_n (.fl .f32 a)), .one (.s (.int .i64 q21))]).2.length) = zc5 a_n a q21 (fun c0_ => some ((AV.v (TV.one (At.int IntKind.i64 c0_))), [])) := by kernel_rfl
theorem z1k : SumOne Try.prog 160 z22 := sum_of (Γ := Γ0) (fuel := 8) (d := 8) tyTab_ok (FnL.ok fnTab_ok _ _) (LpL.ok lt0_ok) (SumL.ok tb0_ok _) mixed (by
  intro pts v news hp hc
  clear hc
  unfold z22 at hp
  split at hp
  · rename_i a_n a q21
    exact Eq.trans (Eq.trans (ztv a_n a q21) (zpi (zn6 a_n a q21) rfl a_n a q21 (fun c0_ => some c0_))) (fin_out (o := (zn6 a_n a q21)) (x := zcc a_n a q21) (d := default) (V := fun r => ((AV.v (TV.one (At.int IntKind.i64 r))), [])) (fun r => rfl) hp)
  · cases hp)
noncomputable def z4x : List PT → Option (Bool × AV × List Blk)
  | [.one (.s (.int .i64 n_)), .one (.s (.int .i64 low)), .one (.s (.int .i64 q1m))] => some ((zl1 n_ low q1m), ((AV.v (TV.one (At.bool (zjw n_ low q1m)))), []))
  | _ => none
def zt5 (n_ : Int) (low : Int) (q1m : Int) : Option (Bool) → Option (AV × List Blk)
  | some r => some ((AV.v (TV.one (At.bool r))), [])
  | none => none
theorem zwt (n_ : Int) (low : Int) (q1m : Int) : evFn Γ0 8 8 162 (impTs 0 [.one (.s (.int .i64 n_)), .one (.s (.int .i64 low)), .one (.s (.int .i64 q1m))]).1 (impTs 0 [.one (.s (.int .i64 n_)), .one (.s (.int .i64 low)), .one (.s (.int .i64 q1m))]).2 (expo (impTs 0 [.one (.s (.int .i64 n_)), .one (.s (.int .i64 low)), .one (.s (.int .i64 q1m))]).2.length) = zir n_ low q1m (fun c0_ => some ((AV.v (TV.one (At.bool c0_))), [])) := by kernel_rfl
theorem z3k : SumOne Try.prog 162 z4x := sum_of (Γ := Γ0) (fuel := 8) (d := 8) tyTab_ok (FnL.ok fnTab_ok _ _) (LpL.ok lt0_ok) (SumL.ok tb0_ok _) mixed (by
  intro pts v news hp hc
  clear hc
  unfold z4x at hp
  split at hp
  · rename_i n_ low q1m
    exact Eq.trans (Eq.trans (zwt n_ low q1m) (zuw (zt5 n_ low q1m) rfl n_ low q1m (fun c0_ => some c0_))) (fin_out (o := (zt5 n_ low q1m)) (x := zip n_ low q1m) (d := default) (V := fun r => ((AV.v (TV.one (At.bool r))), [])) (fun r => rfl) hp)
  · cases hp)
noncomputable def z2c : List PT → Option (Bool × AV × List Blk)
  | [.agg [.s (.flt .f32 q27), .s (.flt .f32 q29), .s (.flt .f32 q28)]] => some ((zlv q27 q29 q28), ((AV.v (TV.agg [(At.flt FloatKind.f32 q27), (At.flt FloatKind.f32 q29), (At.flt FloatKind.f32 q28)])), []))
  | _ => none
def zo6 (q27 : Nat) (q29 : Nat) (q28 : Nat) : Option (Unit) → Option (AV × List Blk)
  | some r => some ((AV.v (TV.agg [(At.flt FloatKind.f32 q27), (At.flt FloatKind.f32 q29), (At.flt FloatKind.f32 q28)])), [])
  | none => none
theorem zu8 (q27 : Nat) (q29 : Nat) (q28 : Nat) : evFn Γ0 8 8 167 (impTs 0 [.agg [.s (.flt .f32 q27), .s (.flt .f32 q29), .s (.flt .f32 q28)]]).1 (impTs 0 [.agg [.s (.flt .f32 q27), .s (.flt .f32 q29), .s (.flt .f32 q28)]]).2 (expo (impTs 0 [.agg [.s (.flt .f32 q27), .s (.flt .f32 q29), .s (.flt .f32 q28)]]).2.length) = zfh q27 q29 q28 (fun _ => some ((AV.v (TV.agg [(At.flt FloatKind.f32 q27), (At.flt FloatKind.f32 q29), (At.flt FloatKind.f32 q28)])), [])) := by kernel_rfl
theorem z1y : SumOne Try.prog 167 z2c := sum_of (Γ := Γ0) (fuel := 8) (d := 8) tyTab_ok (FnL.ok fnTab_ok _ _) (LpL.ok lt0_ok) (SumL.ok tb0_ok _) mixed (by
  intro pts v news hp hc
  clear hc
  unfold z2c at hp
  split at hp
  · rename_i q27 q29 q28
    exact Eq.trans (Eq.trans (zu8 q27 q29 q28) (zqu (zo6 q27 q29 q28) rfl q27 q29 q28 (fun _ => some ()))) (fin_out (o := (zo6 q27 q29 q28)) (x := znz q27 q29 q28) (d := default) (V := fun r => ((AV.v (TV.agg [(At.flt FloatKind.f32 q27), (At.flt FloatKind.f32 q29), (At.flt FloatKind.f32 q28)])), [])) (fun r => rfl) hp)
  · cases hp)
noncomputable def z44 : List PT → Option (Bool × AV × List Blk)
  | [.ptr [.row 1 q04 (.fl .f32 q0a), .row 1 q05 (.fl .f32 q0c), .row 1 q06 (.fl .f32 q0b), .row 3 q0e (.fl .f32 q0h), .s (.int .i64 q0l), .s (.flt .f32 q0n), .s (.flt .f32 q0m)], .one (.s (.int .i64 i)), .one (.s (.flt .f32 q2s))] => some ((zlr q04 q0a q05 q0c q06 q0b q0e q0h q0l q0n q0m i q2s), ((AV.v (TV.one (At.flt FloatKind.f32 (zin q04 q0a q05 q0c q06 q0b q0e q0h q0l q0n q0m i q2s)))), []))
  | _ => none
def zrn (q04 : Nat) (q0a : List Nat) (q05 : Nat) (q0c : List Nat) (q06 : Nat) (q0b : List Nat) (q0e : Nat) (q0h : List Nat) (q0l : Int) (q0n : Nat) (q0m : Nat) (i : Int) (q2s : Nat) : Option (Nat) → Option (AV × List Blk)
  | some r => some ((AV.v (TV.one (At.flt FloatKind.f32 r))), [])
  | none => none
theorem zwe (q04 : Nat) (q0a : List Nat) (q05 : Nat) (q0c : List Nat) (q06 : Nat) (q0b : List Nat) (q0e : Nat) (q0h : List Nat) (q0l : Int) (q0n : Nat) (q0m : Nat) (i : Int) (q2s : Nat) : evFn Γ0 8 8 175 (impTs 0 [.ptr [.row 1 q04 (.fl .f32 q0a), .row 1 q05 (.fl .f32 q0c), .row 1 q06 (.fl .f32 q0b), .row 3 q0e (.fl .f32 q0h), .s (.int .i64 q0l), .s (.flt .f32 q0n), .s (.flt .f32 q0m)], .one (.s (.int .i64 i)), .one (.s (.flt .f32 q2s))]).1 (impTs 0 [.ptr [.row 1 q04 (.fl .f32 q0a), .row 1 q05 (.fl .f32 q0c), .row 1 q06 (.fl .f32 q0b), .row 3 q0e (.fl .f32 q0h), .s (.int .i64 q0l), .s (.flt .f32 q0n), .s (.flt .f32 q0m)], .one (.s (.int .i64 i)), .one (.s (.flt .f32 q2s))]).2 (expo (impTs 0 [.ptr [.row 1 q04 (.fl .f32 q0a), .row 1 q05 (.fl .f32 q0c), .row 1 q06 (.fl .f32 q0b), .row 3 q0e (.fl .f32 q0h), .s (.int .i64 q0l), .s (.flt .f32 q0n), .s (.flt .f32 q0m)], .one (.s (.int .i64 i)), .one (.s (.flt .f32 q2s))]).2.length) = zge q04 q0a q05 q0c q06 q0b q0e q0h q0l q0n q0m i q2s (fun c0_ => some ((AV.v (TV.one (At.flt FloatKind.f32 c0_))), [])) := by kernel_rfl
theorem z32 : SumOne Try.prog 175 z44 := sum_of (Γ := Γ0) (fuel := 8) (d := 8) tyTab_ok (FnL.ok fnTab_ok _ _) (LpL.ok lt0_ok) (SumL.ok tb0_ok _) mixed (by
  intro pts v news hp hc
  clear hc
  unfold z44 at hp
  split at hp
  · rename_i q04 q0a q05 q0c q06 q0b q0e q0h q0l q0n q0m i q2s
    exact Eq.trans (Eq.trans (zwe q04 q0a q05 q0c q06 q0b q0e q0h q0l q0n q0m i q2s) (zu3 (zrn q04 q0a q05 q0c q06 q0b q0e q0h q0l q0n q0m i q2s) rfl q04 q0a q05 q0c q06 q0b q0e q0h q0l q0n q0m i q2s (fun c0_ => some c0_))) (fin_out (o := (zrn q04 q0a q05 q0c q06 q0b q0e q0h q0l q0n q0m i q2s)) (x := zgg q04 q0a q05 q0c q06 q0b q0e q0h q0l q0n q0m i q2s) (d := default) (V := fun r => ((AV.v (TV.one (At.flt FloatKind.f32 r))), [])) (fun r => rfl) hp)
  · cases hp)
noncomputable def z1q : List PT → Option (Bool × AV × List Blk)
  | [.ptr [.row 1 q04 (.fl .f32 q0a), .row 1 q05 (.fl .f32 q0c), .row 1 q06 (.fl .f32 q0b), .row 3 q0e (.fl .f32 q0h), .s (.int .i64 q0l), .s (.flt .f32 q0n), .s (.flt .f32 q0m)], .one (.s (.int .i64 i))] => some ((zgx q04 q0a q05 q0c q06 q0b q0e q0h q0l q0n q0m i), ((AV.v (TV.one (At.flt FloatKind.f32 (zco q04 q0a q05 q0c q06 q0b q0e q0h q0l q0n q0m i)))), []))
  | _ => none
def zmn (q04 : Nat) (q0a : List Nat) (q05 : Nat) (q0c : List Nat) (q06 : Nat) (q0b : List Nat) (q0e : Nat) (q0h : List Nat) (q0l : Int) (q0n : Nat) (q0m : Nat) (i : Int) : Option (Nat) → Option (AV × List Blk)
  | some r => some ((AV.v (TV.one (At.flt FloatKind.f32 r))), [])
  | none => none
theorem zss (q04 : Nat) (q0a : List Nat) (q05 : Nat) (q0c : List Nat) (q06 : Nat) (q0b : List Nat) (q0e : Nat) (q0h : List Nat) (q0l : Int) (q0n : Nat) (q0m : Nat) (i : Int) : evFn Γ0 8 8 176 (impTs 0 [.ptr [.row 1 q04 (.fl .f32 q0a), .row 1 q05 (.fl .f32 q0c), .row 1 q06 (.fl .f32 q0b), .row 3 q0e (.fl .f32 q0h), .s (.int .i64 q0l), .s (.flt .f32 q0n), .s (.flt .f32 q0m)], .one (.s (.int .i64 i))]).1 (impTs 0 [.ptr [.row 1 q04 (.fl .f32 q0a), .row 1 q05 (.fl .f32 q0c), .row 1 q06 (.fl .f32 q0b), .row 3 q0e (.fl .f32 q0h), .s (.int .i64 q0l), .s (.flt .f32 q0n), .s (.flt .f32 q0m)], .one (.s (.int .i64 i))]).2 (expo (impTs 0 [.ptr [.row 1 q04 (.fl .f32 q0a), .row 1 q05 (.fl .f32 q0c), .row 1 q06 (.fl .f32 q0b), .row 3 q0e (.fl .f32 q0h), .s (.int .i64 q0l), .s (.flt .f32 q0n), .s (.flt .f32 q0m)], .one (.s (.int .i64 i))]).2.length) = zb5 q04 q0a q05 q0c q06 q0b q0e q0h q0l q0n q0m i (fun c0_ => some ((AV.v (TV.one (At.flt FloatKind.f32 c0_))), [])) := by kernel_rfl
theorem z1a : SumOne Try.prog 176 z1q := sum_of (Γ := Γ0) (fuel := 8) (d := 8) tyTab_ok (FnL.ok fnTab_ok _ _) (LpL.ok lt0_ok) (SumL.ok tb0_ok _) mixed (by
  intro pts v news hp hc
  clear hc
  unfold z1q at hp
  split at hp
  · rename_i q04 q0a q05 q0c q06 q0b q0e q0h q0l q0n q0m i
    exact Eq.trans (Eq.trans (zss q04 q0a q05 q0c q06 q0b q0e q0h q0l q0n q0m i) (zov (zmn q04 q0a q05 q0c q06 q0b q0e q0h q0l q0n q0m i) rfl q04 q0a q05 q0c q06 q0b q0e q0h q0l q0n q0m i (fun c0_ => some c0_))) (fin_out (o := (zmn q04 q0a q05 q0c q06 q0b q0e q0h q0l q0n q0m i)) (x := zba q04 q0a q05 q0c q06 q0b q0e q0h q0l q0n q0m i) (d := default) (V := fun r => ((AV.v (TV.one (At.flt FloatKind.f32 r))), [])) (fun r => rfl) hp)
  · cases hp)
noncomputable def z2d : List PT → Option (Bool × AV × List Blk)
  | [.one (.s (.flt .f64 x))] => some ((zff x), ((AV.v (TV.one (At.flt FloatKind.f32 (zbs x)))), []))
  | _ => none
def zo1 (x : Nat) : Option (Nat) → Option (AV × List Blk)
  | some r => some ((AV.v (TV.one (At.flt FloatKind.f32 r))), [])
  | none => none
theorem zux (x : Nat) : evFn Γ0 8 8 187 (impTs 0 [.one (.s (.flt .f64 x))]).1 (impTs 0 [.one (.s (.flt .f64 x))]).2 (expo (impTs 0 [.one (.s (.flt .f64 x))]).2.length) = zcr x (fun c0_ => some ((AV.v (TV.one (At.flt FloatKind.f32 c0_))), [])) := by kernel_rfl
theorem z1v : SumOne Try.prog 187 z2d := sum_of (Γ := Γ0) (fuel := 8) (d := 8) tyTab_ok (FnL.ok fnTab_ok _ _) (LpL.ok lt0_ok) (SumL.ok tb0_ok _) mixed (by
  intro pts v news hp hc
  clear hc
  unfold z2d at hp
  split at hp
  · rename_i x
    exact Eq.trans (Eq.trans (zux x) (zqn (zo1 x) rfl x (fun c0_ => some c0_))) (fin_out (o := (zo1 x)) (x := zd5 x) (d := default) (V := fun r => ((AV.v (TV.one (At.flt FloatKind.f32 r))), [])) (fun r => rfl) hp)
  · cases hp)
noncomputable def tb1 : List (Nat × (List PT → Option (Bool × AV × List Blk))) := [(156, z0y), (181, z1f), (182, z23), (189, z25), (26, z2u), (55, z2f), (84, z13), (89, z45), (102, z6f), (112, z21), (115, z2e), (123, z2s), (126, z4t), (157, z6b), (160, z22), (162, z4x), (167, z2c), (175, z44), (176, z1q), (187, z2d)]
noncomputable def lt1 : List ((Nat × Nat) × (Nat → St → Option (Bool × LO))) := []
noncomputable def Γ1 : Ctx := ⟨tyTab, fnTab, tblSum tb1, tblLp lt1⟩
theorem tb1_ok : SumL Try.prog tb1 := SumL.cons z0t (SumL.cons z17 (SumL.cons z1o (SumL.cons z1p (SumL.cons z2a (SumL.cons z1w (SumL.cons z0z (SumL.cons z31 (SumL.cons z53 (SumL.cons z1i (SumL.cons z1x (SumL.cons z2b (SumL.cons z3i (SumL.cons z54 (SumL.cons z1k (SumL.cons z3k (SumL.cons z1y (SumL.cons z32 (SumL.cons z1a (SumL.cons z1v (SumL.nil))))))))))))))))))))
theorem lt1_ok : LpL Try.prog fnTab lt1 := LpL.nil
noncomputable def z3p : List PT → Option (Bool × AV × List Blk)
  | [.one (.s (.flt .f32 x))] => some ((zlb x), ((AV.tup [(TV.one (At.flt FloatKind.f32 (zkf x))), (TV.one (At.bool (zkg x)))]), []))
  | _ => none
def zpv (x : Nat) : Option (Nat × Bool) → Option (AV × List Blk)
  | some r => some ((AV.tup [(TV.one (At.flt FloatKind.f32 r.1)), (TV.one (At.bool r.2))]), [])
  | none => none
theorem zvw (x : Nat) : evFn Γ1 8 8 74 (impTs 0 [.one (.s (.flt .f32 x))]).1 (impTs 0 [.one (.s (.flt .f32 x))]).2 (expo (impTs 0 [.one (.s (.flt .f32 x))]).2.length) = zf4 x (fun c0_ c1_ => some ((AV.tup [(TV.one (At.flt FloatKind.f32 c0_)), (TV.one (At.bool c1_))]), [])) := by kernel_rfl
theorem z2y : SumOne Try.prog 74 z3p := sum_of (Γ := Γ1) (fuel := 8) (d := 8) tyTab_ok (FnL.ok fnTab_ok _ _) (LpL.ok lt1_ok) (SumL.ok tb1_ok _) mixed (by
  intro pts v news hp hc
  clear hc
  unfold z3p at hp
  split at hp
  · rename_i x
    exact Eq.trans (Eq.trans (zvw x) (zt2 (zpv x) rfl x (fun c0_ c1_ => some (c0_, c1_)))) (fin_out (o := (zpv x)) (x := zd4 x) (d := default) (V := fun r => ((AV.tup [(TV.one (At.flt FloatKind.f32 r.1)), (TV.one (At.bool r.2))]), [])) (fun r => rfl) hp)
  · cases hp)
noncomputable def z12 : List PT → Option (Bool × AV × List Blk)
  | [.agg [.row 1 q04 (.fl .f32 q0a), .row 1 q05 (.fl .f32 q0c), .row 1 q06 (.fl .f32 q0b), .row 3 q0e (.fl .f32 q0h), .s (.int .i64 q0l), .s (.flt .f32 q0n), .s (.flt .f32 q0m)], .one (.s (.int .i64 i))] => some ((zdh q04 q0a q05 q0c q06 q0b q0e q0h q0l q0n q0m i), ((AV.v (TV.one (At.bool (zcj q04 q0a q05 q0c q06 q0b q0e q0h q0l q0n q0m i)))), []))
  | _ => none
def zln (q04 : Nat) (q0a : List Nat) (q05 : Nat) (q0c : List Nat) (q06 : Nat) (q0b : List Nat) (q0e : Nat) (q0h : List Nat) (q0l : Int) (q0n : Nat) (q0m : Nat) (i : Int) : Option (Bool) → Option (AV × List Blk)
  | some r => some ((AV.v (TV.one (At.bool r))), [])
  | none => none
theorem zp3 (q04 : Nat) (q0a : List Nat) (q05 : Nat) (q0c : List Nat) (q06 : Nat) (q0b : List Nat) (q0e : Nat) (q0h : List Nat) (q0l : Int) (q0n : Nat) (q0m : Nat) (i : Int) : evFn Γ1 8 8 83 (impTs 0 [.agg [.row 1 q04 (.fl .f32 q0a), .row 1 q05 (.fl .f32 q0c), .row 1 q06 (.fl .f32 q0b), .row 3 q0e (.fl .f32 q0h), .s (.int .i64 q0l), .s (.flt .f32 q0n), .s (.flt .f32 q0m)], .one (.s (.int .i64 i))]).1 (impTs 0 [.agg [.row 1 q04 (.fl .f32 q0a), .row 1 q05 (.fl .f32 q0c), .row 1 q06 (.fl .f32 q0b), .row 3 q0e (.fl .f32 q0h), .s (.int .i64 q0l), .s (.flt .f32 q0n), .s (.flt .f32 q0m)], .one (.s (.int .i64 i))]).2 (expo (impTs 0 [.agg [.row 1 q04 (.fl .f32 q0a), .row 1 q05 (.fl .f32 q0c), .row 1 q06 (.fl .f32 q0b), .row 3 q0e (.fl .f32 q0h), .s (.int .i64 q0l), .s (.flt .f32 q0n), .s (.flt .f32 q0m)], .one (.s (.int .i64 i))]).2.length) = z93 q04 q0a q05 q0c q06 q0b q0e q0h q0l q0n q0m i (fun c0_ => some ((AV.v (TV.one (At.bool c0_))), [])) := by kernel_rfl
theorem z11 : SumOne Try.prog 83 z12 := sum_of (Γ := Γ1) (fuel := 8) (d := 8) tyTab_ok (FnL.ok fnTab_ok _ _) (LpL.ok lt1_ok) (SumL.ok tb1_ok _) mixed (by
  intro pts v news hp hc
  clear hc
  unfold z12 at hp
  split at hp
  · rename_i q04 q0a q05 q0c q06 q0b q0e q0h q0l q0n q0m i
    exact Eq.trans (Eq.trans (zp3 q04 q0a q05 q0c q06 q0b q0e q0h q0l q0n q0m i) (zmt (zln q04 q0a q05 q0c q06 q0b q0e q0h q0l q0n q0m i) rfl q04 q0a q05 q0c q06 q0b q0e q0h q0l q0n q0m i (fun c0_ => some c0_))) (fin_out (o := (zln q04 q0a q05 q0c q06 q0b q0e q0h q0l q0n q0m i)) (x := z94 q04 q0a q05 q0c q06 q0b q0e q0h q0l q0n q0m i) (d := default) (V := fun r => ((AV.v (TV.one (At.bool r))), [])) (fun r => rfl) hp)
  · cases hp)
noncomputable def z4k : List PT → Option (Bool × AV × List Blk)
  | [.one (.s (.flt .f32 q15))] => some ((zlu q15), ((AV.v (TV.one (At.bool (zl6 q15)))), []))
  | _ => none
def zrk (q15 : Nat) : Option (Bool) → Option (AV × List Blk)
  | some r => some ((AV.v (TV.one (At.bool r))), [])
  | none => none
theorem zwj (q15 : Nat) : evFn Γ1 8 8 85 (impTs 0 [.one (.s (.flt .f32 q15))]).1 (impTs 0 [.one (.s (.flt .f32 q15))]).2 (expo (impTs 0 [.one (.s (.flt .f32 q15))]).2.length) = zgm q15 (fun c0_ => some ((AV.v (TV.one (At.bool c0_))), [])) := by kernel_rfl
theorem z3h : SumOne Try.prog 85 z4k := sum_of (Γ := Γ1) (fuel := 8) (d := 8) tyTab_ok (FnL.ok fnTab_ok _ _) (LpL.ok lt1_ok) (SumL.ok tb1_ok _) mixed (by
  intro pts v news hp hc
  clear hc
  unfold z4k at hp
  split at hp
  · rename_i q15
    exact Eq.trans (Eq.trans (zwj q15) (ztu (zrk q15) rfl q15 (fun c0_ => some c0_))) (fin_out (o := (zrk q15)) (x := zgf q15) (d := default) (V := fun r => ((AV.v (TV.one (At.bool r))), [])) (fun r => rfl) hp)
  · cases hp)
noncomputable def z3q : List PT → Option (Bool × AV × List Blk)
  | [.one (.s (.flt .f32 x))] => some ((ziv x), ((AV.v (TV.one (At.bool (zh2 x)))), []))
  | _ => none
def zq7 (x : Nat) : Option (Bool) → Option (AV × List Blk)
  | some r => some ((AV.v (TV.one (At.bool r))), [])
  | none => none
theorem zw6 (x : Nat) : evFn Γ1 8 8 90 (impTs 0 [.one (.s (.flt .f32 x))]).1 (impTs 0 [.one (.s (.flt .f32 x))]).2 (expo (impTs 0 [.one (.s (.flt .f32 x))]).2.length) = zez x (fun c0_ => some ((AV.v (TV.one (At.bool c0_))), [])) := by kernel_rfl
theorem z2z : SumOne Try.prog 90 z3q := sum_of (Γ := Γ1) (fuel := 8) (d := 8) tyTab_ok (FnL.ok fnTab_ok _ _) (LpL.ok lt1_ok) (SumL.ok tb1_ok _) mixed (by
  intro pts v news hp hc
  clear hc
  unfold z3q at hp
  split at hp
  · rename_i x
    exact Eq.trans (Eq.trans (zw6 x) (zsj (zq7 x) rfl x (fun c0_ => some c0_))) (fin_out (o := (zq7 x)) (x := zf8 x) (d := default) (V := fun r => ((AV.v (TV.one (At.bool r))), [])) (fun r => rfl) hp)
  · cases hp)
noncomputable def z4j : List PT → Option (Bool × AV × List Blk)
  | [.one (.s (.flt .f64 x))] => some ((zlq x), ((AV.v (TV.one (At.bool (zld x)))), []))
  | _ => none
def zrj (x : Nat) : Option (Bool) → Option (AV × List Blk)
  | some r => some ((AV.v (TV.one (At.bool r))), [])
  | none => none
theorem zwd (x : Nat) : evFn Γ1 8 8 103 (impTs 0 [.one (.s (.flt .f64 x))]).1 (impTs 0 [.one (.s (.flt .f64 x))]).2 (expo (impTs 0 [.one (.s (.flt .f64 x))]).2.length) = zgi x (fun c0_ => some ((AV.v (TV.one (At.bool c0_))), [])) := by kernel_rfl
theorem z3g : SumOne Try.prog 103 z4j := sum_of (Γ := Γ1) (fuel := 8) (d := 8) tyTab_ok (FnL.ok fnTab_ok _ _) (LpL.ok lt1_ok) (SumL.ok tb1_ok _) mixed (by
  intro pts v news hp hc
  clear hc
  unfold z4j at hp
  split at hp
  · rename_i x
    exact Eq.trans (Eq.trans (zwd x) (zu5 (zrj x) rfl x (fun c0_ => some c0_))) (fin_out (o := (zrj x)) (x := zgb x) (d := default) (V := fun r => ((AV.v (TV.one (At.bool r))), [])) (fun r => rfl) hp)
  · cases hp)
noncomputable def z2q : List PT → Option (Bool × AV × List Blk)
  | [.agg [.row 1 q17 (.fl .f32 q1l), .row 1 q1c (.fl .f32 q1o), .row 1 q1d (.fl .f32 q1p)], .one (.s (.int .i64 q21))] => some ((zjn q17 q1l q1c q1o q1d q1p q21), ((AV.v (TV.one (At.int IntKind.i64 (za7 q17 q1l q1c q1o q1d q1p q21)))), []))
  | _ => none
def zo2 (q17 : Nat) (q1l : List Nat) (q1c : Nat) (q1o : List Nat) (q1d : Nat) (q1p : List Nat) (q21 : Int) : Option (Int) → Option (AV × List Blk)
  | some r => some ((AV.v (TV.one (At.int IntKind.i64 r))), [])
  | none => none
theorem zuu (q17 : Nat) (q1l : List Nat) (q1c : Nat) (q1o : List Nat) (q1d : Nat) (q1p : List Nat) (q21 : Int) : evFn Γ1 8 8 111 (impTs 0 [.agg [.row 1 q17 (.fl .f32 q1l), .row 1 q1c (.fl .f32 q1o), .row 1 q1d (.fl .f32 q1p)], .one (.s (.int .i64 q21))]).1 (impTs 0 [.agg [.row 1 q17 (.fl .f32 q1l), .row 1 q1c (.fl .f32 q1o), .row 1 q1d (.fl .f32 q1p)], .one (.s (.int .i64 q21))]).2 (expo (impTs 0 [.agg [.row 1 q17 (.fl .f32 q1l), .row 1 q1c (.fl .f32 q1o), .row 1 q1d (.fl .f32 q1p)], .one (.s (.int .i64 q21))]).2.length) = zcz q17 q1l q1c q1o q1d q1p q21 (fun c0_ => some ((AV.v (TV.one (At.int IntKind.i64 c0_))), [])) := by kernel_rfl
theorem z28 : SumOne Try.prog 111 z2q := sum_of (Γ := Γ1) (fuel := 8) (d := 8) tyTab_ok (FnL.ok fnTab_ok _ _) (LpL.ok lt1_ok) (SumL.ok tb1_ok _) mixed (by
  intro pts v news hp hc
  clear hc
  unfold z2q at hp
  split at hp
  · rename_i q17 q1l q1c q1o q1d q1p q21
    exact Eq.trans (Eq.trans (zuu q17 q1l q1c q1o q1d q1p q21) (zqe (zo2 q17 q1l q1c q1o q1d q1p q21) rfl q17 q1l q1c q1o q1d q1p q21 (fun c0_ => some c0_))) (fin_out (o := (zo2 q17 q1l q1c q1o q1d q1p q21)) (x := zd8 q17 q1l q1c q1o q1d q1p q21) (d := default) (V := fun r => ((AV.v (TV.one (At.int IntKind.i64 r))), [])) (fun r => rfl) hp)
  · cases hp)
noncomputable def z33 : List PT → Option (Bool × AV × List Blk)
  | [.ptr [.row 1 q04 (.fl .f32 q0a), .row 1 q05 (.fl .f32 q0c), .row 1 q06 (.fl .f32 q0b), .row 3 q0e (.fl .f32 q0h), .s (.int .i64 q0l), .s (.flt .f32 q0n), .s (.flt .f32 q0m)], .one (.s (.int .i64 i)), .one (.s (.flt .f32 q0o))] => some ((zkk q04 q0a q05 q0c q06 q0b q0e q0h q0l q0n q0m i q0o), ((AV.v (TV.one (At.bool (zjv q04 q0a q05 q0c q06 q0b q0e q0h q0l q0n q0m i q0o)))), []))
  | _ => none
def zop (q04 : Nat) (q0a : List Nat) (q05 : Nat) (q0c : List Nat) (q06 : Nat) (q0b : List Nat) (q0e : Nat) (q0h : List Nat) (q0l : Int) (q0n : Nat) (q0m : Nat) (i : Int) (q0o : Nat) : Option (Bool) → Option (AV × List Blk)
  | some r => some ((AV.v (TV.one (At.bool r))), [])
  | none => none
theorem zv9 (q04 : Nat) (q0a : List Nat) (q05 : Nat) (q0c : List Nat) (q06 : Nat) (q0b : List Nat) (q0e : Nat) (q0h : List Nat) (q0l : Int) (q0n : Nat) (q0m : Nat) (i : Int) (q0o : Nat) : evFn Γ1 8 8 116 (impTs 0 [.ptr [.row 1 q04 (.fl .f32 q0a), .row 1 q05 (.fl .f32 q0c), .row 1 q06 (.fl .f32 q0b), .row 3 q0e (.fl .f32 q0h), .s (.int .i64 q0l), .s (.flt .f32 q0n), .s (.flt .f32 q0m)], .one (.s (.int .i64 i)), .one (.s (.flt .f32 q0o))]).1 (impTs 0 [.ptr [.row 1 q04 (.fl .f32 q0a), .row 1 q05 (.fl .f32 q0c), .row 1 q06 (.fl .f32 q0b), .row 3 q0e (.fl .f32 q0h), .s (.int .i64 q0l), .s (.flt .f32 q0n), .s (.flt .f32 q0m)], .one (.s (.int .i64 i)), .one (.s (.flt .f32 q0o))]).2 (expo (impTs 0 [.ptr [.row 1 q04 (.fl .f32 q0a), .row 1 q05 (.fl .f32 q0c), .row 1 q06 (.fl .f32 q0b), .row 3 q0e (.fl .f32 q0h), .s (.int .i64 q0l), .s (.flt .f32 q0n), .s (.flt .f32 q0m)], .one (.s (.int .i64 i)), .one (.s (.flt .f32 q0o))]).2.length) = zdz q04 q0a q05 q0c q06 q0b q0e q0h q0l q0n q0m i q0o (fun c0_ => some ((AV.v (TV.one (At.bool c0_))), [])) := by kernel_rfl
theorem z2l : SumOne Try.prog 116 z33 := sum_of (Γ := Γ1) (fuel := 8) (d := 8) tyTab_ok (FnL.ok fnTab_ok _ _) (LpL.ok lt1_ok) (SumL.ok tb1_ok _) mixed (by
  intro pts v news hp hc
  clear hc
  unfold z33 at hp
  split at hp
  · rename_i q04 q0a q05 q0c q06 q0b q0e q0h q0l q0n q0m i q0o
    exact Eq.trans (Eq.trans (zv9 q04 q0a q05 q0c q06 q0b q0e q0h q0l q0n q0m i q0o) (zrx (zop q04 q0a q05 q0c q06 q0b q0e q0h q0l q0n q0m i q0o) rfl q04 q0a q05 q0c q06 q0b q0e q0h q0l q0n q0m i q0o (fun c0_ => some c0_))) (fin_out (o := (zop q04 q0a q05 q0c q06 q0b q0e q0h q0l q0n q0m i q0o)) (x := ze4 q04 q0a q05 q0c q06 q0b q0e q0h q0l q0n q0m i q0o) (d := default) (V := fun r => ((AV.v (TV.one (At.bool r))), [])) (fun r => rfl) hp)
  · cases hp)
noncomputable def z4i : List PT → Option (Bool × AV × List Blk)
  | [.one (.s (.flt .f32 x)), .one (.s (.flt .f32 y))] => some ((zjz x y), ((AV.tup [(TV.one (At.flt FloatKind.f32 (zfc x y))), (TV.one (At.flt FloatKind.f32 (zf3 x y))), (TV.one (At.bool (zf9 x y)))]), []))
  | _ => none
def zrh (x : Nat) (y : Nat) : Option (Nat × Nat × Bool) → Option (AV × List Blk)
  | some r => some ((AV.tup [(TV.one (At.flt FloatKind.f32 r.1)), (TV.one (At.flt FloatKind.f32 r.2.1)), (TV.one (At.bool r.2.2))]), [])
  | none => none
theorem zwn (x : Nat) (y : Nat) : evFn Γ1 8 8 117 (impTs 0 [.one (.s (.flt .f32 x)), .one (.s (.flt .f32 y))]).1 (impTs 0 [.one (.s (.flt .f32 x)), .one (.s (.flt .f32 y))]).2 (expo (impTs 0 [.one (.s (.flt .f32 x)), .one (.s (.flt .f32 y))]).2.length) = zgh x y (fun c0_ c1_ c2_ => some ((AV.tup [(TV.one (At.flt FloatKind.f32 c0_)), (TV.one (At.flt FloatKind.f32 c1_)), (TV.one (At.bool c2_))]), [])) := by kernel_rfl
theorem z3e : SumOne Try.prog 117 z4i := sum_of (Γ := Γ1) (fuel := 8) (d := 8) tyTab_ok (FnL.ok fnTab_ok _ _) (LpL.ok lt1_ok) (SumL.ok tb1_ok _) mixed (by
  intro pts v news hp hc
  clear hc
  unfold z4i at hp
  split at hp
  · rename_i x y
    exact Eq.trans (Eq.trans (zwn x y) (ztx (zrh x y) rfl x y (fun c0_ c1_ c2_ => some (c0_, c1_, c2_)))) (fin_out (o := (zrh x y)) (x := zch x y) (d := default) (V := fun r => ((AV.tup [(TV.one (At.flt FloatKind.f32 r.1)), (TV.one (At.flt FloatKind.f32 r.2.1)), (TV.one (At.bool r.2.2))]), [])) (fun r => rfl) hp)
  · cases hp)
noncomputable def z35 : List PT → Option (Bool × AV × List Blk)
  | [.one (.s (.flt .f32 x))] => some ((zbm x), ((AV.v (TV.one (At.bool (zar x)))), []))
  | _ => none
def zon (x : Nat) : Option (Bool) → Option (AV × List Blk)
  | some r => some ((AV.v (TV.one (At.bool r))), [])
  | none => none
theorem zvb (x : Nat) : evFn Γ1 8 8 138 (impTs 0 [.one (.s (.flt .f32 x))]).1 (impTs 0 [.one (.s (.flt .f32 x))]).2 (expo (impTs 0 [.one (.s (.flt .f32 x))]).2.length) = zdr x (fun c0_ => some ((AV.v (TV.one (At.bool c0_))), [])) := by kernel_rfl
theorem z2m : SumOne Try.prog 138 z35 := sum_of (Γ := Γ1) (fuel := 8) (d := 8) tyTab_ok (FnL.ok fnTab_ok _ _) (LpL.ok lt1_ok) (SumL.ok tb1_ok _) mixed (by
  intro pts v news hp hc
  clear hc
  unfold z35 at hp
  split at hp
  · rename_i x
    exact Eq.trans (Eq.trans (zvb x) (zrv (zon x) rfl x (fun c0_ => some c0_))) (fin_out (o := (zon x)) (x := zdy x) (d := default) (V := fun r => ((AV.v (TV.one (At.bool r))), [])) (fun r => rfl) hp)
  · cases hp)
noncomputable def z1z : List PT → Option (Bool × AV × List Blk)
  | [.one (.s (.flt .f32 x))] => some ((zgw x), ((AV.v (TV.one (At.bool (zfo x)))), []))
  | _ => none
def zmo (x : Nat) : Option (Bool) → Option (AV × List Blk)
  | some r => some ((AV.v (TV.one (At.bool r))), [])
  | none => none
theorem zt3 (x : Nat) : evFn Γ1 8 8 148 (impTs 0 [.one (.s (.flt .f32 x))]).1 (impTs 0 [.one (.s (.flt .f32 x))]).2 (expo (impTs 0 [.one (.s (.flt .f32 x))]).2.length) = zb2 x (fun c0_ => some ((AV.v (TV.one (At.bool c0_))), [])) := by kernel_rfl
theorem z1h : SumOne Try.prog 148 z1z := sum_of (Γ := Γ1) (fuel := 8) (d := 8) tyTab_ok (FnL.ok fnTab_ok _ _) (LpL.ok lt1_ok) (SumL.ok tb1_ok _) mixed (by
  intro pts v news hp hc
  clear hc
  unfold z1z at hp
  split at hp
  · rename_i x
    exact Eq.trans (Eq.trans (zt3 x) (zp9 (zmo x) rfl x (fun c0_ => some c0_))) (fin_out (o := (zmo x)) (x := zb3 x) (d := default) (V := fun r => ((AV.v (TV.one (At.bool r))), [])) (fun r => rfl) hp)
  · cases hp)
noncomputable def z1e : List PT → Option (Bool × AV × List Blk)
  | [.one (.s (.flt .f32 x))] => some ((zef x), ((AV.v (TV.one (At.bool (ze6 x)))), []))
  | _ => none
def zm6 (x : Nat) : Option (Bool) → Option (AV × List Blk)
  | some r => some ((AV.v (TV.one (At.bool r))), [])
  | none => none
theorem zqk (x : Nat) : evFn Γ1 8 8 150 (impTs 0 [.one (.s (.flt .f32 x))]).1 (impTs 0 [.one (.s (.flt .f32 x))]).2 (expo (impTs 0 [.one (.s (.flt .f32 x))]).2.length) = z9v x (fun c0_ => some ((AV.v (TV.one (At.bool c0_))), [])) := by kernel_rfl
theorem z19 : SumOne Try.prog 150 z1e := sum_of (Γ := Γ1) (fuel := 8) (d := 8) tyTab_ok (FnL.ok fnTab_ok _ _) (LpL.ok lt1_ok) (SumL.ok tb1_ok _) mixed (by
  intro pts v news hp hc
  clear hc
  unfold z1e at hp
  split at hp
  · rename_i x
    exact Eq.trans (Eq.trans (zqk x) (znh (zm6 x) rfl x (fun c0_ => some c0_))) (fin_out (o := (zm6 x)) (x := z9z x) (d := default) (V := fun r => ((AV.v (TV.one (At.bool r))), [])) (fun r => rfl) hp)
  · cases hp)
noncomputable def z2p : List PT → Option (Bool × AV × List Blk)
  | [.agg [.s (.flt .f32 q27), .s (.flt .f32 q29), .s (.flt .f32 q28)], .agg [.s (.flt .f32 q2j), .s (.flt .f32 q2m), .s (.flt .f32 q2l)]] => some ((zji q27 q29 q28 q2j q2m q2l), ((AV.v (TV.one (At.bool (zie q27 q29 q28 q2j q2m q2l)))), []))
  | _ => none
def zo0 (q27 : Nat) (q29 : Nat) (q28 : Nat) (q2j : Nat) (q2m : Nat) (q2l : Nat) : Option (Bool) → Option (AV × List Blk)
  | some r => some ((AV.v (TV.one (At.bool r))), [])
  | none => none
theorem zug (q27 : Nat) (q29 : Nat) (q28 : Nat) (q2j : Nat) (q2m : Nat) (q2l : Nat) : evFn Γ1 8 8 169 (impTs 0 [.agg [.s (.flt .f32 q27), .s (.flt .f32 q29), .s (.flt .f32 q28)], .agg [.s (.flt .f32 q2j), .s (.flt .f32 q2m), .s (.flt .f32 q2l)]]).1 (impTs 0 [.agg [.s (.flt .f32 q27), .s (.flt .f32 q29), .s (.flt .f32 q28)], .agg [.s (.flt .f32 q2j), .s (.flt .f32 q2m), .s (.flt .f32 q2l)]]).2 (expo (impTs 0 [.agg [.s (.flt .f32 q27), .s (.flt .f32 q29), .s (.flt .f32 q28)], .agg [.s (.flt .f32 q2j), .s (.flt .f32 q2m), .s (.flt .f32 q2l)]]).2.length) = zd0 q27 q29 q28 q2j q2m q2l (fun c0_ => some ((AV.v (TV.one (At.bool c0_))), [])) := by kernel_rfl
theorem z27 : SumOne Try.prog 169 z2p := sum_of (Γ := Γ1) (fuel := 8) (d := 8) tyTab_ok (FnL.ok fnTab_ok _ _) (LpL.ok lt1_ok) (SumL.ok tb1_ok _) mixed (by
  intro pts v news hp hc
  clear hc
  unfold z2p at hp
  split at hp
  · rename_i q27 q29 q28 q2j q2m q2l
    exact Eq.trans (Eq.trans (zug q27 q29 q28 q2j q2m q2l) (zqz (zo0 q27 q29 q28 q2j q2m q2l) rfl q27 q29 q28 q2j q2m q2l (fun c0_ => some c0_))) (fin_out (o := (zo0 q27 q29 q28 q2j q2m q2l)) (x := zcy q27 q29 q28 q2j q2m q2l) (d := default) (V := fun r => ((AV.v (TV.one (At.bool r))), [])) (fun r => rfl) hp)
  · cases hp)
noncomputable def z34 : List PT → Option (Bool × AV × List Blk)
  | [.one (.s (.flt .f32 x))] => some ((zac x), ((AV.v (TV.one (At.bool (z9o x)))), []))
  | _ => none
def zoi (x : Nat) : Option (Bool) → Option (AV × List Blk)
  | some r => some ((AV.v (TV.one (At.bool r))), [])
  | none => none
theorem zvc (x : Nat) : evFn Γ1 8 8 185 (impTs 0 [.one (.s (.flt .f32 x))]).1 (impTs 0 [.one (.s (.flt .f32 x))]).2 (expo (impTs 0 [.one (.s (.flt .f32 x))]).2.length) = zdx x (fun c0_ => some ((AV.v (TV.one (At.bool c0_))), [])) := by kernel_rfl
theorem z2k : SumOne Try.prog 185 z34 := sum_of (Γ := Γ1) (fuel := 8) (d := 8) tyTab_ok (FnL.ok fnTab_ok _ _) (LpL.ok lt1_ok) (SumL.ok tb1_ok _) mixed (by
  intro pts v news hp hc
  clear hc
  unfold z34 at hp
  split at hp
  · rename_i x
    exact Eq.trans (Eq.trans (zvc x) (zrz (zoi x) rfl x (fun c0_ => some c0_))) (fin_out (o := (zoi x)) (x := ze3 x) (d := default) (V := fun r => ((AV.v (TV.one (At.bool r))), [])) (fun r => rfl) hp)
  · cases hp)
noncomputable def z1b : Nat → St → Option (Bool × LO)
  | 1, (St.mk [(0, (AV.v (TV.one (At.vw 0 0 an 1)))), (3, (AV.v (TV.one (At.sl 1 0 q26 1)))), (4, (AV.v (TV.one (At.int IntKind.i64 i))))] [(Blk.mk Bool.false (Body.fl FloatKind.f32 b0)), (Blk.mk Bool.true (Body.fl FloatKind.f32 b1))]) => some ((zbo an q26 b0 i b1), (LO.one (Ex.exit 0) (St.mk [(0, (AV.v (TV.one (At.vw 0 0 an 1)))), (3, (AV.v (TV.one (At.sl 1 0 q26 1)))), (4, (AV.v (TV.one (At.int IntKind.i64 (zfz an q26 b0 i b1))))), (11, (AV.v (TV.one (At.bool (zg8 an q26 b0 i b1)))))] [(Blk.mk Bool.false (Body.fl FloatKind.f32 b0)), (Blk.mk Bool.true (Body.fl FloatKind.f32 (za5 an q26 b0 i b1)))])))
  | _, _ => none
def zeh (an : Nat) (q26 : Nat) (b0 : List Nat) : Option ((Int × Bool × (List Nat))) → Option (Ex × St)
  | none => none
  | some r => some ((Ex.exit 0), (St.mk [(0, (AV.v (TV.one (At.vw 0 0 an 1)))), (3, (AV.v (TV.one (At.sl 1 0 q26 1)))), (4, (AV.v (TV.one (At.int IntKind.i64 r.1)))), (11, (AV.v (TV.one (At.bool r.2.1))))] [(Blk.mk Bool.false (Body.fl FloatKind.f32 b0)), (Blk.mk Bool.true (Body.fl FloatKind.f32 r.2.2))]))
def zpl (an : Nat) (q26 : Nat) (b0 : List Nat) (x : Option ((Int × Bool × (List Nat)))) : LO := (LO.one (Ex.exit 0) (St.mk [(0, (AV.v (TV.one (At.vw 0 0 an 1)))), (3, (AV.v (TV.one (At.sl 1 0 q26 1)))), (4, (AV.v (TV.one (At.int IntKind.i64 (x.getD default).1)))), (11, (AV.v (TV.one (At.bool (x.getD default).2.1))))] [(Blk.mk Bool.false (Body.fl FloatKind.f32 b0)), (Blk.mk Bool.true (Body.fl FloatKind.f32 (x.getD default).2.2))]))
theorem zqs (an : Nat) (q26 : Nat) (b0 : List Nat) : ∀ x : Option ((Int × Bool × (List Nat))), x.isSome = true → (zeh an q26 b0) x = some (pick (zpl an q26 b0 x))
  | none, h => by cases h
  | some r, _ => rfl
theorem zr9 (an : Nat) (q26 : Nat) (i : Int) (b0 : List Nat) (b1 : List Nat) (K : Ex → St → Option (Ex × St)) : evC (R := Ex × St) Γ1 (evFn Γ1 8 8) 166 1 fi166.nt fi166.live fi166.nl 8 (findL 3 (loopsIn fi166.code)) (St.mk [(0, (AV.v (TV.one (At.vw 0 0 an 1)))), (3, (AV.v (TV.one (At.sl 1 0 q26 1)))), (4, (AV.v (TV.one (At.int IntKind.i64 i))))] [(Blk.mk Bool.false (Body.fl FloatKind.f32 b0)), (Blk.mk Bool.true (Body.fl FloatKind.f32 b1))]) K = z7k an q26 b0 i b1 (fun i' b1' => K .normal (St.mk [(0, (AV.v (TV.one (At.vw 0 0 an 1)))), (3, (AV.v (TV.one (At.sl 1 0 q26 1)))), (4, (AV.v (TV.one (At.int IntKind.i64 i'))))] [(Blk.mk Bool.false (Body.fl FloatKind.f32 b0)), (Blk.mk Bool.true (Body.fl FloatKind.f32 b1'))])) (fun c0_ c1_ c2_ => K (Ex.exit 0) (St.mk [(0, (AV.v (TV.one (At.vw 0 0 an 1)))), (3, (AV.v (TV.one (At.sl 1 0 q26 1)))), (4, (AV.v (TV.one (At.int IntKind.i64 c0_)))), (11, (AV.v (TV.one (At.bool c1_))))] [(Blk.mk Bool.false (Body.fl FloatKind.f32 b0)), (Blk.mk Bool.true (Body.fl FloatKind.f32 c2_))])) := by kernel_rfl
theorem zr8 (an : Nat) (q26 : Nat) (b0 : List Nat) : ∀ (n : Nat) (i : Int) (b1 : List Nat), iter 166 3 1 (evC (R := Ex × St) Γ1 (evFn Γ1 8 8) 166 1 fi166.nt fi166.live fi166.nl 8 (findL 3 (loopsIn fi166.code))) n (St.mk [(0, (AV.v (TV.one (At.vw 0 0 an 1)))), (3, (AV.v (TV.one (At.sl 1 0 q26 1)))), (4, (AV.v (TV.one (At.int IntKind.i64 i))))] [(Blk.mk Bool.false (Body.fl FloatKind.f32 b0)), (Blk.mk Bool.true (Body.fl FloatKind.f32 b1))]) (fun e st => some (e, st)) = (zeh an q26 b0) (z5z an q26 b0 n i b1) := by
  intro n
  induction n with
  | zero => intros; rfl
  | succ n ih =>
    intro i b1
    refine Eq.trans (iter_succ ..) (Eq.trans (zr9 an q26 i b0 b1 (nextK 166 3 1 (evC (R := Ex × St) Γ1 (evFn Γ1 8 8) 166 1 fi166.nt fi166.live fi166.nl 8 (findL 3 (loopsIn fi166.code))) n (fun e st => some (e, st)))) (Eq.trans ?_ (znx (zeh an q26 b0) rfl an q26 b0 i b1 (fun i' b1' => z5z an q26 b0 n i' b1') (fun c0_ c1_ c2_ => some (c0_, c1_, c2_)))))
    exact congrArg (fun kn_ => z7k an q26 b0 i b1 kn_ (fun c0_ c1_ c2_ => (zeh an q26 b0) (some (c0_, c1_, c2_)))) (funext fun i' => funext fun b1' => ih i' b1')
theorem z18 : LoopOne Try.prog fnTab 166 3 z1b := lp_of (Γ := Γ1) tyTab_ok (FnL.ok fnTab_ok _ _) (LpL.ok lt1_ok) (SumL.ok tb1_ok _) mixed (fi := fi166) (by kernel_rfl) (by kernel_rfl) (by
  intro lo st out hp
  unfold z1b at hp
  split at hp
  · rename_i an q26 i b0 b1
    injection hp with hp
    injection hp with h1 h2
    subst h2
    exact ⟨8, 8, big, Eq.trans (zr8 an q26 b0 big i b1) (zqs an q26 b0 (z5z an q26 b0 big i b1) h1)⟩
  · cases hp)
noncomputable def tb2 : List (Nat × (List PT → Option (Bool × AV × List Blk))) := [(156, z0y), (181, z1f), (182, z23), (189, z25), (26, z2u), (55, z2f), (84, z13), (89, z45), (102, z6f), (112, z21), (115, z2e), (123, z2s), (126, z4t), (157, z6b), (160, z22), (162, z4x), (167, z2c), (175, z44), (176, z1q), (187, z2d), (74, z3p), (83, z12), (85, z4k), (90, z3q), (103, z4j), (111, z2q), (116, z33), (117, z4i), (138, z35), (148, z1z), (150, z1e), (169, z2p), (185, z34)]
noncomputable def lt2 : List ((Nat × Nat) × (Nat → St → Option (Bool × LO))) := [((166, 3), z1b)]
noncomputable def Γ2 : Ctx := ⟨tyTab, fnTab, tblSum tb2, tblLp lt2⟩
theorem tb2_ok : SumL Try.prog tb2 := SumL.cons z0t (SumL.cons z17 (SumL.cons z1o (SumL.cons z1p (SumL.cons z2a (SumL.cons z1w (SumL.cons z0z (SumL.cons z31 (SumL.cons z53 (SumL.cons z1i (SumL.cons z1x (SumL.cons z2b (SumL.cons z3i (SumL.cons z54 (SumL.cons z1k (SumL.cons z3k (SumL.cons z1y (SumL.cons z32 (SumL.cons z1a (SumL.cons z1v (SumL.cons z2y (SumL.cons z11 (SumL.cons z3h (SumL.cons z2z (SumL.cons z3g (SumL.cons z28 (SumL.cons z2l (SumL.cons z3e (SumL.cons z2m (SumL.cons z1h (SumL.cons z19 (SumL.cons z27 (SumL.cons z2k (SumL.nil)))))))))))))))))))))))))))))))))
theorem lt2_ok : LpL Try.prog fnTab lt2 := LpL.cons z18 (LpL.nil)
noncomputable def z49 : List PT → Option (Bool × AV × List Blk)
  | [.agg [.row 1 q0p (.fl .f32 q0v), .row 1 q0r (.fl .f32 q0x), .row 1 q0q (.fl .f32 q0w), .row 3 q14 (.fl .f32 q19), .s (.int .i64 q1n), .s (.flt .f32 q1x), .s (.flt .f32 q1w)], .one (.s (.int .i64 q21))] => some ((zj1 q0p q0v q0r q0x q0q q0w q14 q19 q1n q1x q1w q21), ((AV.v (TV.one (At.int IntKind.i64 (zha q0p q0v q0r q0x q0q q0w q14 q19 q1n q1x q1w q21)))), []))
  | _ => none
def zpm (q0p : Nat) (q0v : List Nat) (q0r : Nat) (q0x : List Nat) (q0q : Nat) (q0w : List Nat) (q14 : Nat) (q19 : List Nat) (q1n : Int) (q1x : Nat) (q1w : Nat) (q21 : Int) : Option (Int) → Option (AV × List Blk)
  | some r => some ((AV.v (TV.one (At.int IntKind.i64 r))), [])
  | none => none
theorem zvu (q0p : Nat) (q0v : List Nat) (q0r : Nat) (q0x : List Nat) (q0q : Nat) (q0w : List Nat) (q14 : Nat) (q19 : List Nat) (q1n : Int) (q1x : Nat) (q1w : Nat) (q21 : Int) : evFn Γ2 8 8 52 (impTs 0 [.agg [.row 1 q0p (.fl .f32 q0v), .row 1 q0r (.fl .f32 q0x), .row 1 q0q (.fl .f32 q0w), .row 3 q14 (.fl .f32 q19), .s (.int .i64 q1n), .s (.flt .f32 q1x), .s (.flt .f32 q1w)], .one (.s (.int .i64 q21))]).1 (impTs 0 [.agg [.row 1 q0p (.fl .f32 q0v), .row 1 q0r (.fl .f32 q0x), .row 1 q0q (.fl .f32 q0w), .row 3 q14 (.fl .f32 q19), .s (.int .i64 q1n), .s (.flt .f32 q1x), .s (.flt .f32 q1w)], .one (.s (.int .i64 q21))]).2 (expo (impTs 0 [.agg [.row 1 q0p (.fl .f32 q0v), .row 1 q0r (.fl .f32 q0x), .row 1 q0q (.fl .f32 q0w), .row 3 q14 (.fl .f32 q19), .s (.int .i64 q1n), .s (.flt .f32 q1x), .s (.flt .f32 q1w)], .one (.s (.int .i64 q21))]).2.length) = zf7 q0p q0v q0r q0x q0q q0w q14 q19 q1n q1x q1w q21 (fun c0_ => some ((AV.v (TV.one (At.int IntKind.i64 c0_))), [])) := by kernel_rfl
theorem z39 : SumOne Try.prog 52 z49 := sum_of (Γ := Γ2) (fuel := 8) (d := 8) tyTab_ok (FnL.ok fnTab_ok _ _) (LpL.ok lt2_ok) (SumL.ok tb2_ok _) mixed (by
  intro pts v news hp hc
  clear hc
  unfold z49 at hp
  split at hp
  · rename_i q0p q0v q0r q0x q0q q0w q14 q19 q1n q1x q1w q21
    exact Eq.trans (Eq.trans (zvu q0p q0v q0r q0x q0q q0w q14 q19 q1n q1x q1w q21) (zs7 (zpm q0p q0v q0r q0x q0q q0w q14 q19 q1n q1x q1w q21) rfl q0p q0v q0r q0x q0q q0w q14 q19 q1n q1x q1w q21 (fun c0_ => some c0_))) (fin_out (o := (zpm q0p q0v q0r q0x q0q q0w q14 q19 q1n q1x q1w q21)) (x := zeu q0p q0v q0r q0x q0q q0w q14 q19 q1n q1x q1w q21) (d := default) (V := fun r => ((AV.v (TV.one (At.int IntKind.i64 r))), [])) (fun r => rfl) hp)
  · cases hp)
noncomputable def z2n : List PT → Option (Bool × AV × List Blk)
  | [.one (.s (.flt .f32 x))] => some ((zi7 x), ((AV.v (TV.one (At.bool (zgt x)))), []))
  | _ => none
def zn9 (x : Nat) : Option (Bool) → Option (AV × List Blk)
  | some r => some ((AV.v (TV.one (At.bool r))), [])
  | none => none
theorem zt7 (x : Nat) : evFn Γ2 8 8 154 (impTs 0 [.one (.s (.flt .f32 x))]).1 (impTs 0 [.one (.s (.flt .f32 x))]).2 (expo (impTs 0 [.one (.s (.flt .f32 x))]).2.length) = zbp x (fun c0_ => some ((AV.v (TV.one (At.bool c0_))), [])) := by kernel_rfl
theorem z26 : SumOne Try.prog 154 z2n := sum_of (Γ := Γ2) (fuel := 8) (d := 8) tyTab_ok (FnL.ok fnTab_ok _ _) (LpL.ok lt2_ok) (SumL.ok tb2_ok _) mixed (by
  intro pts v news hp hc
  clear hc
  unfold z2n at hp
  split at hp
  · rename_i x
    exact Eq.trans (Eq.trans (zt7 x) (zqa (zn9 x) rfl x (fun c0_ => some c0_))) (fin_out (o := (zn9 x)) (x := zbu x) (d := default) (V := fun r => ((AV.v (TV.one (At.bool r))), [])) (fun r => rfl) hp)
  · cases hp)
noncomputable def z5w : List PT → Option (Bool × AV × List Blk)
  | [.one (.s (.flt .f64 x))] => some ((zmd x), ((AV.v (TV.one (At.flt FloatKind.f64 (ze8 x)))), []))
  | _ => none
def zsm (x : Nat) : Option (Nat) → Option (AV × List Blk)
  | some r => some ((AV.v (TV.one (At.flt FloatKind.f64 r))), [])
  | none => none
theorem zwu (x : Nat) : evFn Γ2 8 8 158 (impTs 0 [.one (.s (.flt .f64 x))]).1 (impTs 0 [.one (.s (.flt .f64 x))]).2 (expo (impTs 0 [.one (.s (.flt .f64 x))]).2.length) = ziq x (fun c0_ => some ((AV.v (TV.one (At.flt FloatKind.f64 c0_))), [])) := by kernel_rfl
theorem z4h : SumOne Try.prog 158 z5w := sum_of (Γ := Γ2) (fuel := 8) (d := 8) tyTab_ok (FnL.ok fnTab_ok _ _) (LpL.ok lt2_ok) (SumL.ok tb2_ok _) mixed (by
  intro pts v news hp hc
  clear hc
  unfold z5w at hp
  split at hp
  · rename_i x
    exact Eq.trans (Eq.trans (zwu x) (zuc (zsm x) rfl x (fun c0_ => some c0_))) (fin_out (o := (zsm x)) (x := zj6 x) (d := default) (V := fun r => ((AV.v (TV.one (At.flt FloatKind.f64 r))), [])) (fun r => rfl) hp)
  · cases hp)
noncomputable def z2o : List PT → Option (Bool × AV × List Blk)
  | [.one (.row 1 a_n (.fl .f32 a))] => some ((zc7 a_n a), ((AV.v (TV.one (At.sl 0 0 (zay a_n a) 1))), [(Blk.mk Bool.true (Body.fl FloatKind.f32 (zb0 a_n a)))]))
  | _ => none
def zn0 (a_n : Nat) (a : List Nat) : Option (Nat × (List Nat)) → Option (AV × List Blk)
  | some r => some ((AV.v (TV.one (At.sl 0 0 r.1 1))), [(Blk.mk Bool.true (Body.fl FloatKind.f32 r.2))])
  | none => none
theorem zt9 (a_n : Nat) (a : List Nat) : evFn Γ2 8 8 166 (impTs 0 [.one (.row 1 a_n (.fl .f32 a))]).1 (impTs 0 [.one (.row 1 a_n (.fl .f32 a))]).2 (expo (impTs 0 [.one (.row 1 a_n (.fl .f32 a))]).2.length) = zcg a_n a (fun c0_ c1_ => some ((AV.v (TV.one (At.sl 0 0 c0_ 1))), [(Blk.mk Bool.true (Body.fl FloatKind.f32 c1_))])) := by kernel_rfl
theorem z24 : SumOne Try.prog 166 z2o := sum_of (Γ := Γ2) (fuel := 8) (d := 8) tyTab_ok (FnL.ok fnTab_ok _ _) (LpL.ok lt2_ok) (SumL.ok tb2_ok _) mixed (by
  intro pts v news hp hc
  clear hc
  unfold z2o at hp
  split at hp
  · rename_i a_n a
    exact Eq.trans (Eq.trans (zt9 a_n a) (zpa (zn0 a_n a) rfl a_n a (fun c0_ c1_ => some (c0_, c1_)))) (fin_out (o := (zn0 a_n a)) (x := za6 a_n a) (d := default) (V := fun r => ((AV.v (TV.one (At.sl 0 0 r.1 1))), [(Blk.mk Bool.true (Body.fl FloatKind.f32 r.2))])) (fun r => rfl) hp)
  · cases hp)
noncomputable def z1m : Nat → St → Option (Bool × LO)
  | 1, (St.mk [(0, (AV.v (TV.one (At.vw 0 0 an 3)))), (3, (AV.v (TV.one (At.sl 1 0 q26 3)))), (4, (AV.v (TV.one (At.int IntKind.i64 i))))] [(Blk.mk Bool.false (Body.fl FloatKind.f32 b0)), (Blk.mk Bool.true (Body.fl FloatKind.f32 b1))]) => some ((zbi an q26 b0 i b1), (LO.one (Ex.exit 0) (St.mk [(0, (AV.v (TV.one (At.vw 0 0 an 3)))), (3, (AV.v (TV.one (At.sl 1 0 q26 3)))), (4, (AV.v (TV.one (At.int IntKind.i64 (zg1 an q26 b0 i b1))))), (11, (AV.v (TV.one (At.bool (zfv an q26 b0 i b1)))))] [(Blk.mk Bool.false (Body.fl FloatKind.f32 b0)), (Blk.mk Bool.true (Body.fl FloatKind.f32 (za3 an q26 b0 i b1)))])))
  | _, _ => none
def zen (an : Nat) (q26 : Nat) (b0 : List Nat) : Option ((Int × Bool × (List Nat))) → Option (Ex × St)
  | none => none
  | some r => some ((Ex.exit 0), (St.mk [(0, (AV.v (TV.one (At.vw 0 0 an 3)))), (3, (AV.v (TV.one (At.sl 1 0 q26 3)))), (4, (AV.v (TV.one (At.int IntKind.i64 r.1)))), (11, (AV.v (TV.one (At.bool r.2.1))))] [(Blk.mk Bool.false (Body.fl FloatKind.f32 b0)), (Blk.mk Bool.true (Body.fl FloatKind.f32 r.2.2))]))
def zpr (an : Nat) (q26 : Nat) (b0 : List Nat) (x : Option ((Int × Bool × (List Nat)))) : LO := (LO.one (Ex.exit 0) (St.mk [(0, (AV.v (TV.one (At.vw 0 0 an 3)))), (3, (AV.v (TV.one (At.sl 1 0 q26 3)))), (4, (AV.v (TV.one (At.int IntKind.i64 (x.getD default).1)))), (11, (AV.v (TV.one (At.bool (x.getD default).2.1))))] [(Blk.mk Bool.false (Body.fl FloatKind.f32 b0)), (Blk.mk Bool.true (Body.fl FloatKind.f32 (x.getD default).2.2))]))
theorem zqf (an : Nat) (q26 : Nat) (b0 : List Nat) : ∀ x : Option ((Int × Bool × (List Nat))), x.isSome = true → (zen an q26 b0) x = some (pick (zpr an q26 b0 x))
  | none, h => by cases h
  | some r, _ => rfl
theorem zqi (an : Nat) (q26 : Nat) (i : Int) (b0 : List Nat) (b1 : List Nat) (K : Ex → St → Option (Ex × St)) : evC (R := Ex × St) Γ2 (evFn Γ2 8 8) 120 1 fi120.nt fi120.live fi120.nl 8 (findL 3 (loopsIn fi120.code)) (St.mk [(0, (AV.v (TV.one (At.vw 0 0 an 3)))), (3, (AV.v (TV.one (At.sl 1 0 q26 3)))), (4, (AV.v (TV.one (At.int IntKind.i64 i))))] [(Blk.mk Bool.false (Body.fl FloatKind.f32 b0)), (Blk.mk Bool.true (Body.fl FloatKind.f32 b1))]) K = z7g an q26 b0 i b1 (fun i' b1' => K .normal (St.mk [(0, (AV.v (TV.one (At.vw 0 0 an 3)))), (3, (AV.v (TV.one (At.sl 1 0 q26 3)))), (4, (AV.v (TV.one (At.int IntKind.i64 i'))))] [(Blk.mk Bool.false (Body.fl FloatKind.f32 b0)), (Blk.mk Bool.true (Body.fl FloatKind.f32 b1'))])) (fun c0_ c1_ c2_ => K (Ex.exit 0) (St.mk [(0, (AV.v (TV.one (At.vw 0 0 an 3)))), (3, (AV.v (TV.one (At.sl 1 0 q26 3)))), (4, (AV.v (TV.one (At.int IntKind.i64 c0_)))), (11, (AV.v (TV.one (At.bool c1_))))] [(Blk.mk Bool.false (Body.fl FloatKind.f32 b0)), (Blk.mk Bool.true (Body.fl FloatKind.f32 c2_))])) := by kernel_rfl
theorem zr4 (an : Nat) (q26 : Nat) (b0 : List Nat) : ∀ (n : Nat) (i : Int) (b1 : List Nat), iter 120 3 1 (evC (R := Ex × St) Γ2 (evFn Γ2 8 8) 120 1 fi120.nt fi120.live fi120.nl 8 (findL 3 (loopsIn fi120.code))) n (St.mk [(0, (AV.v (TV.one (At.vw 0 0 an 3)))), (3, (AV.v (TV.one (At.sl 1 0 q26 3)))), (4, (AV.v (TV.one (At.int IntKind.i64 i))))] [(Blk.mk Bool.false (Body.fl FloatKind.f32 b0)), (Blk.mk Bool.true (Body.fl FloatKind.f32 b1))]) (fun e st => some (e, st)) = (zen an q26 b0) (z3s an q26 b0 n i b1) := by
  intro n
  induction n with
  | zero => intros; rfl
  | succ n ih =>
    intro i b1
    refine Eq.trans (iter_succ ..) (Eq.trans (zqi an q26 i b0 b1 (nextK 120 3 1 (evC (R := Ex × St) Γ2 (evFn Γ2 8 8) 120 1 fi120.nt fi120.live fi120.nl 8 (findL 3 (loopsIn fi120.code))) n (fun e st => some (e, st)))) (Eq.trans ?_ (znr (zen an q26 b0) rfl an q26 b0 i b1 (fun i' b1' => z3s an q26 b0 n i' b1') (fun c0_ c1_ c2_ => some (c0_, c1_, c2_)))))
    exact congrArg (fun kn_ => z7g an q26 b0 i b1 kn_ (fun c0_ c1_ c2_ => (zen an q26 b0) (some (c0_, c1_, c2_)))) (funext fun i' => funext fun b1' => ih i' b1')
theorem z1d : LoopOne Try.prog fnTab 120 3 z1m := lp_of (Γ := Γ2) tyTab_ok (FnL.ok fnTab_ok _ _) (LpL.ok lt2_ok) (SumL.ok tb2_ok _) mixed (fi := fi120) (by kernel_rfl) (by kernel_rfl) (by
  intro lo st out hp
  unfold z1m at hp
  split at hp
  · rename_i an q26 i b0 b1
    injection hp with hp
    injection hp with h1 h2
    subst h2
    exact ⟨8, 8, big, Eq.trans (zr4 an q26 b0 big i b1) (zqf an q26 b0 (z3s an q26 b0 big i b1) h1)⟩
  · cases hp)
noncomputable def z1l : Nat → St → Option (Bool × LO)
  | 2, (St.mk [(0, (AV.v (TV.one (At.vw 0 0 an 1)))), (1, (AV.v (TV.one (At.vw 1 0 bn 1)))), (5, (AV.v (TV.one (At.int IntKind.i64 i))))] [(Blk.mk Bool.false (Body.fl FloatKind.f32 b0)), (Blk.mk Bool.false (Body.fl FloatKind.f32 b1))]) => some ((zem an bn b0 b1 i), (LO.two (zdq an bn b0 b1 i) (LO.one Ex.ret (St.mk [(4, (AV.v (TV.one (At.bool Bool.false))))] [(Blk.mk Bool.false (Body.fl FloatKind.f32 b0)), (Blk.mk Bool.false (Body.fl FloatKind.f32 b1))])) (LO.one (Ex.exit 0) (St.mk [(0, (AV.v (TV.one (At.vw 0 0 an 1)))), (1, (AV.v (TV.one (At.vw 1 0 bn 1)))), (5, (AV.v (TV.one (At.int IntKind.i64 (zg4 an bn b0 b1 i))))), (14, (AV.v (TV.one (At.bool (zg0 an bn b0 b1 i)))))] [(Blk.mk Bool.false (Body.fl FloatKind.f32 b0)), (Blk.mk Bool.false (Body.fl FloatKind.f32 b1))]))))
  | _, _ => none
def zbk (an : Nat) (bn : Nat) (b0 : List Nat) (b1 : List Nat) : Option ((Unit) ⊕ (Int × Bool)) → Option (Ex × St)
  | none => none
  | some (Sum.inl r) => some (Ex.ret, (St.mk [(4, (AV.v (TV.one (At.bool Bool.false))))] [(Blk.mk Bool.false (Body.fl FloatKind.f32 b0)), (Blk.mk Bool.false (Body.fl FloatKind.f32 b1))]))
  | some (Sum.inr r) => some ((Ex.exit 0), (St.mk [(0, (AV.v (TV.one (At.vw 0 0 an 1)))), (1, (AV.v (TV.one (At.vw 1 0 bn 1)))), (5, (AV.v (TV.one (At.int IntKind.i64 r.1)))), (14, (AV.v (TV.one (At.bool r.2))))] [(Blk.mk Bool.false (Body.fl FloatKind.f32 b0)), (Blk.mk Bool.false (Body.fl FloatKind.f32 b1))]))
def zpd (an : Nat) (bn : Nat) (b0 : List Nat) (b1 : List Nat) (x : Option ((Unit) ⊕ (Int × Bool))) : LO := (LO.two (oL x) (LO.one Ex.ret (St.mk [(4, (AV.v (TV.one (At.bool Bool.false))))] [(Blk.mk Bool.false (Body.fl FloatKind.f32 b0)), (Blk.mk Bool.false (Body.fl FloatKind.f32 b1))])) (LO.one (Ex.exit 0) (St.mk [(0, (AV.v (TV.one (At.vw 0 0 an 1)))), (1, (AV.v (TV.one (At.vw 1 0 bn 1)))), (5, (AV.v (TV.one (At.int IntKind.i64 ((tR x).getD default).1)))), (14, (AV.v (TV.one (At.bool ((tR x).getD default).2))))] [(Blk.mk Bool.false (Body.fl FloatKind.f32 b0)), (Blk.mk Bool.false (Body.fl FloatKind.f32 b1))])))
theorem zqq (an : Nat) (bn : Nat) (b0 : List Nat) (b1 : List Nat) : ∀ x : Option ((Unit) ⊕ (Int × Bool)), x.isSome = true → (zbk an bn b0 b1) x = some (pick (zpd an bn b0 b1 x))
  | none, h => by cases h
  | some (Sum.inl r), _ => rfl
  | some (Sum.inr r), _ => rfl
theorem zre (an : Nat) (bn : Nat) (i : Int) (b0 : List Nat) (b1 : List Nat) (K : Ex → St → Option (Ex × St)) : evC (R := Ex × St) Γ2 (evFn Γ2 8 8) 168 2 fi168.nt fi168.live fi168.nl 8 (findL 4 (loopsIn fi168.code)) (St.mk [(0, (AV.v (TV.one (At.vw 0 0 an 1)))), (1, (AV.v (TV.one (At.vw 1 0 bn 1)))), (5, (AV.v (TV.one (At.int IntKind.i64 i))))] [(Blk.mk Bool.false (Body.fl FloatKind.f32 b0)), (Blk.mk Bool.false (Body.fl FloatKind.f32 b1))]) K = z7l an bn b0 b1 i (fun i' => K .normal (St.mk [(0, (AV.v (TV.one (At.vw 0 0 an 1)))), (1, (AV.v (TV.one (At.vw 1 0 bn 1)))), (5, (AV.v (TV.one (At.int IntKind.i64 i'))))] [(Blk.mk Bool.false (Body.fl FloatKind.f32 b0)), (Blk.mk Bool.false (Body.fl FloatKind.f32 b1))])) (fun _ => K Ex.ret (St.mk [(4, (AV.v (TV.one (At.bool Bool.false))))] [(Blk.mk Bool.false (Body.fl FloatKind.f32 b0)), (Blk.mk Bool.false (Body.fl FloatKind.f32 b1))])) (fun c0_ c1_ => K (Ex.exit 0) (St.mk [(0, (AV.v (TV.one (At.vw 0 0 an 1)))), (1, (AV.v (TV.one (At.vw 1 0 bn 1)))), (5, (AV.v (TV.one (At.int IntKind.i64 c0_)))), (14, (AV.v (TV.one (At.bool c1_))))] [(Blk.mk Bool.false (Body.fl FloatKind.f32 b0)), (Blk.mk Bool.false (Body.fl FloatKind.f32 b1))])) := by kernel_rfl
theorem zr1 (an : Nat) (bn : Nat) (b0 : List Nat) (b1 : List Nat) : ∀ (n : Nat) (i : Int), iter 168 4 2 (evC (R := Ex × St) Γ2 (evFn Γ2 8 8) 168 2 fi168.nt fi168.live fi168.nl 8 (findL 4 (loopsIn fi168.code))) n (St.mk [(0, (AV.v (TV.one (At.vw 0 0 an 1)))), (1, (AV.v (TV.one (At.vw 1 0 bn 1)))), (5, (AV.v (TV.one (At.int IntKind.i64 i))))] [(Blk.mk Bool.false (Body.fl FloatKind.f32 b0)), (Blk.mk Bool.false (Body.fl FloatKind.f32 b1))]) (fun e st => some (e, st)) = (zbk an bn b0 b1) (z60 an bn b0 b1 n i) := by
  intro n
  induction n with
  | zero => intros; rfl
  | succ n ih =>
    intro i
    refine Eq.trans (iter_succ ..) (Eq.trans (zre an bn i b0 b1 (nextK 168 4 2 (evC (R := Ex × St) Γ2 (evFn Γ2 8 8) 168 2 fi168.nt fi168.live fi168.nl 8 (findL 4 (loopsIn fi168.code))) n (fun e st => some (e, st)))) (Eq.trans ?_ (zo8 (zbk an bn b0 b1) rfl an bn b0 b1 i (fun i' => z60 an bn b0 b1 n i') (fun _ => some (Sum.inl ())) (fun c0_ c1_ => some (Sum.inr (c0_, c1_))))))
    exact congrArg (fun kn_ => z7l an bn b0 b1 i kn_ (fun _ => (zbk an bn b0 b1) (some (Sum.inl ()))) (fun c0_ c1_ => (zbk an bn b0 b1) (some (Sum.inr (c0_, c1_))))) (funext fun i' => ih i')
theorem z1c : LoopOne Try.prog fnTab 168 4 z1l := lp_of (Γ := Γ2) tyTab_ok (FnL.ok fnTab_ok _ _) (LpL.ok lt2_ok) (SumL.ok tb2_ok _) mixed (fi := fi168) (by kernel_rfl) (by kernel_rfl) (by
  intro lo st out hp
  unfold z1l at hp
  split at hp
  · rename_i an bn i b0 b1
    injection hp with hp
    injection hp with h1 h2
    subst h2
    exact ⟨8, 8, big, Eq.trans (zr1 an bn b0 b1 big i) (zqq an bn b0 b1 (z60 an bn b0 b1 big i) h1)⟩
  · cases hp)
noncomputable def z16 : Nat → St → Option (Bool × LO)
  | 0, (St.mk [(4, (AV.v (TV.one (At.bool t4)))), (5, (AV.v (TV.one (At.flt FloatKind.f64 t5)))), (6, (AV.v (TV.one (At.flt FloatKind.f64 t6)))), (7, (AV.v (TV.one (At.flt FloatKind.f64 t7)))), (8, (AV.v (TV.one (At.int IntKind.i64 t8))))] []) => some ((z55 t6 t7 t8), (LO.one (Ex.exit 0) (St.mk [(4, (AV.v (TV.one (At.bool t4)))), (5, (AV.v (TV.one (At.flt FloatKind.f64 t5)))), (6, (AV.v (TV.one (At.flt FloatKind.f64 t6)))), (7, (AV.v (TV.one (At.flt FloatKind.f64 (z10 t6 t7 t8))))), (8, (AV.v (TV.one (At.int IntKind.i64 (zeq t6 t7 t8))))), (44, (AV.v (TV.one (At.bool (zel t6 t7 t8)))))] [])))
  | _, _ => none
def zdi (t4 : Bool) (t5 : Nat) (t6 : Nat) : Option ((Nat × Int × Bool)) → Option (Ex × St)
  | none => none
  | some r => some ((Ex.exit 0), (St.mk [(4, (AV.v (TV.one (At.bool t4)))), (5, (AV.v (TV.one (At.flt FloatKind.f64 t5)))), (6, (AV.v (TV.one (At.flt FloatKind.f64 t6)))), (7, (AV.v (TV.one (At.flt FloatKind.f64 r.1)))), (8, (AV.v (TV.one (At.int IntKind.i64 r.2.1)))), (44, (AV.v (TV.one (At.bool r.2.2))))] []))
def zob (t4 : Bool) (t5 : Nat) (t6 : Nat) (x : Option ((Nat × Int × Bool))) : LO := (LO.one (Ex.exit 0) (St.mk [(4, (AV.v (TV.one (At.bool t4)))), (5, (AV.v (TV.one (At.flt FloatKind.f64 t5)))), (6, (AV.v (TV.one (At.flt FloatKind.f64 t6)))), (7, (AV.v (TV.one (At.flt FloatKind.f64 (x.getD default).1)))), (8, (AV.v (TV.one (At.int IntKind.i64 (x.getD default).2.1)))), (44, (AV.v (TV.one (At.bool (x.getD default).2.2))))] []))
theorem zos (t4 : Bool) (t5 : Nat) (t6 : Nat) : ∀ x : Option ((Nat × Int × Bool)), x.isSome = true → (zdi t4 t5 t6) x = some (pick (zob t4 t5 t6 x))
  | none, h => by cases h
  | some r, _ => rfl
theorem zp4 (t4 : Bool) (t5 : Nat) (t6 : Nat) (t7 : Nat) (t8 : Int) (K : Ex → St → Option (Ex × St)) : evC (R := Ex × St) Γ2 (evFn Γ2 8 8) 188 0 fi188.nt fi188.live fi188.nl 8 (findL 17 (loopsIn fi188.code)) (St.mk [(4, (AV.v (TV.one (At.bool t4)))), (5, (AV.v (TV.one (At.flt FloatKind.f64 t5)))), (6, (AV.v (TV.one (At.flt FloatKind.f64 t6)))), (7, (AV.v (TV.one (At.flt FloatKind.f64 t7)))), (8, (AV.v (TV.one (At.int IntKind.i64 t8))))] []) K = z6v t6 t7 t8 (fun t7' t8' => K .normal (St.mk [(4, (AV.v (TV.one (At.bool t4)))), (5, (AV.v (TV.one (At.flt FloatKind.f64 t5)))), (6, (AV.v (TV.one (At.flt FloatKind.f64 t6)))), (7, (AV.v (TV.one (At.flt FloatKind.f64 t7')))), (8, (AV.v (TV.one (At.int IntKind.i64 t8'))))] [])) (fun c0_ c1_ c2_ => K (Ex.exit 0) (St.mk [(4, (AV.v (TV.one (At.bool t4)))), (5, (AV.v (TV.one (At.flt FloatKind.f64 t5)))), (6, (AV.v (TV.one (At.flt FloatKind.f64 t6)))), (7, (AV.v (TV.one (At.flt FloatKind.f64 c0_)))), (8, (AV.v (TV.one (At.int IntKind.i64 c1_)))), (44, (AV.v (TV.one (At.bool c2_))))] [])) := by kernel_rfl
theorem zoy (t4 : Bool) (t5 : Nat) (t6 : Nat) : ∀ (n : Nat) (t7 : Nat) (t8 : Int), iter 188 17 0 (evC (R := Ex × St) Γ2 (evFn Γ2 8 8) 188 0 fi188.nt fi188.live fi188.nl 8 (findL 17 (loopsIn fi188.code))) n (St.mk [(4, (AV.v (TV.one (At.bool t4)))), (5, (AV.v (TV.one (At.flt FloatKind.f64 t5)))), (6, (AV.v (TV.one (At.flt FloatKind.f64 t6)))), (7, (AV.v (TV.one (At.flt FloatKind.f64 t7)))), (8, (AV.v (TV.one (At.int IntKind.i64 t8))))] []) (fun e st => some (e, st)) = (zdi t4 t5 t6) (z3j t6 n t7 t8) := by
  intro n
  induction n with
  | zero => intros; rfl
  | succ n ih =>
    intro t7 t8
    refine Eq.trans (iter_succ ..) (Eq.trans (zp4 t4 t5 t6 t7 t8 (nextK 188 17 0 (evC (R := Ex × St) Γ2 (evFn Γ2 8 8) 188 0 fi188.nt fi188.live fi188.nl 8 (findL 17 (loopsIn fi188.code))) n (fun e st => some (e, st)))) (Eq.trans ?_ (zmv (zdi t4 t5 t6) rfl t6 t7 t8 (fun t7' t8' => z3j t6 n t7' t8') (fun c0_ c1_ c2_ => some (c0_, c1_, c2_)))))
    exact congrArg (fun kn_ => z6v t6 t7 t8 kn_ (fun c0_ c1_ c2_ => (zdi t4 t5 t6) (some (c0_, c1_, c2_)))) (funext fun t7' => funext fun t8' => ih t7' t8')
theorem z14 : LoopOne Try.prog fnTab 188 17 z16 := lp_of (Γ := Γ2) tyTab_ok (FnL.ok fnTab_ok _ _) (LpL.ok lt2_ok) (SumL.ok tb2_ok _) mixed (fi := fi188) (by kernel_rfl) (by kernel_rfl) (by
  intro lo st out hp
  unfold z16 at hp
  split at hp
  · rename_i t4 t5 t6 t7 t8
    injection hp with hp
    injection hp with h1 h2
    subst h2
    exact ⟨8, 8, big, Eq.trans (zoy t4 t5 t6 big t7 t8) (zos t4 t5 t6 (z3j t6 big t7 t8) h1)⟩
  · cases hp)
noncomputable def tb3 : List (Nat × (List PT → Option (Bool × AV × List Blk))) := [(156, z0y), (181, z1f), (182, z23), (189, z25), (26, z2u), (55, z2f), (84, z13), (89, z45), (102, z6f), (112, z21), (115, z2e), (123, z2s), (126, z4t), (157, z6b), (160, z22), (162, z4x), (167, z2c), (175, z44), (176, z1q), (187, z2d), (74, z3p), (83, z12), (85, z4k), (90, z3q), (103, z4j), (111, z2q), (116, z33), (117, z4i), (138, z35), (148, z1z), (150, z1e), (169, z2p), (185, z34), (52, z49), (154, z2n), (158, z5w), (166, z2o)]
noncomputable def lt3 : List ((Nat × Nat) × (Nat → St → Option (Bool × LO))) := [((166, 3), z1b), ((120, 3), z1m), ((168, 4), z1l), ((188, 17), z16)]
noncomputable def Γ3 : Ctx := ⟨tyTab, fnTab, tblSum tb3, tblLp lt3⟩
theorem tb3_ok : SumL Try.prog tb3 := SumL.cons z0t (SumL.cons z17 (SumL.cons z1o (SumL.cons z1p (SumL.cons z2a (SumL.cons z1w (SumL.cons z0z (SumL.cons z31 (SumL.cons z53 (SumL.cons z1i (SumL.cons z1x (SumL.cons z2b (SumL.cons z3i (SumL.cons z54 (SumL.cons z1k (SumL.cons z3k (SumL.cons z1y (SumL.cons z32 (SumL.cons z1a (SumL.cons z1v (SumL.cons z2y (SumL.cons z11 (SumL.cons z3h (SumL.cons z2z (SumL.cons z3g (SumL.cons z28 (SumL.cons z2l (SumL.cons z3e (SumL.cons z2m (SumL.cons z1h (SumL.cons z19 (SumL.cons z27 (SumL.cons z2k (SumL.cons z39 (SumL.cons z26 (SumL.cons z4h (SumL.cons z24 (SumL.nil)))))))))))))))))))))))))))))))))))))
theorem lt3_ok : LpL Try.prog fnTab lt3 := LpL.cons z18 (LpL.cons z1d (LpL.cons z1c (LpL.cons z14 (LpL.nil))))
noncomputable def z30 : List PT → Option (Bool × AV × List Blk)
  | [.one (.s (.flt .f64 q25))] => some ((zig q25), ((AV.v (TV.one (At.flt FloatKind.f64 (z15 q25)))), []))
  | _ => none
def zmx (q25 : Nat) : Option (Nat) → Option (AV × List Blk)
  | some r => some ((AV.v (TV.one (At.flt FloatKind.f64 r))), [])
  | none => none
theorem zty (q25 : Nat) : evFn Γ3 8 8 104 (impTs 0 [.one (.s (.flt .f64 q25))]).1 (impTs 0 [.one (.s (.flt .f64 q25))]).2 (expo (impTs 0 [.one (.s (.flt .f64 q25))]).2.length) = zc0 q25 (fun c0_ => some ((AV.v (TV.one (At.flt FloatKind.f64 c0_))), [])) := by kernel_rfl
theorem z2g : SumOne Try.prog 104 z30 := sum_of (Γ := Γ3) (fuel := 8) (d := 8) tyTab_ok (FnL.ok fnTab_ok _ _) (LpL.ok lt3_ok) (SumL.ok tb3_ok _) mixed (by
  intro pts v news hp hc
  clear hc
  unfold z30 at hp
  split at hp
  · rename_i q25
    exact Eq.trans (Eq.trans (zty q25) (zq3 (zmx q25) rfl q25 (fun c0_ => some c0_))) (fin_out (o := (zmx q25)) (x := zc2 q25) (d := default) (V := fun r => ((AV.v (TV.one (At.flt FloatKind.f64 r))), [])) (fun r => rfl) hp)
  · cases hp)
noncomputable def z3c : List PT → Option (Bool × AV × List Blk)
  | [.agg [.row 1 q17 (.fl .f32 q1l), .row 1 q1c (.fl .f32 q1o), .row 1 q1d (.fl .f32 q1p)]] => some ((zjl q17 q1l q1c q1o q1d q1p), ((AV.v (TV.agg [(At.sl 0 0 (zi8 q17 q1l q1c q1o q1d q1p) 1), (At.sl 1 0 (zi9 q17 q1l q1c q1o q1d q1p) 1), (At.sl 2 0 (zhv q17 q1l q1c q1o q1d q1p) 1)])), [(Blk.mk Bool.true (Body.fl FloatKind.f32 (zi1 q17 q1l q1c q1o q1d q1p))), (Blk.mk Bool.true (Body.fl FloatKind.f32 (zic q17 q1l q1c q1o q1d q1p))), (Blk.mk Bool.true (Body.fl FloatKind.f32 (zhw q17 q1l q1c q1o q1d q1p)))]))
  | _ => none
def znp (q17 : Nat) (q1l : List Nat) (q1c : Nat) (q1o : List Nat) (q1d : Nat) (q1p : List Nat) : Option (Nat × Nat × Nat × (List Nat) × (List Nat) × (List Nat)) → Option (AV × List Blk)
  | some r => some ((AV.v (TV.agg [(At.sl 0 0 r.1 1), (At.sl 1 0 r.2.1 1), (At.sl 2 0 r.2.2.1 1)])), [(Blk.mk Bool.true (Body.fl FloatKind.f32 r.2.2.2.1)), (Blk.mk Bool.true (Body.fl FloatKind.f32 r.2.2.2.2.1)), (Blk.mk Bool.true (Body.fl FloatKind.f32 r.2.2.2.2.2))])
  | none => none
theorem zub (q17 : Nat) (q1l : List Nat) (q1c : Nat) (q1o : List Nat) (q1d : Nat) (q1p : List Nat) : evFn Γ3 8 8 119 (impTs 0 [.agg [.row 1 q17 (.fl .f32 q1l), .row 1 q1c (.fl .f32 q1o), .row 1 q1d (.fl .f32 q1p)]]).1 (impTs 0 [.agg [.row 1 q17 (.fl .f32 q1l), .row 1 q1c (.fl .f32 q1o), .row 1 q1d (.fl .f32 q1p)]]).2 (expo (impTs 0 [.agg [.row 1 q17 (.fl .f32 q1l), .row 1 q1c (.fl .f32 q1o), .row 1 q1d (.fl .f32 q1p)]]).2.length) = zdc q17 q1l q1c q1o q1d q1p (fun c0_ c1_ c2_ c3_ c4_ c5_ => some ((AV.v (TV.agg [(At.sl 0 0 c0_ 1), (At.sl 1 0 c1_ 1), (At.sl 2 0 c2_ 1)])), [(Blk.mk Bool.true (Body.fl FloatKind.f32 c3_)), (Blk.mk Bool.true (Body.fl FloatKind.f32 c4_)), (Blk.mk Bool.true (Body.fl FloatKind.f32 c5_))])) := by kernel_rfl
theorem z2r : SumOne Try.prog 119 z3c := sum_of (Γ := Γ3) (fuel := 8) (d := 8) tyTab_ok (FnL.ok fnTab_ok _ _) (LpL.ok lt3_ok) (SumL.ok tb3_ok _) mixed (by
  intro pts v news hp hc
  clear hc
  unfold z3c at hp
  split at hp
  · rename_i q17 q1l q1c q1o q1d q1p
    exact Eq.trans (Eq.trans (zub q17 q1l q1c q1o q1d q1p) (zqh (znp q17 q1l q1c q1o q1d q1p) rfl q17 q1l q1c q1o q1d q1p (fun c0_ c1_ c2_ c3_ c4_ c5_ => some (c0_, c1_, c2_, c3_, c4_, c5_)))) (fin_out (o := (znp q17 q1l q1c q1o q1d q1p)) (x := z7s q17 q1l q1c q1o q1d q1p) (d := default) (V := fun r => ((AV.v (TV.agg [(At.sl 0 0 r.1 1), (At.sl 1 0 r.2.1 1), (At.sl 2 0 r.2.2.1 1)])), [(Blk.mk Bool.true (Body.fl FloatKind.f32 r.2.2.2.1)), (Blk.mk Bool.true (Body.fl FloatKind.f32 r.2.2.2.2.1)), (Blk.mk Bool.true (Body.fl FloatKind.f32 r.2.2.2.2.2))])) (fun r => rfl) hp)
  · cases hp)
noncomputable def z2w : List PT → Option (Bool × AV × List Blk)
  | [.one (.row 3 a_n (.fl .f32 a))] => some ((zhy a_n a), ((AV.v (TV.one (At.sl 0 0 (zh8 a_n a) 3))), [(Blk.mk Bool.true (Body.fl FloatKind.f32 (zgv a_n a)))]))
  | _ => none
def zn3 (a_n : Nat) (a : List Nat) : Option (Nat × (List Nat)) → Option (AV × List Blk)
  | some r => some ((AV.v (TV.one (At.sl 0 0 r.1 3))), [(Blk.mk Bool.true (Body.fl FloatKind.f32 r.2))])
  | none => none
theorem ztj (a_n : Nat) (a : List Nat) : evFn Γ3 8 8 120 (impTs 0 [.one (.row 3 a_n (.fl .f32 a))]).1 (impTs 0 [.one (.row 3 a_n (.fl .f32 a))]).2 (expo (impTs 0 [.one (.row 3 a_n (.fl .f32 a))]).2.length) = zbq a_n a (fun c0_ c1_ => some ((AV.v (TV.one (At.sl 0 0 c0_ 3))), [(Blk.mk Bool.true (Body.fl FloatKind.f32 c1_))])) := by kernel_rfl
theorem z2h : SumOne Try.prog 120 z2w := sum_of (Γ := Γ3) (fuel := 8) (d := 8) tyTab_ok (FnL.ok fnTab_ok _ _) (LpL.ok lt3_ok) (SumL.ok tb3_ok _) mixed (by
  intro pts v news hp hc
  clear hc
  unfold z2w at hp
  split at hp
  · rename_i a_n a
    exact Eq.trans (Eq.trans (ztj a_n a) (zpe (zn3 a_n a) rfl a_n a (fun c0_ c1_ => some (c0_, c1_)))) (fin_out (o := (zn3 a_n a)) (x := za9 a_n a) (d := default) (V := fun r => ((AV.v (TV.one (At.sl 0 0 r.1 3))), [(Blk.mk Bool.true (Body.fl FloatKind.f32 r.2))])) (fun r => rfl) hp)
  · cases hp)
noncomputable def z2x : List PT → Option (Bool × AV × List Blk)
  | [.one (.row 1 a_n (.fl .f32 a)), .one (.row 1 b_n (.fl .f32 b))] => some ((zbx a_n a b_n b), ((AV.v (TV.one (At.bool (zax a_n a b_n b)))), []))
  | _ => none
def zn8 (a_n : Nat) (a : List Nat) (b_n : Nat) (b : List Nat) : Option (Bool) → Option (AV × List Blk)
  | some r => some ((AV.v (TV.one (At.bool r))), [])
  | none => none
theorem ztq (a_n : Nat) (a : List Nat) (b_n : Nat) (b : List Nat) : evFn Γ3 8 8 168 (impTs 0 [.one (.row 1 a_n (.fl .f32 a)), .one (.row 1 b_n (.fl .f32 b))]).1 (impTs 0 [.one (.row 1 a_n (.fl .f32 a)), .one (.row 1 b_n (.fl .f32 b))]).2 (expo (impTs 0 [.one (.row 1 a_n (.fl .f32 a)), .one (.row 1 b_n (.fl .f32 b))]).2.length) = zc4 a_n a b_n b (fun c0_ => some ((AV.v (TV.one (At.bool c0_))), [])) := by kernel_rfl
theorem z2i : SumOne Try.prog 168 z2x := sum_of (Γ := Γ3) (fuel := 8) (d := 8) tyTab_ok (FnL.ok fnTab_ok _ _) (LpL.ok lt3_ok) (SumL.ok tb3_ok _) mixed (by
  intro pts v news hp hc
  clear hc
  unfold z2x at hp
  split at hp
  · rename_i a_n a b_n b
    exact Eq.trans (Eq.trans (ztq a_n a b_n b) (zq4 (zn8 a_n a b_n b) rfl a_n a b_n b (fun c0_ => some c0_))) (fin_out (o := (zn8 a_n a b_n b)) (x := zc3 a_n a b_n b) (d := default) (V := fun r => ((AV.v (TV.one (At.bool r))), [])) (fun r => rfl) hp)
  · cases hp)
noncomputable def z2j : List PT → Option (Bool × AV × List Blk)
  | [.one (.s (.flt .f64 q16))] => some ((zhc q16), ((AV.v (TV.one (At.flt FloatKind.f64 (zcp q16)))), []))
  | _ => none
def zmq (q16 : Nat) : Option (Nat) → Option (AV × List Blk)
  | some r => some ((AV.v (TV.one (At.flt FloatKind.f64 r))), [])
  | none => none
theorem zs9 (q16 : Nat) : evFn Γ3 8 8 188 (impTs 0 [.one (.s (.flt .f64 q16))]).1 (impTs 0 [.one (.s (.flt .f64 q16))]).2 (expo (impTs 0 [.one (.s (.flt .f64 q16))]).2.length) = z8u q16 (fun c0_ => some ((AV.v (TV.one (At.flt FloatKind.f64 c0_))), [])) := by kernel_rfl
theorem z29 : SumOne Try.prog 188 z2j := sum_of (Γ := Γ3) (fuel := 8) (d := 8) tyTab_ok (FnL.ok fnTab_ok _ _) (LpL.ok lt3_ok) (SumL.ok tb3_ok _) mixed (by
  intro pts v news hp hc
  clear hc
  unfold z2j at hp
  split at hp
  · rename_i q16
    exact Eq.trans (Eq.trans (zs9 q16) (zp0 (zmq q16) rfl q16 (fun c0_ => some c0_))) (fin_out (o := (zmq q16)) (x := z8c q16) (d := default) (V := fun r => ((AV.v (TV.one (At.flt FloatKind.f64 r))), [])) (fun r => rfl) hp)
  · cases hp)
noncomputable def z1u : Nat → St → Option (Bool × LO)
  | 2, (St.mk [(0, (AV.v (TV.one (At.vw 0 0 an 3)))), (1, (AV.v (TV.one (At.vw 1 0 bn 3)))), (5, (AV.v (TV.one (At.int IntKind.i64 i))))] [(Blk.mk Bool.false (Body.fl FloatKind.f32 b0)), (Blk.mk Bool.false (Body.fl FloatKind.f32 b1))]) => some ((zbf an bn b0 b1 i), (LO.two (zaw an bn b0 b1 i) (LO.one Ex.ret (St.mk [(4, (AV.v (TV.one (At.bool Bool.false))))] [(Blk.mk Bool.false (Body.fl FloatKind.f32 b0)), (Blk.mk Bool.false (Body.fl FloatKind.f32 b1))])) (LO.one (Ex.exit 0) (St.mk [(0, (AV.v (TV.one (At.vw 0 0 an 3)))), (1, (AV.v (TV.one (At.vw 1 0 bn 3)))), (5, (AV.v (TV.one (At.int IntKind.i64 (zfy an bn b0 b1 i))))), (14, (AV.v (TV.one (At.bool (zga an bn b0 b1 i)))))] [(Blk.mk Bool.false (Body.fl FloatKind.f32 b0)), (Blk.mk Bool.false (Body.fl FloatKind.f32 b1))]))))
  | _, _ => none
def zbh (an : Nat) (bn : Nat) (b0 : List Nat) (b1 : List Nat) : Option ((Unit) ⊕ (Int × Bool)) → Option (Ex × St)
  | none => none
  | some (Sum.inl r) => some (Ex.ret, (St.mk [(4, (AV.v (TV.one (At.bool Bool.false))))] [(Blk.mk Bool.false (Body.fl FloatKind.f32 b0)), (Blk.mk Bool.false (Body.fl FloatKind.f32 b1))]))
  | some (Sum.inr r) => some ((Ex.exit 0), (St.mk [(0, (AV.v (TV.one (At.vw 0 0 an 3)))), (1, (AV.v (TV.one (At.vw 1 0 bn 3)))), (5, (AV.v (TV.one (At.int IntKind.i64 r.1)))), (14, (AV.v (TV.one (At.bool r.2))))] [(Blk.mk Bool.false (Body.fl FloatKind.f32 b0)), (Blk.mk Bool.false (Body.fl FloatKind.f32 b1))]))
def zpy (an : Nat) (bn : Nat) (b0 : List Nat) (b1 : List Nat) (x : Option ((Unit) ⊕ (Int × Bool))) : LO := (LO.two (oL x) (LO.one Ex.ret (St.mk [(4, (AV.v (TV.one (At.bool Bool.false))))] [(Blk.mk Bool.false (Body.fl FloatKind.f32 b0)), (Blk.mk Bool.false (Body.fl FloatKind.f32 b1))])) (LO.one (Ex.exit 0) (St.mk [(0, (AV.v (TV.one (At.vw 0 0 an 3)))), (1, (AV.v (TV.one (At.vw 1 0 bn 3)))), (5, (AV.v (TV.one (At.int IntKind.i64 ((tR x).getD default).1)))), (14, (AV.v (TV.one (At.bool ((tR x).getD default).2))))] [(Blk.mk Bool.false (Body.fl FloatKind.f32 b0)), (Blk.mk Bool.false (Body.fl FloatKind.f32 b1))])))
theorem zqg (an : Nat) (bn : Nat) (b0 : List Nat) (b1 : List Nat) : ∀ x : Option ((Unit) ⊕ (Int × Bool)), x.isSome = true → (zbh an bn b0 b1) x = some (pick (zpy an bn b0 b1 x))
  | none, h => by cases h
  | some (Sum.inl r), _ => rfl
  | some (Sum.inr r), _ => rfl
theorem zr6 (an : Nat) (bn : Nat) (i : Int) (b0 : List Nat) (b1 : List Nat) (K : Ex → St → Option (Ex × St)) : evC (R := Ex × St) Γ3 (evFn Γ3 8 8) 122 2 fi122.nt fi122.live fi122.nl 8 (findL 4 (loopsIn fi122.code)) (St.mk [(0, (AV.v (TV.one (At.vw 0 0 an 3)))), (1, (AV.v (TV.one (At.vw 1 0 bn 3)))), (5, (AV.v (TV.one (At.int IntKind.i64 i))))] [(Blk.mk Bool.false (Body.fl FloatKind.f32 b0)), (Blk.mk Bool.false (Body.fl FloatKind.f32 b1))]) K = z7j an bn b0 b1 i (fun i' => K .normal (St.mk [(0, (AV.v (TV.one (At.vw 0 0 an 3)))), (1, (AV.v (TV.one (At.vw 1 0 bn 3)))), (5, (AV.v (TV.one (At.int IntKind.i64 i'))))] [(Blk.mk Bool.false (Body.fl FloatKind.f32 b0)), (Blk.mk Bool.false (Body.fl FloatKind.f32 b1))])) (fun _ => K Ex.ret (St.mk [(4, (AV.v (TV.one (At.bool Bool.false))))] [(Blk.mk Bool.false (Body.fl FloatKind.f32 b0)), (Blk.mk Bool.false (Body.fl FloatKind.f32 b1))])) (fun c0_ c1_ => K (Ex.exit 0) (St.mk [(0, (AV.v (TV.one (At.vw 0 0 an 3)))), (1, (AV.v (TV.one (At.vw 1 0 bn 3)))), (5, (AV.v (TV.one (At.int IntKind.i64 c0_)))), (14, (AV.v (TV.one (At.bool c1_))))] [(Blk.mk Bool.false (Body.fl FloatKind.f32 b0)), (Blk.mk Bool.false (Body.fl FloatKind.f32 b1))])) := by kernel_rfl
theorem zqp (an : Nat) (bn : Nat) (b0 : List Nat) (b1 : List Nat) : ∀ (n : Nat) (i : Int), iter 122 4 2 (evC (R := Ex × St) Γ3 (evFn Γ3 8 8) 122 2 fi122.nt fi122.live fi122.nl 8 (findL 4 (loopsIn fi122.code))) n (St.mk [(0, (AV.v (TV.one (At.vw 0 0 an 3)))), (1, (AV.v (TV.one (At.vw 1 0 bn 3)))), (5, (AV.v (TV.one (At.int IntKind.i64 i))))] [(Blk.mk Bool.false (Body.fl FloatKind.f32 b0)), (Blk.mk Bool.false (Body.fl FloatKind.f32 b1))]) (fun e st => some (e, st)) = (zbh an bn b0 b1) (z61 an bn b0 b1 n i) := by
  intro n
  induction n with
  | zero => intros; rfl
  | succ n ih =>
    intro i
    refine Eq.trans (iter_succ ..) (Eq.trans (zr6 an bn i b0 b1 (nextK 122 4 2 (evC (R := Ex × St) Γ3 (evFn Γ3 8 8) 122 2 fi122.nt fi122.live fi122.nl 8 (findL 4 (loopsIn fi122.code))) n (fun e st => some (e, st)))) (Eq.trans ?_ (znw (zbh an bn b0 b1) rfl an bn b0 b1 i (fun i' => z61 an bn b0 b1 n i') (fun _ => some (Sum.inl ())) (fun c0_ c1_ => some (Sum.inr (c0_, c1_))))))
    exact congrArg (fun kn_ => z7j an bn b0 b1 i kn_ (fun _ => (zbh an bn b0 b1) (some (Sum.inl ()))) (fun c0_ c1_ => (zbh an bn b0 b1) (some (Sum.inr (c0_, c1_))))) (funext fun i' => ih i')
theorem z1n : LoopOne Try.prog fnTab 122 4 z1u := lp_of (Γ := Γ3) tyTab_ok (FnL.ok fnTab_ok _ _) (LpL.ok lt3_ok) (SumL.ok tb3_ok _) mixed (fi := fi122) (by kernel_rfl) (by kernel_rfl) (by
  intro lo st out hp
  unfold z1u at hp
  split at hp
  · rename_i an bn i b0 b1
    injection hp with hp
    injection hp with h1 h2
    subst h2
    exact ⟨8, 8, big, Eq.trans (zqp an bn b0 b1 big i) (zqg an bn b0 b1 (z61 an bn b0 b1 big i) h1)⟩
  · cases hp)
noncomputable def z04 : Nat → St → Option (Bool × LO)
  | 1, (St.mk [(0, (AV.v (TV.one (At.vw 0 0 sn 1)))), (1, (AV.v (TV.one (At.fn 148 [])))), (7, (AV.v (TV.one (At.int IntKind.i64 t7)))), (8, (AV.v (TV.one (At.int IntKind.i64 t8))))] [(Blk.mk Bool.false (Body.fl FloatKind.f32 b0))]) => some ((z4o sn t7 b0 t8), (LO.two (z4g sn t7 b0 t8) (LO.one Ex.ret (St.mk [(4, (AV.v (TV.one (At.int IntKind.i64 (z6p sn t7 b0 t8)))))] [(Blk.mk Bool.false (Body.fl FloatKind.f32 b0))])) (LO.one (Ex.exit 0) (St.mk [(0, (AV.v (TV.one (At.vw 0 0 sn 1)))), (1, (AV.v (TV.one (At.fn 148 [])))), (7, (AV.v (TV.one (At.int IntKind.i64 t7)))), (8, (AV.v (TV.one (At.int IntKind.i64 (z8i sn t7 b0 t8))))), (9, (AV.v (TV.one (At.bool (z8g sn t7 b0 t8)))))] [(Blk.mk Bool.false (Body.fl FloatKind.f32 b0))]))))
  | _, _ => none
def z66 (sn : Nat) (t7 : Int) (b0 : List Nat) : Option ((Int) ⊕ (Int × Bool)) → Option (Ex × St)
  | none => none
  | some (Sum.inl r) => some (Ex.ret, (St.mk [(4, (AV.v (TV.one (At.int IntKind.i64 r))))] [(Blk.mk Bool.false (Body.fl FloatKind.f32 b0))]))
  | some (Sum.inr r) => some ((Ex.exit 0), (St.mk [(0, (AV.v (TV.one (At.vw 0 0 sn 1)))), (1, (AV.v (TV.one (At.fn 148 [])))), (7, (AV.v (TV.one (At.int IntKind.i64 t7)))), (8, (AV.v (TV.one (At.int IntKind.i64 r.1)))), (9, (AV.v (TV.one (At.bool r.2))))] [(Blk.mk Bool.false (Body.fl FloatKind.f32 b0))]))
def zhu (sn : Nat) (t7 : Int) (b0 : List Nat) (x : Option ((Int) ⊕ (Int × Bool))) : LO := (LO.two (oL x) (LO.one Ex.ret (St.mk [(4, (AV.v (TV.one (At.int IntKind.i64 ((tL x).getD default)))))] [(Blk.mk Bool.false (Body.fl FloatKind.f32 b0))])) (LO.one (Ex.exit 0) (St.mk [(0, (AV.v (TV.one (At.vw 0 0 sn 1)))), (1, (AV.v (TV.one (At.fn 148 [])))), (7, (AV.v (TV.one (At.int IntKind.i64 t7)))), (8, (AV.v (TV.one (At.int IntKind.i64 ((tR x).getD default).1)))), (9, (AV.v (TV.one (At.bool ((tR x).getD default).2))))] [(Blk.mk Bool.false (Body.fl FloatKind.f32 b0))])))
theorem zix (sn : Nat) (t7 : Int) (b0 : List Nat) : ∀ x : Option ((Int) ⊕ (Int × Bool)), x.isSome = true → (z66 sn t7 b0) x = some (pick (zhu sn t7 b0 x))
  | none, h => by cases h
  | some (Sum.inl r), _ => rfl
  | some (Sum.inr r), _ => rfl
theorem zim (sn : Nat) (t7 : Int) (t8 : Int) (b0 : List Nat) (K : Ex → St → Option (Ex × St)) : evC (R := Ex × St) Γ3 (evFn Γ3 8 8) 178 1 fi178.nt fi178.live fi178.nl 8 (findL 2 (loopsIn fi178.code)) (St.mk [(0, (AV.v (TV.one (At.vw 0 0 sn 1)))), (1, (AV.v (TV.one (At.fn 148 [])))), (7, (AV.v (TV.one (At.int IntKind.i64 t7)))), (8, (AV.v (TV.one (At.int IntKind.i64 t8))))] [(Blk.mk Bool.false (Body.fl FloatKind.f32 b0))]) K = z1s sn t7 b0 t8 (fun t8' => K .normal (St.mk [(0, (AV.v (TV.one (At.vw 0 0 sn 1)))), (1, (AV.v (TV.one (At.fn 148 [])))), (7, (AV.v (TV.one (At.int IntKind.i64 t7)))), (8, (AV.v (TV.one (At.int IntKind.i64 t8'))))] [(Blk.mk Bool.false (Body.fl FloatKind.f32 b0))])) (fun c0_ => K Ex.ret (St.mk [(4, (AV.v (TV.one (At.int IntKind.i64 c0_))))] [(Blk.mk Bool.false (Body.fl FloatKind.f32 b0))])) (fun c0_ c1_ => K (Ex.exit 0) (St.mk [(0, (AV.v (TV.one (At.vw 0 0 sn 1)))), (1, (AV.v (TV.one (At.fn 148 [])))), (7, (AV.v (TV.one (At.int IntKind.i64 t7)))), (8, (AV.v (TV.one (At.int IntKind.i64 c0_)))), (9, (AV.v (TV.one (At.bool c1_))))] [(Blk.mk Bool.false (Body.fl FloatKind.f32 b0))])) := by kernel_rfl
theorem zit (sn : Nat) (t7 : Int) (b0 : List Nat) : ∀ (n : Nat) (t8 : Int), iter 178 2 1 (evC (R := Ex × St) Γ3 (evFn Γ3 8 8) 178 1 fi178.nt fi178.live fi178.nl 8 (findL 2 (loopsIn fi178.code))) n (St.mk [(0, (AV.v (TV.one (At.vw 0 0 sn 1)))), (1, (AV.v (TV.one (At.fn 148 [])))), (7, (AV.v (TV.one (At.int IntKind.i64 t7)))), (8, (AV.v (TV.one (At.int IntKind.i64 t8))))] [(Blk.mk Bool.false (Body.fl FloatKind.f32 b0))]) (fun e st => some (e, st)) = (z66 sn t7 b0) (z0q sn t7 b0 n t8) := by
  intro n
  induction n with
  | zero => intros; rfl
  | succ n ih =>
    intro t8
    refine Eq.trans (iter_succ ..) (Eq.trans (zim sn t7 t8 b0 (nextK 178 2 1 (evC (R := Ex × St) Γ3 (evFn Γ3 8 8) 178 1 fi178.nt fi178.live fi178.nl 8 (findL 2 (loopsIn fi178.code))) n (fun e st => some (e, st)))) (Eq.trans ?_ (zg6 (z66 sn t7 b0) rfl sn t7 b0 t8 (fun t8' => z0q sn t7 b0 n t8') (fun c0_ => some (Sum.inl c0_)) (fun c0_ c1_ => some (Sum.inr (c0_, c1_))))))
    exact congrArg (fun kn_ => z1s sn t7 b0 t8 kn_ (fun c0_ => (z66 sn t7 b0) (some (Sum.inl c0_))) (fun c0_ c1_ => (z66 sn t7 b0) (some (Sum.inr (c0_, c1_))))) (funext fun t8' => ih t8')
theorem z05 : LoopOne Try.prog fnTab 178 2 z04 := lp_of (Γ := Γ3) tyTab_ok (FnL.ok fnTab_ok _ _) (LpL.ok lt3_ok) (SumL.ok tb3_ok _) mixed (fi := fi178) (by kernel_rfl) (by kernel_rfl) (by
  intro lo st out hp
  unfold z04 at hp
  split at hp
  · rename_i sn t7 t8 b0
    injection hp with hp
    injection hp with h1 h2
    subst h2
    exact ⟨8, 8, big, Eq.trans (zit sn t7 b0 big t8) (zix sn t7 b0 (z0q sn t7 b0 big t8) h1)⟩
  · cases hp)
noncomputable def z02 : Nat → St → Option (Bool × LO)
  | 1, (St.mk [(0, (AV.v (TV.one (At.vw 0 0 sn 1)))), (1, (AV.v (TV.one (At.fn 150 [])))), (7, (AV.v (TV.one (At.int IntKind.i64 t7)))), (8, (AV.v (TV.one (At.int IntKind.i64 t8))))] [(Blk.mk Bool.false (Body.fl FloatKind.f32 b0))]) => some ((z47 sn t7 b0 t8), (LO.two (z3z sn t7 b0 t8) (LO.one Ex.ret (St.mk [(4, (AV.v (TV.one (At.int IntKind.i64 (z6h sn t7 b0 t8)))))] [(Blk.mk Bool.false (Body.fl FloatKind.f32 b0))])) (LO.one (Ex.exit 0) (St.mk [(0, (AV.v (TV.one (At.vw 0 0 sn 1)))), (1, (AV.v (TV.one (At.fn 150 [])))), (7, (AV.v (TV.one (At.int IntKind.i64 t7)))), (8, (AV.v (TV.one (At.int IntKind.i64 (z82 sn t7 b0 t8))))), (9, (AV.v (TV.one (At.bool (z83 sn t7 b0 t8)))))] [(Blk.mk Bool.false (Body.fl FloatKind.f32 b0))]))))
  | _, _ => none
def z5y (sn : Nat) (t7 : Int) (b0 : List Nat) : Option ((Int) ⊕ (Int × Bool)) → Option (Ex × St)
  | none => none
  | some (Sum.inl r) => some (Ex.ret, (St.mk [(4, (AV.v (TV.one (At.int IntKind.i64 r))))] [(Blk.mk Bool.false (Body.fl FloatKind.f32 b0))]))
  | some (Sum.inr r) => some ((Ex.exit 0), (St.mk [(0, (AV.v (TV.one (At.vw 0 0 sn 1)))), (1, (AV.v (TV.one (At.fn 150 [])))), (7, (AV.v (TV.one (At.int IntKind.i64 t7)))), (8, (AV.v (TV.one (At.int IntKind.i64 r.1)))), (9, (AV.v (TV.one (At.bool r.2))))] [(Blk.mk Bool.false (Body.fl FloatKind.f32 b0))]))
def zh5 (sn : Nat) (t7 : Int) (b0 : List Nat) (x : Option ((Int) ⊕ (Int × Bool))) : LO := (LO.two (oL x) (LO.one Ex.ret (St.mk [(4, (AV.v (TV.one (At.int IntKind.i64 ((tL x).getD default)))))] [(Blk.mk Bool.false (Body.fl FloatKind.f32 b0))])) (LO.one (Ex.exit 0) (St.mk [(0, (AV.v (TV.one (At.vw 0 0 sn 1)))), (1, (AV.v (TV.one (At.fn 150 [])))), (7, (AV.v (TV.one (At.int IntKind.i64 t7)))), (8, (AV.v (TV.one (At.int IntKind.i64 ((tR x).getD default).1)))), (9, (AV.v (TV.one (At.bool ((tR x).getD default).2))))] [(Blk.mk Bool.false (Body.fl FloatKind.f32 b0))])))
theorem zhi (sn : Nat) (t7 : Int) (b0 : List Nat) : ∀ x : Option ((Int) ⊕ (Int × Bool)), x.isSome = true → (z5y sn t7 b0) x = some (pick (zh5 sn t7 b0 x))
  | none, h => by cases h
  | some (Sum.inl r), _ => rfl
  | some (Sum.inr r), _ => rfl
theorem zhl (sn : Nat) (t7 : Int) (t8 : Int) (b0 : List Nat) (K : Ex → St → Option (Ex × St)) : evC (R := Ex × St) Γ3 (evFn Γ3 8 8) 178 1 fi178.nt fi178.live fi178.nl 8 (findL 2 (loopsIn fi178.code)) (St.mk [(0, (AV.v (TV.one (At.vw 0 0 sn 1)))), (1, (AV.v (TV.one (At.fn 150 [])))), (7, (AV.v (TV.one (At.int IntKind.i64 t7)))), (8, (AV.v (TV.one (At.int IntKind.i64 t8))))] [(Blk.mk Bool.false (Body.fl FloatKind.f32 b0))]) K = z1j sn t7 b0 t8 (fun t8' => K .normal (St.mk [(0, (AV.v (TV.one (At.vw 0 0 sn 1)))), (1, (AV.v (TV.one (At.fn 150 [])))), (7, (AV.v (TV.one (At.int IntKind.i64 t7)))), (8, (AV.v (TV.one (At.int IntKind.i64 t8'))))] [(Blk.mk Bool.false (Body.fl FloatKind.f32 b0))])) (fun c0_ => K Ex.ret (St.mk [(4, (AV.v (TV.one (At.int IntKind.i64 c0_))))] [(Blk.mk Bool.false (Body.fl FloatKind.f32 b0))])) (fun c0_ c1_ => K (Ex.exit 0) (St.mk [(0, (AV.v (TV.one (At.vw 0 0 sn 1)))), (1, (AV.v (TV.one (At.fn 150 [])))), (7, (AV.v (TV.one (At.int IntKind.i64 t7)))), (8, (AV.v (TV.one (At.int IntKind.i64 c0_)))), (9, (AV.v (TV.one (At.bool c1_))))] [(Blk.mk Bool.false (Body.fl FloatKind.f32 b0))])) := by kernel_rfl
theorem zhp (sn : Nat) (t7 : Int) (b0 : List Nat) : ∀ (n : Nat) (t8 : Int), iter 178 2 1 (evC (R := Ex × St) Γ3 (evFn Γ3 8 8) 178 1 fi178.nt fi178.live fi178.nl 8 (findL 2 (loopsIn fi178.code))) n (St.mk [(0, (AV.v (TV.one (At.vw 0 0 sn 1)))), (1, (AV.v (TV.one (At.fn 150 [])))), (7, (AV.v (TV.one (At.int IntKind.i64 t7)))), (8, (AV.v (TV.one (At.int IntKind.i64 t8))))] [(Blk.mk Bool.false (Body.fl FloatKind.f32 b0))]) (fun e st => some (e, st)) = (z5y sn t7 b0) (z0o sn t7 b0 n t8) := by
  intro n
  induction n with
  | zero => intros; rfl
  | succ n ih =>
    intro t8
    refine Eq.trans (iter_succ ..) (Eq.trans (zhl sn t7 t8 b0 (nextK 178 2 1 (evC (R := Ex × St) Γ3 (evFn Γ3 8 8) 178 1 fi178.nt fi178.live fi178.nl 8 (findL 2 (loopsIn fi178.code))) n (fun e st => some (e, st)))) (Eq.trans ?_ (zfn (z5y sn t7 b0) rfl sn t7 b0 t8 (fun t8' => z0o sn t7 b0 n t8') (fun c0_ => some (Sum.inl c0_)) (fun c0_ c1_ => some (Sum.inr (c0_, c1_))))))
    exact congrArg (fun kn_ => z1j sn t7 b0 t8 kn_ (fun c0_ => (z5y sn t7 b0) (some (Sum.inl c0_))) (fun c0_ c1_ => (z5y sn t7 b0) (some (Sum.inr (c0_, c1_))))) (funext fun t8' => ih t8')
theorem z03 : LoopOne Try.prog fnTab 178 2 z02 := lp_of (Γ := Γ3) tyTab_ok (FnL.ok fnTab_ok _ _) (LpL.ok lt3_ok) (SumL.ok tb3_ok _) mixed (fi := fi178) (by kernel_rfl) (by kernel_rfl) (by
  intro lo st out hp
  unfold z02 at hp
  split at hp
  · rename_i sn t7 t8 b0
    injection hp with hp
    injection hp with h1 h2
    subst h2
    exact ⟨8, 8, big, Eq.trans (zhp sn t7 b0 big t8) (zhi sn t7 b0 (z0o sn t7 b0 big t8) h1)⟩
  · cases hp)
noncomputable def z3v : Nat → St → Option (Bool × LO)
  | 4, (St.mk [(0, (AV.v (TV.one (At.ptr 3 0 3)))), (3, (AV.v (TV.one (At.int IntKind.i64 t3)))), (4, (AV.v (TV.one (At.int IntKind.i64 t4))))] [(Blk.mk Bool.false (Body.fl FloatKind.f32 b0)), (Blk.mk Bool.false (Body.fl FloatKind.f32 b1)), (Blk.mk Bool.false (Body.fl FloatKind.f32 b2)), (Blk.mk Bool.false (Body.cells [(At.vw 0 0 q1e 1), (At.vw 1 0 q1u 1), (At.vw 2 0 q1t 1)]))]) => some ((zab t3 b0 b1 b2 q1e q1u q1t t4), (LO.two (z9q t3 b0 b1 b2 q1e q1u q1t t4) (LO.one Ex.ret (St.mk [(2, (AV.v (TV.one (At.bool Bool.false))))] [(Blk.mk Bool.false (Body.fl FloatKind.f32 b0)), (Blk.mk Bool.false (Body.fl FloatKind.f32 b1)), (Blk.mk Bool.false (Body.fl FloatKind.f32 b2)), (Blk.mk Bool.false (Body.cells [(At.vw 0 0 q1e 1), (At.vw 1 0 q1u 1), (At.vw 2 0 q1t 1)]))])) (LO.one (Ex.exit 0) (St.mk [(0, (AV.v (TV.one (At.ptr 3 0 3)))), (3, (AV.v (TV.one (At.int IntKind.i64 t3)))), (4, (AV.v (TV.one (At.int IntKind.i64 (zkw t3 b0 b1 b2 q1e q1u q1t t4))))), (36, (AV.v (TV.one (At.bool (zky t3 b0 b1 b2 q1e q1u q1t t4)))))] [(Blk.mk Bool.false (Body.fl FloatKind.f32 b0)), (Blk.mk Bool.false (Body.fl FloatKind.f32 b1)), (Blk.mk Bool.false (Body.fl FloatKind.f32 b2)), (Blk.mk Bool.false (Body.cells [(At.vw 0 0 q1e 1), (At.vw 1 0 q1u 1), (At.vw 2 0 q1t 1)]))]))))
  | _, _ => none
def zhg (t3 : Int) (b0 : List Nat) (b1 : List Nat) (b2 : List Nat) (q1e : Nat) (q1u : Nat) (q1t : Nat) : Option ((Unit) ⊕ (Int × Bool)) → Option (Ex × St)
  | none => none
  | some (Sum.inl r) => some (Ex.ret, (St.mk [(2, (AV.v (TV.one (At.bool Bool.false))))] [(Blk.mk Bool.false (Body.fl FloatKind.f32 b0)), (Blk.mk Bool.false (Body.fl FloatKind.f32 b1)), (Blk.mk Bool.false (Body.fl FloatKind.f32 b2)), (Blk.mk Bool.false (Body.cells [(At.vw 0 0 q1e 1), (At.vw 1 0 q1u 1), (At.vw 2 0 q1t 1)]))]))
  | some (Sum.inr r) => some ((Ex.exit 0), (St.mk [(0, (AV.v (TV.one (At.ptr 3 0 3)))), (3, (AV.v (TV.one (At.int IntKind.i64 t3)))), (4, (AV.v (TV.one (At.int IntKind.i64 r.1)))), (36, (AV.v (TV.one (At.bool r.2))))] [(Blk.mk Bool.false (Body.fl FloatKind.f32 b0)), (Blk.mk Bool.false (Body.fl FloatKind.f32 b1)), (Blk.mk Bool.false (Body.fl FloatKind.f32 b2)), (Blk.mk Bool.false (Body.cells [(At.vw 0 0 q1e 1), (At.vw 1 0 q1u 1), (At.vw 2 0 q1t 1)]))]))
def zun (t3 : Int) (b0 : List Nat) (b1 : List Nat) (b2 : List Nat) (q1e : Nat) (q1u : Nat) (q1t : Nat) (x : Option ((Unit) ⊕ (Int × Bool))) : LO := (LO.two (oL x) (LO.one Ex.ret (St.mk [(2, (AV.v (TV.one (At.bool Bool.false))))] [(Blk.mk Bool.false (Body.fl FloatKind.f32 b0)), (Blk.mk Bool.false (Body.fl FloatKind.f32 b1)), (Blk.mk Bool.false (Body.fl FloatKind.f32 b2)), (Blk.mk Bool.false (Body.cells [(At.vw 0 0 q1e 1), (At.vw 1 0 q1u 1), (At.vw 2 0 q1t 1)]))])) (LO.one (Ex.exit 0) (St.mk [(0, (AV.v (TV.one (At.ptr 3 0 3)))), (3, (AV.v (TV.one (At.int IntKind.i64 t3)))), (4, (AV.v (TV.one (At.int IntKind.i64 ((tR x).getD default).1)))), (36, (AV.v (TV.one (At.bool ((tR x).getD default).2))))] [(Blk.mk Bool.false (Body.fl FloatKind.f32 b0)), (Blk.mk Bool.false (Body.fl FloatKind.f32 b1)), (Blk.mk Bool.false (Body.fl FloatKind.f32 b2)), (Blk.mk Bool.false (Body.cells [(At.vw 0 0 q1e 1), (At.vw 1 0 q1u 1), (At.vw 2 0 q1t 1)]))])))
theorem zvh (t3 : Int) (b0 : List Nat) (b1 : List Nat) (b2 : List Nat) (q1e : Nat) (q1u : Nat) (q1t : Nat) : ∀ x : Option ((Unit) ⊕ (Int × Bool)), x.isSome = true → (zhg t3 b0 b1 b2 q1e q1u q1t) x = some (pick (zun t3 b0 b1 b2 q1e q1u q1t x))
  | none, h => by cases h
  | some (Sum.inl r), _ => rfl
  | some (Sum.inr r), _ => rfl
theorem zvi (t3 : Int) (t4 : Int) (b0 : List Nat) (b1 : List Nat) (b2 : List Nat) (q1e : Nat) (q1u : Nat) (q1t : Nat) (K : Ex → St → Option (Ex × St)) : evC (R := Ex × St) Γ3 (evFn Γ3 8 8) 184 4 fi184.nt fi184.live fi184.nl 8 (findL 5 (loopsIn fi184.code)) (St.mk [(0, (AV.v (TV.one (At.ptr 3 0 3)))), (3, (AV.v (TV.one (At.int IntKind.i64 t3)))), (4, (AV.v (TV.one (At.int IntKind.i64 t4))))] [(Blk.mk Bool.false (Body.fl FloatKind.f32 b0)), (Blk.mk Bool.false (Body.fl FloatKind.f32 b1)), (Blk.mk Bool.false (Body.fl FloatKind.f32 b2)), (Blk.mk Bool.false (Body.cells [(At.vw 0 0 q1e 1), (At.vw 1 0 q1u 1), (At.vw 2 0 q1t 1)]))]) K = z9e t3 b0 b1 b2 q1e q1u q1t t4 (fun t4' => K .normal (St.mk [(0, (AV.v (TV.one (At.ptr 3 0 3)))), (3, (AV.v (TV.one (At.int IntKind.i64 t3)))), (4, (AV.v (TV.one (At.int IntKind.i64 t4'))))] [(Blk.mk Bool.false (Body.fl FloatKind.f32 b0)), (Blk.mk Bool.false (Body.fl FloatKind.f32 b1)), (Blk.mk Bool.false (Body.fl FloatKind.f32 b2)), (Blk.mk Bool.false (Body.cells [(At.vw 0 0 q1e 1), (At.vw 1 0 q1u 1), (At.vw 2 0 q1t 1)]))])) (fun _ => K Ex.ret (St.mk [(2, (AV.v (TV.one (At.bool Bool.false))))] [(Blk.mk Bool.false (Body.fl FloatKind.f32 b0)), (Blk.mk Bool.false (Body.fl FloatKind.f32 b1)), (Blk.mk Bool.false (Body.fl FloatKind.f32 b2)), (Blk.mk Bool.false (Body.cells [(At.vw 0 0 q1e 1), (At.vw 1 0 q1u 1), (At.vw 2 0 q1t 1)]))])) (fun c0_ c1_ => K (Ex.exit 0) (St.mk [(0, (AV.v (TV.one (At.ptr 3 0 3)))), (3, (AV.v (TV.one (At.int IntKind.i64 t3)))), (4, (AV.v (TV.one (At.int IntKind.i64 c0_)))), (36, (AV.v (TV.one (At.bool c1_))))] [(Blk.mk Bool.false (Body.fl FloatKind.f32 b0)), (Blk.mk Bool.false (Body.fl FloatKind.f32 b1)), (Blk.mk Bool.false (Body.fl FloatKind.f32 b2)), (Blk.mk Bool.false (Body.cells [(At.vw 0 0 q1e 1), (At.vw 1 0 q1u 1), (At.vw 2 0 q1t 1)]))])) := by kernel_rfl
theorem zvk (t3 : Int) (b0 : List Nat) (b1 : List Nat) (b2 : List Nat) (q1e : Nat) (q1u : Nat) (q1t : Nat) : ∀ (n : Nat) (t4 : Int), iter 184 5 4 (evC (R := Ex × St) Γ3 (evFn Γ3 8 8) 184 4 fi184.nt fi184.live fi184.nl 8 (findL 5 (loopsIn fi184.code))) n (St.mk [(0, (AV.v (TV.one (At.ptr 3 0 3)))), (3, (AV.v (TV.one (At.int IntKind.i64 t3)))), (4, (AV.v (TV.one (At.int IntKind.i64 t4))))] [(Blk.mk Bool.false (Body.fl FloatKind.f32 b0)), (Blk.mk Bool.false (Body.fl FloatKind.f32 b1)), (Blk.mk Bool.false (Body.fl FloatKind.f32 b2)), (Blk.mk Bool.false (Body.cells [(At.vw 0 0 q1e 1), (At.vw 1 0 q1u 1), (At.vw 2 0 q1t 1)]))]) (fun e st => some (e, st)) = (zhg t3 b0 b1 b2 q1e q1u q1t) (z74 t3 b0 b1 b2 q1e q1u q1t n t4) := by
  intro n
  induction n with
  | zero => intros; rfl
  | succ n ih =>
    intro t4
    refine Eq.trans (iter_succ ..) (Eq.trans (zvi t3 t4 b0 b1 b2 q1e q1u q1t (nextK 184 5 4 (evC (R := Ex × St) Γ3 (evFn Γ3 8 8) 184 4 fi184.nt fi184.live fi184.nl 8 (findL 5 (loopsIn fi184.code))) n (fun e st => some (e, st)))) (Eq.trans ?_ (zs4 (zhg t3 b0 b1 b2 q1e q1u q1t) rfl t3 b0 b1 b2 q1e q1u q1t t4 (fun t4' => z74 t3 b0 b1 b2 q1e q1u q1t n t4') (fun _ => some (Sum.inl ())) (fun c0_ c1_ => some (Sum.inr (c0_, c1_))))))
    exact congrArg (fun kn_ => z9e t3 b0 b1 b2 q1e q1u q1t t4 kn_ (fun _ => (zhg t3 b0 b1 b2 q1e q1u q1t) (some (Sum.inl ()))) (fun c0_ c1_ => (zhg t3 b0 b1 b2 q1e q1u q1t) (some (Sum.inr (c0_, c1_))))) (funext fun t4' => ih t4')
theorem z38 : LoopOne Try.prog fnTab 184 5 z3v := lp_of (Γ := Γ3) tyTab_ok (FnL.ok fnTab_ok _ _) (LpL.ok lt3_ok) (SumL.ok tb3_ok _) mixed (fi := fi184) (by kernel_rfl) (by kernel_rfl) (by
  intro lo st out hp
  unfold z3v at hp
  split at hp
  · rename_i t3 t4 b0 b1 b2 q1e q1u q1t
    injection hp with hp
    injection hp with h1 h2
    subst h2
    exact ⟨8, 8, big, Eq.trans (zvk t3 b0 b1 b2 q1e q1u q1t big t4) (zvh t3 b0 b1 b2 q1e q1u q1t (z74 t3 b0 b1 b2 q1e q1u q1t big t4) h1)⟩
  · cases hp)
noncomputable def tb4 : List (Nat × (List PT → Option (Bool × AV × List Blk))) := [(156, z0y), (181, z1f), (182, z23), (189, z25), (26, z2u), (55, z2f), (84, z13), (89, z45), (102, z6f), (112, z21), (115, z2e), (123, z2s), (126, z4t), (157, z6b), (160, z22), (162, z4x), (167, z2c), (175, z44), (176, z1q), (187, z2d), (74, z3p), (83, z12), (85, z4k), (90, z3q), (103, z4j), (111, z2q), (116, z33), (117, z4i), (138, z35), (148, z1z), (150, z1e), (169, z2p), (185, z34), (52, z49), (154, z2n), (158, z5w), (166, z2o), (104, z30), (119, z3c), (120, z2w), (168, z2x), (188, z2j)]
noncomputable def lt4 : List ((Nat × Nat) × (Nat → St → Option (Bool × LO))) := [((166, 3), z1b), ((120, 3), z1m), ((168, 4), z1l), ((188, 17), z16), ((122, 4), z1u), ((178, 2), z04), ((178, 2), z02), ((184, 5), z3v)]
noncomputable def Γ4 : Ctx := ⟨tyTab, fnTab, tblSum tb4, tblLp lt4⟩
theorem tb4_ok : SumL Try.prog tb4 := SumL.cons z0t (SumL.cons z17 (SumL.cons z1o (SumL.cons z1p (SumL.cons z2a (SumL.cons z1w (SumL.cons z0z (SumL.cons z31 (SumL.cons z53 (SumL.cons z1i (SumL.cons z1x (SumL.cons z2b (SumL.cons z3i (SumL.cons z54 (SumL.cons z1k (SumL.cons z3k (SumL.cons z1y (SumL.cons z32 (SumL.cons z1a (SumL.cons z1v (SumL.cons z2y (SumL.cons z11 (SumL.cons z3h (SumL.cons z2z (SumL.cons z3g (SumL.cons z28 (SumL.cons z2l (SumL.cons z3e (SumL.cons z2m (SumL.cons z1h (SumL.cons z19 (SumL.cons z27 (SumL.cons z2k (SumL.cons z39 (SumL.cons z26 (SumL.cons z4h (SumL.cons z24 (SumL.cons z2g (SumL.cons z2r (SumL.cons z2h (SumL.cons z2i (SumL.cons z29 (SumL.nil))))))))))))))))))))))))))))))))))))))))))
theorem lt4_ok : LpL Try.prog fnTab lt4 := LpL.cons z18 (LpL.cons z1d (LpL.cons z1c (LpL.cons z14 (LpL.cons z1n (LpL.cons z05 (LpL.cons z03 (LpL.cons z38 (LpL.nil))))))))
noncomputable def z5c : List PT → Option (Bool × AV × List Blk)
  | [.agg [.row 1 q0p (.fl .f32 q0v), .row 1 q0r (.fl .f32 q0x), .row 1 q0q (.fl .f32 q0w), .row 3 q14 (.fl .f32 q19), .s (.int .i64 q1n), .s (.flt .f32 q1x), .s (.flt .f32 q1w)]] => some ((zdf q0p q0v q0r q0x q0q q0w q14 q19 q1n q1x q1w), ((AV.v (TV.agg [(At.sl 0 0 (z0u q0p q0v q0r q0x q0q q0w q14 q19 q1n q1x q1w) 1), (At.sl 1 0 (z0x q0p q0v q0r q0x q0q q0w q14 q19 q1n q1x q1w) 1), (At.sl 2 0 (z0w q0p q0v q0r q0x q0q q0w q14 q19 q1n q1x q1w) 1), (At.sl 3 0 (z0v q0p q0v q0r q0x q0q q0w q14 q19 q1n q1x q1w) 3), (At.int IntKind.i64 q1n), (At.flt FloatKind.f32 q1x), (At.flt FloatKind.f32 q1w)])), [(Blk.mk Bool.true (Body.fl FloatKind.f32 (z43 q0p q0v q0r q0x q0q q0w q14 q19 q1n q1x q1w))), (Blk.mk Bool.true (Body.fl FloatKind.f32 (z40 q0p q0v q0r q0x q0q q0w q14 q19 q1n q1x q1w))), (Blk.mk Bool.true (Body.fl FloatKind.f32 (z41 q0p q0v q0r q0x q0q q0w q14 q19 q1n q1x q1w))), (Blk.mk Bool.true (Body.fl FloatKind.f32 (z3w q0p q0v q0r q0x q0q q0w q14 q19 q1n q1x q1w)))]))
  | _ => none
def zpx (q0p : Nat) (q0v : List Nat) (q0r : Nat) (q0x : List Nat) (q0q : Nat) (q0w : List Nat) (q14 : Nat) (q19 : List Nat) (q1n : Int) (q1x : Nat) (q1w : Nat) : Option (Nat × Nat × Nat × Nat × (List Nat) × (List Nat) × (List Nat) × (List Nat)) → Option (AV × List Blk)
  | some r => some ((AV.v (TV.agg [(At.sl 0 0 r.1 1), (At.sl 1 0 r.2.1 1), (At.sl 2 0 r.2.2.1 1), (At.sl 3 0 r.2.2.2.1 3), (At.int IntKind.i64 q1n), (At.flt FloatKind.f32 q1x), (At.flt FloatKind.f32 q1w)])), [(Blk.mk Bool.true (Body.fl FloatKind.f32 r.2.2.2.2.1)), (Blk.mk Bool.true (Body.fl FloatKind.f32 r.2.2.2.2.2.1)), (Blk.mk Bool.true (Body.fl FloatKind.f32 r.2.2.2.2.2.2.1)), (Blk.mk Bool.true (Body.fl FloatKind.f32 r.2.2.2.2.2.2.2))])
  | none => none
theorem zw2 (q0p : Nat) (q0v : List Nat) (q0r : Nat) (q0x : List Nat) (q0q : Nat) (q0w : List Nat) (q14 : Nat) (q19 : List Nat) (q1n : Int) (q1x : Nat) (q1w : Nat) : evFn Γ4 8 8 54 (impTs 0 [.agg [.row 1 q0p (.fl .f32 q0v), .row 1 q0r (.fl .f32 q0x), .row 1 q0q (.fl .f32 q0w), .row 3 q14 (.fl .f32 q19), .s (.int .i64 q1n), .s (.flt .f32 q1x), .s (.flt .f32 q1w)]]).1 (impTs 0 [.agg [.row 1 q0p (.fl .f32 q0v), .row 1 q0r (.fl .f32 q0x), .row 1 q0q (.fl .f32 q0w), .row 3 q14 (.fl .f32 q19), .s (.int .i64 q1n), .s (.flt .f32 q1x), .s (.flt .f32 q1w)]]).2 (expo (impTs 0 [.agg [.row 1 q0p (.fl .f32 q0v), .row 1 q0r (.fl .f32 q0x), .row 1 q0q (.fl .f32 q0w), .row 3 q14 (.fl .f32 q19), .s (.int .i64 q1n), .s (.flt .f32 q1x), .s (.flt .f32 q1w)]]).2.length) = zfa q0p q0v q0r q0x q0q q0w q14 q19 q1n q1x q1w (fun c0_ c1_ c2_ c3_ c4_ c5_ c6_ c7_ => some ((AV.v (TV.agg [(At.sl 0 0 c0_ 1), (At.sl 1 0 c1_ 1), (At.sl 2 0 c2_ 1), (At.sl 3 0 c3_ 3), (At.int IntKind.i64 q1n), (At.flt FloatKind.f32 q1x), (At.flt FloatKind.f32 q1w)])), [(Blk.mk Bool.true (Body.fl FloatKind.f32 c4_)), (Blk.mk Bool.true (Body.fl FloatKind.f32 c5_)), (Blk.mk Bool.true (Body.fl FloatKind.f32 c6_)), (Blk.mk Bool.true (Body.fl FloatKind.f32 c7_))])) := by kernel_rfl
theorem z4b : SumOne Try.prog 54 z5c := sum_of (Γ := Γ4) (fuel := 8) (d := 8) tyTab_ok (FnL.ok fnTab_ok _ _) (LpL.ok lt4_ok) (SumL.ok tb4_ok _) mixed (by
  intro pts v news hp hc
  clear hc
  unfold z5c at hp
  split at hp
  · rename_i q0p q0v q0r q0x q0q q0w q14 q19 q1n q1x q1w
    exact Eq.trans (Eq.trans (zw2 q0p q0v q0r q0x q0q q0w q14 q19 q1n q1x q1w) (zsn (zpx q0p q0v q0r q0x q0q q0w q14 q19 q1n q1x q1w) rfl q0p q0v q0r q0x q0q q0w q14 q19 q1n q1x q1w (fun c0_ c1_ c2_ c3_ c4_ c5_ c6_ c7_ => some (c0_, c1_, c2_, c3_, c4_, c5_, c6_, c7_)))) (fin_out (o := (zpx q0p q0v q0r q0x q0q q0w q14 q19 q1n q1x q1w)) (x := z7o q0p q0v q0r q0x q0q q0w q14 q19 q1n q1x q1w) (d := default) (V := fun r => ((AV.v (TV.agg [(At.sl 0 0 r.1 1), (At.sl 1 0 r.2.1 1), (At.sl 2 0 r.2.2.1 1), (At.sl 3 0 r.2.2.2.1 3), (At.int IntKind.i64 q1n), (At.flt FloatKind.f32 q1x), (At.flt FloatKind.f32 q1w)])), [(Blk.mk Bool.true (Body.fl FloatKind.f32 r.2.2.2.2.1)), (Blk.mk Bool.true (Body.fl FloatKind.f32 r.2.2.2.2.2.1)), (Blk.mk Bool.true (Body.fl FloatKind.f32 r.2.2.2.2.2.2.1)), (Blk.mk Bool.true (Body.fl FloatKind.f32 r.2.2.2.2.2.2.2))])) (fun r => rfl) hp)
  · cases hp)
noncomputable def z3t : List PT → Option (Bool × AV × List Blk)
  | [.agg [.row 1 q17 (.fl .f32 q1l), .row 1 q1c (.fl .f32 q1o), .row 1 q1d (.fl .f32 q1p)], .agg [.row 1 q2b (.fl .f32 q2i), .row 1 q2e (.fl .f32 q2n), .row 1 q2f (.fl .f32 q2k)]] => some ((zjs q17 q1l q1c q1o q1d q1p q2b q2i q2e q2n q2f q2k), ((AV.v (TV.one (At.bool (zif q17 q1l q1c q1o q1d q1p q2b q2i q2e q2n q2f q2k)))), []))
  | _ => none
def zng (q17 : Nat) (q1l : List Nat) (q1c : Nat) (q1o : List Nat) (q1d : Nat) (q1p : List Nat) (q2b : Nat) (q2i : List Nat) (q2e : Nat) (q2n : List Nat) (q2f : Nat) (q2k : List Nat) : Option (Bool) → Option (AV × List Blk)
  | some r => some ((AV.v (TV.one (At.bool r))), [])
  | none => none
theorem zuy (q17 : Nat) (q1l : List Nat) (q1c : Nat) (q1o : List Nat) (q1d : Nat) (q1p : List Nat) (q2b : Nat) (q2i : List Nat) (q2e : Nat) (q2n : List Nat) (q2f : Nat) (q2k : List Nat) : evFn Γ4 8 8 121 (impTs 0 [.agg [.row 1 q17 (.fl .f32 q1l), .row 1 q1c (.fl .f32 q1o), .row 1 q1d (.fl .f32 q1p)], .agg [.row 1 q2b (.fl .f32 q2i), .row 1 q2e (.fl .f32 q2n), .row 1 q2f (.fl .f32 q2k)]]).1 (impTs 0 [.agg [.row 1 q17 (.fl .f32 q1l), .row 1 q1c (.fl .f32 q1o), .row 1 q1d (.fl .f32 q1p)], .agg [.row 1 q2b (.fl .f32 q2i), .row 1 q2e (.fl .f32 q2n), .row 1 q2f (.fl .f32 q2k)]]).2 (expo (impTs 0 [.agg [.row 1 q17 (.fl .f32 q1l), .row 1 q1c (.fl .f32 q1o), .row 1 q1d (.fl .f32 q1p)], .agg [.row 1 q2b (.fl .f32 q2i), .row 1 q2e (.fl .f32 q2n), .row 1 q2f (.fl .f32 q2k)]]).2.length) = zdg q17 q1l q1c q1o q1d q1p q2b q2i q2e q2n q2f q2k (fun c0_ => some ((AV.v (TV.one (At.bool c0_))), [])) := by kernel_rfl
theorem z36 : SumOne Try.prog 121 z3t := sum_of (Γ := Γ4) (fuel := 8) (d := 8) tyTab_ok (FnL.ok fnTab_ok _ _) (LpL.ok lt4_ok) (SumL.ok tb4_ok _) mixed (by
  intro pts v news hp hc
  clear hc
  unfold z3t at hp
  split at hp
  · rename_i q17 q1l q1c q1o q1d q1p q2b q2i q2e q2n q2f q2k
    exact Eq.trans (Eq.trans (zuy q17 q1l q1c q1o q1d q1p q2b q2i q2e q2n q2f q2k) (zrc (zng q17 q1l q1c q1o q1d q1p q2b q2i q2e q2n q2f q2k) rfl q17 q1l q1c q1o q1d q1p q2b q2i q2e q2n q2f q2k (fun c0_ => some c0_))) (fin_out (o := (zng q17 q1l q1c q1o q1d q1p q2b q2i q2e q2n q2f q2k)) (x := zcq q17 q1l q1c q1o q1d q1p q2b q2i q2e q2n q2f q2k) (d := default) (V := fun r => ((AV.v (TV.one (At.bool r))), [])) (fun r => rfl) hp)
  · cases hp)
noncomputable def z3b : List PT → Option (Bool × AV × List Blk)
  | [.one (.row 3 a_n (.fl .f32 a)), .one (.row 3 b_n (.fl .f32 b))] => some ((zhx a_n a b_n b), ((AV.v (TV.one (At.bool (zgy a_n a b_n b)))), []))
  | _ => none
def zmy (a_n : Nat) (a : List Nat) (b_n : Nat) (b : List Nat) : Option (Bool) → Option (AV × List Blk)
  | some r => some ((AV.v (TV.one (At.bool r))), [])
  | none => none
theorem ztz (a_n : Nat) (a : List Nat) (b_n : Nat) (b : List Nat) : evFn Γ4 8 8 122 (impTs 0 [.one (.row 3 a_n (.fl .f32 a)), .one (.row 3 b_n (.fl .f32 b))]).1 (impTs 0 [.one (.row 3 a_n (.fl .f32 a)), .one (.row 3 b_n (.fl .f32 b))]).2 (expo (impTs 0 [.one (.row 3 a_n (.fl .f32 a)), .one (.row 3 b_n (.fl .f32 b))]).2.length) = zc6 a_n a b_n b (fun c0_ => some ((AV.v (TV.one (At.bool c0_))), [])) := by kernel_rfl
theorem z2v : SumOne Try.prog 122 z3b := sum_of (Γ := Γ4) (fuel := 8) (d := 8) tyTab_ok (FnL.ok fnTab_ok _ _) (LpL.ok lt4_ok) (SumL.ok tb4_ok _) mixed (by
  intro pts v news hp hc
  clear hc
  unfold z3b at hp
  split at hp
  · rename_i a_n a b_n b
    exact Eq.trans (Eq.trans (ztz a_n a b_n b) (zpz (zmy a_n a b_n b) rfl a_n a b_n b (fun c0_ => some c0_))) (fin_out (o := (zmy a_n a b_n b)) (x := zbt a_n a b_n b) (d := default) (V := fun r => ((AV.v (TV.one (At.bool r))), [])) (fun r => rfl) hp)
  · cases hp)
noncomputable def z5a : List PT → Option (Bool × AV × List Blk)
  | [.one (.s (.flt .f32 x))] => some ((z9y x), ((AV.v (TV.one (At.flt FloatKind.f32 (z62 x)))), []))
  | _ => none
def zpb (x : Nat) : Option (Nat) → Option (AV × List Blk)
  | some r => some ((AV.v (TV.one (At.flt FloatKind.f32 r))), [])
  | none => none
theorem zvs (x : Nat) : evFn Γ4 8 8 165 (impTs 0 [.one (.s (.flt .f32 x))]).1 (impTs 0 [.one (.s (.flt .f32 x))]).2 (expo (impTs 0 [.one (.s (.flt .f32 x))]).2.length) = zf6 x (fun c0_ => some ((AV.v (TV.one (At.flt FloatKind.f32 c0_))), [])) := by kernel_rfl
theorem z4e : SumOne Try.prog 165 z5a := sum_of (Γ := Γ4) (fuel := 8) (d := 8) tyTab_ok (FnL.ok fnTab_ok _ _) (LpL.ok lt4_ok) (SumL.ok tb4_ok _) mixed (by
  intro pts v news hp hc
  clear hc
  unfold z5a at hp
  split at hp
  · rename_i x
    exact Eq.trans (Eq.trans (zvs x) (zsx (zpb x) rfl x (fun c0_ => some c0_))) (fin_out (o := (zpb x)) (x := zd7 x) (d := default) (V := fun r => ((AV.v (TV.one (At.flt FloatKind.f32 r))), [])) (fun r => rfl) hp)
  · cases hp)
noncomputable def z0b : List PT → Option (Bool × AV × List Blk)
  | [.one (.row 1 s_n (.fl .f32 s)), .fn 148 []] => some ((z7q s_n s), ((AV.v (TV.one (At.int IntKind.i64 (z7h s_n s)))), []))
  | _ => none
def zci (s_n : Nat) (s : List Nat) : Option (Int) → Option (AV × List Blk)
  | some r => some ((AV.v (TV.one (At.int IntKind.i64 r))), [])
  | none => none
theorem zjx (s_n : Nat) (s : List Nat) : evFn Γ4 8 8 178 (impTs 0 [.one (.row 1 s_n (.fl .f32 s)), .fn 148 []]).1 (impTs 0 [.one (.row 1 s_n (.fl .f32 s)), .fn 148 []]).2 (expo (impTs 0 [.one (.row 1 s_n (.fl .f32 s)), .fn 148 []]).2.length) = z5d s_n s (fun c0_ => some ((AV.v (TV.one (At.int IntKind.i64 c0_))), [])) := by kernel_rfl
theorem z0f : SumOne Try.prog 178 z0b := sum_of (Γ := Γ4) (fuel := 8) (d := 8) tyTab_ok (FnL.ok fnTab_ok _ _) (LpL.ok lt4_ok) (SumL.ok tb4_ok _) mixed (by
  intro pts v news hp hc
  clear hc
  unfold z0b at hp
  split at hp
  · rename_i s_n s
    exact Eq.trans (Eq.trans (zjx s_n s) (zhq (zci s_n s) rfl s_n s (fun c0_ => some c0_))) (fin_out (o := (zci s_n s)) (x := z5e s_n s) (d := default) (V := fun r => ((AV.v (TV.one (At.int IntKind.i64 r))), [])) (fun r => rfl) hp)
  · cases hp)
noncomputable def z06 : List PT → Option (Bool × AV × List Blk)
  | [.one (.row 1 s_n (.fl .f32 s)), .fn 150 []] => some ((z7b s_n s), ((AV.v (TV.one (At.int IntKind.i64 (z75 s_n s)))), []))
  | _ => none
def zbc (s_n : Nat) (s : List Nat) : Option (Int) → Option (AV × List Blk)
  | some r => some ((AV.v (TV.one (At.int IntKind.i64 r))), [])
  | none => none
theorem zjc (s_n : Nat) (s : List Nat) : evFn Γ4 8 8 178 (impTs 0 [.one (.row 1 s_n (.fl .f32 s)), .fn 150 []]).1 (impTs 0 [.one (.row 1 s_n (.fl .f32 s)), .fn 150 []]).2 (expo (impTs 0 [.one (.row 1 s_n (.fl .f32 s)), .fn 150 []]).2.length) = z51 s_n s (fun c0_ => some ((AV.v (TV.one (At.int IntKind.i64 c0_))), [])) := by kernel_rfl
theorem z09 : SumOne Try.prog 178 z06 := sum_of (Γ := Γ4) (fuel := 8) (d := 8) tyTab_ok (FnL.ok fnTab_ok _ _) (LpL.ok lt4_ok) (SumL.ok tb4_ok _) mixed (by
  intro pts v news hp hc
  clear hc
  unfold z06 at hp
  split at hp
  · rename_i s_n s
    exact Eq.trans (Eq.trans (zjc s_n s) (zgn (zbc s_n s) rfl s_n s (fun c0_ => some c0_))) (fin_out (o := (zbc s_n s)) (x := z50 s_n s) (d := default) (V := fun r => ((AV.v (TV.one (At.int IntKind.i64 r))), [])) (fun r => rfl) hp)
  · cases hp)
noncomputable def z6c : List PT → Option (Bool × AV × List Blk)
  | [.ptr [.row 1 q0f (.fl .f32 q0k), .row 1 q0s (.fl .f32 q0y), .row 1 q0t (.fl .f32 q0z)]] => some ((zm1 q0f q0k q0s q0y q0t q0z), ((AV.v (TV.one (At.bool (zlo q0f q0k q0s q0y q0t q0z)))), []))
  | _ => none
def zsd (q0f : Nat) (q0k : List Nat) (q0s : Nat) (q0y : List Nat) (q0t : Nat) (q0z : List Nat) : Option (Bool) → Option (AV × List Blk)
  | some r => some ((AV.v (TV.one (At.bool r))), [])
  | none => none
theorem zwo (q0f : Nat) (q0k : List Nat) (q0s : Nat) (q0y : List Nat) (q0t : Nat) (q0z : List Nat) : evFn Γ4 8 8 184 (impTs 0 [.ptr [.row 1 q0f (.fl .f32 q0k), .row 1 q0s (.fl .f32 q0y), .row 1 q0t (.fl .f32 q0z)]]).1 (impTs 0 [.ptr [.row 1 q0f (.fl .f32 q0k), .row 1 q0s (.fl .f32 q0y), .row 1 q0t (.fl .f32 q0z)]]).2 (expo (impTs 0 [.ptr [.row 1 q0f (.fl .f32 q0k), .row 1 q0s (.fl .f32 q0y), .row 1 q0t (.fl .f32 q0z)]]).2.length) = zj3 q0f q0k q0s q0y q0t q0z (fun c0_ => some ((AV.v (TV.one (At.bool c0_))), [])) := by kernel_rfl
theorem z5l : SumOne Try.prog 184 z6c := sum_of (Γ := Γ4) (fuel := 8) (d := 8) tyTab_ok (FnL.ok fnTab_ok _ _) (LpL.ok lt4_ok) (SumL.ok tb4_ok _) mixed (by
  intro pts v news hp hc
  clear hc
  unfold z6c at hp
  split at hp
  · rename_i q0f q0k q0s q0y q0t q0z
    exact Eq.trans (Eq.trans (zwo q0f q0k q0s q0y q0t q0z) (zuo (zsd q0f q0k q0s q0y q0t q0z) rfl q0f q0k q0s q0y q0t q0z (fun c0_ => some c0_))) (fin_out (o := (zsd q0f q0k q0s q0y q0t q0z)) (x := zis q0f q0k q0s q0y q0t q0z) (d := default) (V := fun r => ((AV.v (TV.one (At.bool r))), [])) (fun r => rfl) hp)
  · cases hp)
noncomputable def z07 : Nat → St → Option (Bool × LO)
  | 1, (St.mk [(0, (AV.v (TV.one (At.vw 0 0 sn 1)))), (1, (AV.v (TV.one (At.fn 154 [])))), (7, (AV.v (TV.one (At.int IntKind.i64 t7)))), (8, (AV.v (TV.one (At.int IntKind.i64 t8))))] [(Blk.mk Bool.false (Body.fl FloatKind.f32 b0))]) => some ((z52 sn t7 b0 t8), (LO.two (z4m sn t7 b0 t8) (LO.one Ex.ret (St.mk [(4, (AV.v (TV.one (At.int IntKind.i64 (z6u sn t7 b0 t8)))))] [(Blk.mk Bool.false (Body.fl FloatKind.f32 b0))])) (LO.one (Ex.exit 0) (St.mk [(0, (AV.v (TV.one (At.vw 0 0 sn 1)))), (1, (AV.v (TV.one (At.fn 154 [])))), (7, (AV.v (TV.one (At.int IntKind.i64 t7)))), (8, (AV.v (TV.one (At.int IntKind.i64 (z8l sn t7 b0 t8))))), (9, (AV.v (TV.one (At.bool (z8j sn t7 b0 t8)))))] [(Blk.mk Bool.false (Body.fl FloatKind.f32 b0))]))))
  | _, _ => none
def z69 (sn : Nat) (t7 : Int) (b0 : List Nat) : Option ((Int) ⊕ (Int × Bool)) → Option (Ex × St)
  | none => none
  | some (Sum.inl r) => some (Ex.ret, (St.mk [(4, (AV.v (TV.one (At.int IntKind.i64 r))))] [(Blk.mk Bool.false (Body.fl FloatKind.f32 b0))]))
  | some (Sum.inr r) => some ((Ex.exit 0), (St.mk [(0, (AV.v (TV.one (At.vw 0 0 sn 1)))), (1, (AV.v (TV.one (At.fn 154 [])))), (7, (AV.v (TV.one (At.int IntKind.i64 t7)))), (8, (AV.v (TV.one (At.int IntKind.i64 r.1)))), (9, (AV.v (TV.one (At.bool r.2))))] [(Blk.mk Bool.false (Body.fl FloatKind.f32 b0))]))
def ziw (sn : Nat) (t7 : Int) (b0 : List Nat) (x : Option ((Int) ⊕ (Int × Bool))) : LO := (LO.two (oL x) (LO.one Ex.ret (St.mk [(4, (AV.v (TV.one (At.int IntKind.i64 ((tL x).getD default)))))] [(Blk.mk Bool.false (Body.fl FloatKind.f32 b0))])) (LO.one (Ex.exit 0) (St.mk [(0, (AV.v (TV.one (At.vw 0 0 sn 1)))), (1, (AV.v (TV.one (At.fn 154 [])))), (7, (AV.v (TV.one (At.int IntKind.i64 t7)))), (8, (AV.v (TV.one (At.int IntKind.i64 ((tR x).getD default).1)))), (9, (AV.v (TV.one (At.bool ((tR x).getD default).2))))] [(Blk.mk Bool.false (Body.fl FloatKind.f32 b0))])))
theorem zjd (sn : Nat) (t7 : Int) (b0 : List Nat) : ∀ x : Option ((Int) ⊕ (Int × Bool)), x.isSome = true → (z69 sn t7 b0) x = some (pick (ziw sn t7 b0 x))
  | none, h => by cases h
  | some (Sum.inl r), _ => rfl
  | some (Sum.inr r), _ => rfl
theorem zje (sn : Nat) (t7 : Int) (t8 : Int) (b0 : List Nat) (K : Ex → St → Option (Ex × St)) : evC (R := Ex × St) Γ4 (evFn Γ4 8 8) 178 1 fi178.nt fi178.live fi178.nl 8 (findL 2 (loopsIn fi178.code)) (St.mk [(0, (AV.v (TV.one (At.vw 0 0 sn 1)))), (1, (AV.v (TV.one (At.fn 154 [])))), (7, (AV.v (TV.one (At.int IntKind.i64 t7)))), (8, (AV.v (TV.one (At.int IntKind.i64 t8))))] [(Blk.mk Bool.false (Body.fl FloatKind.f32 b0))]) K = z20 sn t7 b0 t8 (fun t8' => K .normal (St.mk [(0, (AV.v (TV.one (At.vw 0 0 sn 1)))), (1, (AV.v (TV.one (At.fn 154 [])))), (7, (AV.v (TV.one (At.int IntKind.i64 t7)))), (8, (AV.v (TV.one (At.int IntKind.i64 t8'))))] [(Blk.mk Bool.false (Body.fl FloatKind.f32 b0))])) (fun c0_ => K Ex.ret (St.mk [(4, (AV.v (TV.one (At.int IntKind.i64 c0_))))] [(Blk.mk Bool.false (Body.fl FloatKind.f32 b0))])) (fun c0_ c1_ => K (Ex.exit 0) (St.mk [(0, (AV.v (TV.one (At.vw 0 0 sn 1)))), (1, (AV.v (TV.one (At.fn 154 [])))), (7, (AV.v (TV.one (At.int IntKind.i64 t7)))), (8, (AV.v (TV.one (At.int IntKind.i64 c0_)))), (9, (AV.v (TV.one (At.bool c1_))))] [(Blk.mk Bool.false (Body.fl FloatKind.f32 b0))])) := by kernel_rfl
theorem zjb (sn : Nat) (t7 : Int) (b0 : List Nat) : ∀ (n : Nat) (t8 : Int), iter 178 2 1 (evC (R := Ex × St) Γ4 (evFn Γ4 8 8) 178 1 fi178.nt fi178.live fi178.nl 8 (findL 2 (loopsIn fi178.code))) n (St.mk [(0, (AV.v (TV.one (At.vw 0 0 sn 1)))), (1, (AV.v (TV.one (At.fn 154 [])))), (7, (AV.v (TV.one (At.int IntKind.i64 t7)))), (8, (AV.v (TV.one (At.int IntKind.i64 t8))))] [(Blk.mk Bool.false (Body.fl FloatKind.f32 b0))]) (fun e st => some (e, st)) = (z69 sn t7 b0) (z0r sn t7 b0 n t8) := by
  intro n
  induction n with
  | zero => intros; rfl
  | succ n ih =>
    intro t8
    refine Eq.trans (iter_succ ..) (Eq.trans (zje sn t7 t8 b0 (nextK 178 2 1 (evC (R := Ex × St) Γ4 (evFn Γ4 8 8) 178 1 fi178.nt fi178.live fi178.nl 8 (findL 2 (loopsIn fi178.code))) n (fun e st => some (e, st)))) (Eq.trans ?_ (zh1 (z69 sn t7 b0) rfl sn t7 b0 t8 (fun t8' => z0r sn t7 b0 n t8') (fun c0_ => some (Sum.inl c0_)) (fun c0_ c1_ => some (Sum.inr (c0_, c1_))))))
    exact congrArg (fun kn_ => z20 sn t7 b0 t8 kn_ (fun c0_ => (z69 sn t7 b0) (some (Sum.inl c0_))) (fun c0_ c1_ => (z69 sn t7 b0) (some (Sum.inr (c0_, c1_))))) (funext fun t8' => ih t8')
theorem z0a : LoopOne Try.prog fnTab 178 2 z07 := lp_of (Γ := Γ4) tyTab_ok (FnL.ok fnTab_ok _ _) (LpL.ok lt4_ok) (SumL.ok tb4_ok _) mixed (fi := fi178) (by kernel_rfl) (by kernel_rfl) (by
  intro lo st out hp
  unfold z07 at hp
  split at hp
  · rename_i sn t7 t8 b0
    injection hp with hp
    injection hp with h1 h2
    subst h2
    exact ⟨8, 8, big, Eq.trans (zjb sn t7 b0 big t8) (zjd sn t7 b0 (z0r sn t7 b0 big t8) h1)⟩
  · cases hp)
noncomputable def tb5 : List (Nat × (List PT → Option (Bool × AV × List Blk))) := [(156, z0y), (181, z1f), (182, z23), (189, z25), (26, z2u), (55, z2f), (84, z13), (89, z45), (102, z6f), (112, z21), (115, z2e), (123, z2s), (126, z4t), (157, z6b), (160, z22), (162, z4x), (167, z2c), (175, z44), (176, z1q), (187, z2d), (74, z3p), (83, z12), (85, z4k), (90, z3q), (103, z4j), (111, z2q), (116, z33), (117, z4i), (138, z35), (148, z1z), (150, z1e), (169, z2p), (185, z34), (52, z49), (154, z2n), (158, z5w), (166, z2o), (104, z30), (119, z3c), (120, z2w), (168, z2x), (188, z2j), (54, z5c), (121, z3t), (122, z3b), (165, z5a), (178, z0b), (178, z06), (184, z6c)]
noncomputable def lt5 : List ((Nat × Nat) × (Nat → St → Option (Bool × LO))) := [((166, 3), z1b), ((120, 3), z1m), ((168, 4), z1l), ((188, 17), z16), ((122, 4), z1u), ((178, 2), z04), ((178, 2), z02), ((184, 5), z3v), ((178, 2), z07)]
noncomputable def Γ5 : Ctx := ⟨tyTab, fnTab, tblSum tb5, tblLp lt5⟩
theorem tb5_ok : SumL Try.prog tb5 := SumL.cons z0t (SumL.cons z17 (SumL.cons z1o (SumL.cons z1p (SumL.cons z2a (SumL.cons z1w (SumL.cons z0z (SumL.cons z31 (SumL.cons z53 (SumL.cons z1i (SumL.cons z1x (SumL.cons z2b (SumL.cons z3i (SumL.cons z54 (SumL.cons z1k (SumL.cons z3k (SumL.cons z1y (SumL.cons z32 (SumL.cons z1a (SumL.cons z1v (SumL.cons z2y (SumL.cons z11 (SumL.cons z3h (SumL.cons z2z (SumL.cons z3g (SumL.cons z28 (SumL.cons z2l (SumL.cons z3e (SumL.cons z2m (SumL.cons z1h (SumL.cons z19 (SumL.cons z27 (SumL.cons z2k (SumL.cons z39 (SumL.cons z26 (SumL.cons z4h (SumL.cons z24 (SumL.cons z2g (SumL.cons z2r (SumL.cons z2h (SumL.cons z2i (SumL.cons z29 (SumL.cons z4b (SumL.cons z36 (SumL.cons z2v (SumL.cons z4e (SumL.cons z0f (SumL.cons z09 (SumL.cons z5l (SumL.nil)))))))))))))))))))))))))))))))))))))))))))))))))
theorem lt5_ok : LpL Try.prog fnTab lt5 := LpL.cons z18 (LpL.cons z1d (LpL.cons z1c (LpL.cons z14 (LpL.cons z1n (LpL.cons z05 (LpL.cons z03 (LpL.cons z38 (LpL.cons z0a (LpL.nil)))))))))
noncomputable def z5t : List PT → Option (Bool × AV × List Blk)
  | [.agg [.row 1 q0p (.fl .f32 q0v), .row 1 q0r (.fl .f32 q0x), .row 1 q0q (.fl .f32 q0w), .row 3 q14 (.fl .f32 q19), .s (.int .i64 q1n), .s (.flt .f32 q1x), .s (.flt .f32 q1w)], .agg [.row 1 q1y (.fl .f32 q22), .row 1 q1z (.fl .f32 q24), .row 1 q20 (.fl .f32 q23), .row 3 q2a (.fl .f32 q2c), .s (.int .i64 q2o), .s (.flt .f32 q2q), .s (.flt .f32 q2p)]] => some ((zil q0p q0v q0r q0x q0q q0w q14 q19 q1n q1x q1w q1y q22 q1z q24 q20 q23 q2a q2c q2o q2q q2p), ((AV.v (TV.one (At.bool (zgs q0p q0v q0r q0x q0q q0w q14 q19 q1n q1x q1w q1y q22 q1z q24 q20 q23 q2a q2c q2o q2q q2p)))), []))
  | _ => none
def zpg (q0p : Nat) (q0v : List Nat) (q0r : Nat) (q0x : List Nat) (q0q : Nat) (q0w : List Nat) (q14 : Nat) (q19 : List Nat) (q1n : Int) (q1x : Nat) (q1w : Nat) (q1y : Nat) (q22 : List Nat) (q1z : Nat) (q24 : List Nat) (q20 : Nat) (q23 : List Nat) (q2a : Nat) (q2c : List Nat) (q2o : Int) (q2q : Nat) (q2p : Nat) : Option (Bool) → Option (AV × List Blk)
  | some r => some ((AV.v (TV.one (At.bool r))), [])
  | none => none
theorem zvy (q0p : Nat) (q0v : List Nat) (q0r : Nat) (q0x : List Nat) (q0q : Nat) (q0w : List Nat) (q14 : Nat) (q19 : List Nat) (q1n : Int) (q1x : Nat) (q1w : Nat) (q1y : Nat) (q22 : List Nat) (q1z : Nat) (q24 : List Nat) (q20 : Nat) (q23 : List Nat) (q2a : Nat) (q2c : List Nat) (q2o : Int) (q2q : Nat) (q2p : Nat) : evFn Γ5 8 8 56 (impTs 0 [.agg [.row 1 q0p (.fl .f32 q0v), .row 1 q0r (.fl .f32 q0x), .row 1 q0q (.fl .f32 q0w), .row 3 q14 (.fl .f32 q19), .s (.int .i64 q1n), .s (.flt .f32 q1x), .s (.flt .f32 q1w)], .agg [.row 1 q1y (.fl .f32 q22), .row 1 q1z (.fl .f32 q24), .row 1 q20 (.fl .f32 q23), .row 3 q2a (.fl .f32 q2c), .s (.int .i64 q2o), .s (.flt .f32 q2q), .s (.flt .f32 q2p)]]).1 (impTs 0 [.agg [.row 1 q0p (.fl .f32 q0v), .row 1 q0r (.fl .f32 q0x), .row 1 q0q (.fl .f32 q0w), .row 3 q14 (.fl .f32 q19), .s (.int .i64 q1n), .s (.flt .f32 q1x), .s (.flt .f32 q1w)], .agg [.row 1 q1y (.fl .f32 q22), .row 1 q1z (.fl .f32 q24), .row 1 q20 (.fl .f32 q23), .row 3 q2a (.fl .f32 q2c), .s (.int .i64 q2o), .s (.flt .f32 q2q), .s (.flt .f32 q2p)]]).2 (expo (impTs 0 [.agg [.row 1 q0p (.fl .f32 q0v), .row 1 q0r (.fl .f32 q0x), .row 1 q0q (.fl .f32 q0w), .row 3 q14 (.fl .f32 q19), .s (.int .i64 q1n), .s (.flt .f32 q1x), .s (.flt .f32 q1w)], .agg [.row 1 q1y (.fl .f32 q22), .row 1 q1z (.fl .f32 q24), .row 1 q20 (.fl .f32 q23), .row 3 q2a (.fl .f32 q2c), .s (.int .i64 q2o), .s (.flt .f32 q2q), .s (.flt .f32 q2p)]]).2.length) = zet q0p q0v q0r q0x q0q q0w q14 q19 q1n q1x q1w q1y q22 q1z q24 q20 q23 q2a q2c q2o q2q q2p (fun c0_ => some ((AV.v (TV.one (At.bool c0_))), [])) := by kernel_rfl
theorem z4q : SumOne Try.prog 56 z5t := sum_of (Γ := Γ5) (fuel := 8) (d := 8) tyTab_ok (FnL.ok fnTab_ok _ _) (LpL.ok lt5_ok) (SumL.ok tb5_ok _) mixed (by
  intro pts v news hp hc
  clear hc
  unfold z5t at hp
  split at hp
  · rename_i q0p q0v q0r q0x q0q q0w q14 q19 q1n q1x q1w q1y q22 q1z q24 q20 q23 q2a q2c q2o q2q q2p
    exact Eq.trans (Eq.trans (zvy q0p q0v q0r q0x q0q q0w q14 q19 q1n q1x q1w q1y q22 q1z q24 q20 q23 q2a q2c q2o q2q q2p) (zt1 (zpg q0p q0v q0r q0x q0q q0w q14 q19 q1n q1x q1w q1y q22 q1z q24 q20 q23 q2a q2c q2o q2q q2p) rfl q0p q0v q0r q0x q0q q0w q14 q19 q1n q1x q1w q1y q22 q1z q24 q20 q23 q2a q2c q2o q2q q2p (fun c0_ => some c0_))) (fin_out (o := (zpg q0p q0v q0r q0x q0q q0w q14 q19 q1n q1x q1w q1y q22 q1z q24 q20 q23 q2a q2c q2o q2q q2p)) (x := zf1 q0p q0v q0r q0x q0q q0w q14 q19 q1n q1x q1w q1y q22 q1z q24 q20 q23 q2a q2c q2o q2q q2p) (d := default) (V := fun r => ((AV.v (TV.one (At.bool r))), [])) (fun r => rfl) hp)
  · cases hp)
noncomputable def z6m : List PT → Option (Bool × AV × List Blk)
  | [.one (.s (.flt .f64 x))] => some ((zkr x), ((AV.v (TV.one (At.flt FloatKind.f64 (zao x)))), []))
  | _ => none
def zsz (x : Nat) : Option (Nat) → Option (AV × List Blk)
  | some r => some ((AV.v (TV.one (At.flt FloatKind.f64 r))), [])
  | none => none
theorem zwv (x : Nat) : evFn Γ5 8 8 170 (impTs 0 [.one (.s (.flt .f64 x))]).1 (impTs 0 [.one (.s (.flt .f64 x))]).2 (expo (impTs 0 [.one (.s (.flt .f64 x))]).2.length) = ziu x (fun c0_ => some ((AV.v (TV.one (At.flt FloatKind.f64 c0_))), [])) := by kernel_rfl
theorem z65 : SumOne Try.prog 170 z6m := sum_of (Γ := Γ5) (fuel := 8) (d := 8) tyTab_ok (FnL.ok fnTab_ok _ _) (LpL.ok lt5_ok) (SumL.ok tb5_ok _) mixed (by
  intro pts v news hp hc
  clear hc
  unfold z6m at hp
  split at hp
  · rename_i x
    exact Eq.trans (Eq.trans (zwv x) (zuf (zsz x) rfl x (fun c0_ => some c0_))) (fin_out (o := (zsz x)) (x := ziz x) (d := default) (V := fun r => ((AV.v (TV.one (At.flt FloatKind.f64 r))), [])) (fun r => rfl) hp)
  · cases hp)
noncomputable def z0i : List PT → Option (Bool × AV × List Blk)
  | [.one (.row 1 s_n (.fl .f32 s)), .fn 154 []] => some ((z7z s_n s), ((AV.v (TV.one (At.int IntKind.i64 (z7r s_n s)))), []))
  | _ => none
def zcl (s_n : Nat) (s : List Nat) : Option (Int) → Option (AV × List Blk)
  | some r => some ((AV.v (TV.one (At.int IntKind.i64 r))), [])
  | none => none
theorem zka (s_n : Nat) (s : List Nat) : evFn Γ5 8 8 178 (impTs 0 [.one (.row 1 s_n (.fl .f32 s)), .fn 154 []]).1 (impTs 0 [.one (.row 1 s_n (.fl .f32 s)), .fn 154 []]).2 (expo (impTs 0 [.one (.row 1 s_n (.fl .f32 s)), .fn 154 []]).2.length) = z5s s_n s (fun c0_ => some ((AV.v (TV.one (At.int IntKind.i64 c0_))), [])) := by kernel_rfl
theorem z0m : SumOne Try.prog 178 z0i := sum_of (Γ := Γ5) (fuel := 8) (d := 8) tyTab_ok (FnL.ok fnTab_ok _ _) (LpL.ok lt5_ok) (SumL.ok tb5_ok _) mixed (by
  intro pts v news hp hc
  clear hc
  unfold z0i at hp
  split at hp
  · rename_i s_n s
    exact Eq.trans (Eq.trans (zka s_n s) (zj0 (zcl s_n s) rfl s_n s (fun c0_ => some c0_))) (fin_out (o := (zcl s_n s)) (x := z5r s_n s) (d := default) (V := fun r => ((AV.v (TV.one (At.int IntKind.i64 r))), [])) (fun r => rfl) hp)
  · cases hp)
noncomputable def z5q : Nat → St → Option (Bool × LO)
  | 0, (St.mk [(4, (AV.v (TV.one (At.bool q2t)))), (5, (AV.v (TV.one (At.flt FloatKind.f64 z)))), (6, (AV.v (TV.one (At.flt FloatKind.f64 u)))), (7, (AV.v (TV.one (At.flt FloatKind.f64 p)))), (8, (AV.v (TV.one (At.flt FloatKind.f64 k))))] []) => some ((zb1 u p k), (LO.one (Ex.exit 0) (St.mk [(4, (AV.v (TV.one (At.bool q2t)))), (5, (AV.v (TV.one (At.flt FloatKind.f64 z)))), (6, (AV.v (TV.one (At.flt FloatKind.f64 u)))), (7, (AV.v (TV.one (At.flt FloatKind.f64 (z97 u p k))))), (8, (AV.v (TV.one (At.flt FloatKind.f64 (zlj u p k))))), (25, (AV.v (TV.one (At.bool (zlk u p k)))))] [])))
  | _, _ => none
def zl3 (q2t : Bool) (z : Nat) (u : Nat) : Option ((Nat × Nat × Bool)) → Option (Ex × St)
  | none => none
  | some r => some ((Ex.exit 0), (St.mk [(4, (AV.v (TV.one (At.bool q2t)))), (5, (AV.v (TV.one (At.flt FloatKind.f64 z)))), (6, (AV.v (TV.one (At.flt FloatKind.f64 u)))), (7, (AV.v (TV.one (At.flt FloatKind.f64 r.1)))), (8, (AV.v (TV.one (At.flt FloatKind.f64 r.2.1)))), (25, (AV.v (TV.one (At.bool r.2.2))))] []))
def zvp (q2t : Bool) (z : Nat) (u : Nat) (x : Option ((Nat × Nat × Bool))) : LO := (LO.one (Ex.exit 0) (St.mk [(4, (AV.v (TV.one (At.bool q2t)))), (5, (AV.v (TV.one (At.flt FloatKind.f64 z)))), (6, (AV.v (TV.one (At.flt FloatKind.f64 u)))), (7, (AV.v (TV.one (At.flt FloatKind.f64 (x.getD default).1)))), (8, (AV.v (TV.one (At.flt FloatKind.f64 (x.getD default).2.1)))), (25, (AV.v (TV.one (At.bool (x.getD default).2.2))))] []))
theorem zwc (q2t : Bool) (z : Nat) (u : Nat) : ∀ x : Option ((Nat × Nat × Bool)), x.isSome = true → (zl3 q2t z u) x = some (pick (zvp q2t z u x))
  | none, h => by cases h
  | some r, _ => rfl
theorem zvz (q2t : Bool) (z : Nat) (u : Nat) (p : Nat) (k : Nat) (K : Ex → St → Option (Ex × St)) : evC (R := Ex × St) Γ5 (evFn Γ5 8 8) 105 0 fi105.nt fi105.live fi105.nl 8 (findL 9 (loopsIn fi105.code)) (St.mk [(4, (AV.v (TV.one (At.bool q2t)))), (5, (AV.v (TV.one (At.flt FloatKind.f64 z)))), (6, (AV.v (TV.one (At.flt FloatKind.f64 u)))), (7, (AV.v (TV.one (At.flt FloatKind.f64 p)))), (8, (AV.v (TV.one (At.flt FloatKind.f64 k))))] []) K = z9x u p k (fun p' k' => K .normal (St.mk [(4, (AV.v (TV.one (At.bool q2t)))), (5, (AV.v (TV.one (At.flt FloatKind.f64 z)))), (6, (AV.v (TV.one (At.flt FloatKind.f64 u)))), (7, (AV.v (TV.one (At.flt FloatKind.f64 p')))), (8, (AV.v (TV.one (At.flt FloatKind.f64 k'))))] [])) (fun c0_ c1_ c2_ => K (Ex.exit 0) (St.mk [(4, (AV.v (TV.one (At.bool q2t)))), (5, (AV.v (TV.one (At.flt FloatKind.f64 z)))), (6, (AV.v (TV.one (At.flt FloatKind.f64 u)))), (7, (AV.v (TV.one (At.flt FloatKind.f64 c0_)))), (8, (AV.v (TV.one (At.flt FloatKind.f64 c1_)))), (25, (AV.v (TV.one (At.bool c2_))))] [])) := by kernel_rfl
theorem zw0 (q2t : Bool) (z : Nat) (u : Nat) : ∀ (n : Nat) (p : Nat) (k : Nat), iter 105 9 0 (evC (R := Ex × St) Γ5 (evFn Γ5 8 8) 105 0 fi105.nt fi105.live fi105.nl 8 (findL 9 (loopsIn fi105.code))) n (St.mk [(4, (AV.v (TV.one (At.bool q2t)))), (5, (AV.v (TV.one (At.flt FloatKind.f64 z)))), (6, (AV.v (TV.one (At.flt FloatKind.f64 u)))), (7, (AV.v (TV.one (At.flt FloatKind.f64 p)))), (8, (AV.v (TV.one (At.flt FloatKind.f64 k))))] []) (fun e st => some (e, st)) = (zl3 q2t z u) (z71 u n p k) := by
  intro n
  induction n with
  | zero => intros; rfl
  | succ n ih =>
    intro p k
    refine Eq.trans (iter_succ ..) (Eq.trans (zvz q2t z u p k (nextK 105 9 0 (evC (R := Ex × St) Γ5 (evFn Γ5 8 8) 105 0 fi105.nt fi105.live fi105.nl 8 (findL 9 (loopsIn fi105.code))) n (fun e st => some (e, st)))) (Eq.trans ?_ (zsv (zl3 q2t z u) rfl u p k (fun p' k' => z71 u n p' k') (fun c0_ c1_ c2_ => some (c0_, c1_, c2_)))))
    exact congrArg (fun kn_ => z9x u p k kn_ (fun c0_ c1_ c2_ => (zl3 q2t z u) (some (c0_, c1_, c2_)))) (funext fun p' => funext fun k' => ih p' k')
theorem z4p : LoopOne Try.prog fnTab 105 9 z5q := lp_of (Γ := Γ5) tyTab_ok (FnL.ok fnTab_ok _ _) (LpL.ok lt5_ok) (SumL.ok tb5_ok _) mixed (fi := fi105) (by kernel_rfl) (by kernel_rfl) (by
  intro lo st out hp
  unfold z5q at hp
  split at hp
  · rename_i q2t z u p k
    injection hp with hp
    injection hp with h1 h2
    subst h2
    exact ⟨8, 8, big, Eq.trans (zw0 q2t z u big p k) (zwc q2t z u (z71 u big p k) h1)⟩
  · cases hp)
noncomputable def tb6 : List (Nat × (List PT → Option (Bool × AV × List Blk))) := [(156, z0y), (181, z1f), (182, z23), (189, z25), (26, z2u), (55, z2f), (84, z13), (89, z45), (102, z6f), (112, z21), (115, z2e), (123, z2s), (126, z4t), (157, z6b), (160, z22), (162, z4x), (167, z2c), (175, z44), (176, z1q), (187, z2d), (74, z3p), (83, z12), (85, z4k), (90, z3q), (103, z4j), (111, z2q), (116, z33), (117, z4i), (138, z35), (148, z1z), (150, z1e), (169, z2p), (185, z34), (52, z49), (154, z2n), (158, z5w), (166, z2o), (104, z30), (119, z3c), (120, z2w), (168, z2x), (188, z2j), (54, z5c), (121, z3t), (122, z3b), (165, z5a), (178, z0b), (178, z06), (184, z6c), (56, z5t), (170, z6m), (178, z0i)]
noncomputable def lt6 : List ((Nat × Nat) × (Nat → St → Option (Bool × LO))) := [((166, 3), z1b), ((120, 3), z1m), ((168, 4), z1l), ((188, 17), z16), ((122, 4), z1u), ((178, 2), z04), ((178, 2), z02), ((184, 5), z3v), ((178, 2), z07), ((105, 9), z5q)]
noncomputable def Γ6 : Ctx := ⟨tyTab, fnTab, tblSum tb6, tblLp lt6⟩
theorem tb6_ok : SumL Try.prog tb6 := SumL.cons z0t (SumL.cons z17 (SumL.cons z1o (SumL.cons z1p (SumL.cons z2a (SumL.cons z1w (SumL.cons z0z (SumL.cons z31 (SumL.cons z53 (SumL.cons z1i (SumL.cons z1x (SumL.cons z2b (SumL.cons z3i (SumL.cons z54 (SumL.cons z1k (SumL.cons z3k (SumL.cons z1y (SumL.cons z32 (SumL.cons z1a (SumL.cons z1v (SumL.cons z2y (SumL.cons z11 (SumL.cons z3h (SumL.cons z2z (SumL.cons z3g (SumL.cons z28 (SumL.cons z2l (SumL.cons z3e (SumL.cons z2m (SumL.cons z1h (SumL.cons z19 (SumL.cons z27 (SumL.cons z2k (SumL.cons z39 (SumL.cons z26 (SumL.cons z4h (SumL.cons z24 (SumL.cons z2g (SumL.cons z2r (SumL.cons z2h (SumL.cons z2i (SumL.cons z29 (SumL.cons z4b (SumL.cons z36 (SumL.cons z2v (SumL.cons z4e (SumL.cons z0f (SumL.cons z09 (SumL.cons z5l (SumL.cons z4q (SumL.cons z65 (SumL.cons z0m (SumL.nil))))))))))))))))))))))))))))))))))))))))))))))))))))
theorem lt6_ok : LpL Try.prog fnTab lt6 := LpL.cons z18 (LpL.cons z1d (LpL.cons z1c (LpL.cons z14 (LpL.cons z1n (LpL.cons z05 (LpL.cons z03 (LpL.cons z38 (LpL.cons z0a (LpL.cons z4p (LpL.nil))))))))))
noncomputable def z7m : List PT → Option (Bool × AV × List Blk)
  | [.one (.s (.flt .f64 q25))] => some ((zml q25), ((AV.v (TV.one (At.flt FloatKind.f64 (zku q25)))), []))
  | _ => none
def zu6 (q25 : Nat) : Option (Nat) → Option (AV × List Blk)
  | some r => some ((AV.v (TV.one (At.flt FloatKind.f64 r))), [])
  | none => none
theorem zww (q25 : Nat) : evFn Γ6 8 8 105 (impTs 0 [.one (.s (.flt .f64 q25))]).1 (impTs 0 [.one (.s (.flt .f64 q25))]).2 (expo (impTs 0 [.one (.s (.flt .f64 q25))]).2.length) = zk4 q25 (fun c0_ => some ((AV.v (TV.one (At.flt FloatKind.f64 c0_))), [])) := by kernel_rfl
theorem z6r : SumOne Try.prog 105 z7m := sum_of (Γ := Γ6) (fuel := 8) (d := 8) tyTab_ok (FnL.ok fnTab_ok _ _) (LpL.ok lt6_ok) (SumL.ok tb6_ok _) mixed (by
  intro pts v news hp hc
  clear hc
  unfold z7m at hp
  split at hp
  · rename_i q25
    exact Eq.trans (Eq.trans (zww q25) (zvj (zu6 q25) rfl q25 (fun c0_ => some c0_))) (fin_out (o := (zu6 q25)) (x := zk6 q25) (d := default) (V := fun r => ((AV.v (TV.one (At.flt FloatKind.f64 r))), [])) (fun r => rfl) hp)
  · cases hp)
noncomputable def z4v : List PT → Option (Bool × AV × List Blk)
  | [.one (.s (.flt .f32 x))] => some ((zjq x), ((AV.v (TV.one (At.flt FloatKind.f32 (z3a x)))), []))
  | _ => none
def znn (x : Nat) : Option (Nat) → Option (AV × List Blk)
  | some r => some ((AV.v (TV.one (At.flt FloatKind.f32 r))), [])
  | none => none
theorem zup (x : Nat) : evFn Γ6 8 8 124 (impTs 0 [.one (.s (.flt .f32 x))]).1 (impTs 0 [.one (.s (.flt .f32 x))]).2 (expo (impTs 0 [.one (.s (.flt .f32 x))]).2.length) = zd9 x (fun c0_ => some ((AV.v (TV.one (At.flt FloatKind.f32 c0_))), [])) := by kernel_rfl
theorem z4f : SumOne Try.prog 124 z4v := sum_of (Γ := Γ6) (fuel := 8) (d := 8) tyTab_ok (FnL.ok fnTab_ok _ _) (LpL.ok lt6_ok) (SumL.ok tb6_ok _) mixed (by
  intro pts v news hp hc
  clear hc
  unfold z4v at hp
  split at hp
  · rename_i x
    exact Eq.trans (Eq.trans (zup x) (zqm (znn x) rfl x (fun c0_ => some c0_))) (fin_out (o := (znn x)) (x := zcu x) (d := default) (V := fun r => ((AV.v (TV.one (At.flt FloatKind.f32 r))), [])) (fun r => rfl) hp)
  · cases hp)
noncomputable def z0e : List PT → Option (Bool × AV × List Blk)
  | [.one (.row 1 s_n (.fl .f32 s)), .fn 148 []] => some ((z72 s_n s), ((AV.v (TV.one (At.bool (z70 s_n s)))), []))
  | _ => none
def zb9 (s_n : Nat) (s : List Nat) : Option (Bool) → Option (AV × List Blk)
  | some r => some ((AV.v (TV.one (At.bool r))), [])
  | none => none
theorem zj7 (s_n : Nat) (s : List Nat) : evFn Γ6 8 8 147 (impTs 0 [.one (.row 1 s_n (.fl .f32 s)), .fn 148 []]).1 (impTs 0 [.one (.row 1 s_n (.fl .f32 s)), .fn 148 []]).2 (expo (impTs 0 [.one (.row 1 s_n (.fl .f32 s)), .fn 148 []]).2.length) = z4l s_n s (fun c0_ => some ((AV.v (TV.one (At.bool c0_))), [])) := by kernel_rfl
theorem z0k : SumOne Try.prog 147 z0e := sum_of (Γ := Γ6) (fuel := 8) (d := 8) tyTab_ok (FnL.ok fnTab_ok _ _) (LpL.ok lt6_ok) (SumL.ok tb6_ok _) mixed (by
  intro pts v news hp hc
  clear hc
  unfold z0e at hp
  split at hp
  · rename_i s_n s
    exact Eq.trans (Eq.trans (zj7 s_n s) (zg9 (zb9 s_n s) rfl s_n s (fun c0_ => some c0_))) (fin_out (o := (zb9 s_n s)) (x := z4n s_n s) (d := default) (V := fun r => ((AV.v (TV.one (At.bool r))), [])) (fun r => rfl) hp)
  · cases hp)
noncomputable def z08 : List PT → Option (Bool × AV × List Blk)
  | [.one (.row 1 s_n (.fl .f32 s)), .fn 150 []] => some ((z6w s_n s), ((AV.v (TV.one (At.bool (z6n s_n s)))), []))
  | _ => none
def zam (s_n : Nat) (s : List Nat) : Option (Bool) → Option (AV × List Blk)
  | some r => some ((AV.v (TV.one (At.bool r))), [])
  | none => none
theorem zhj (s_n : Nat) (s : List Nat) : evFn Γ6 8 8 147 (impTs 0 [.one (.row 1 s_n (.fl .f32 s)), .fn 150 []]).1 (impTs 0 [.one (.row 1 s_n (.fl .f32 s)), .fn 150 []]).2 (expo (impTs 0 [.one (.row 1 s_n (.fl .f32 s)), .fn 150 []]).2.length) = z48 s_n s (fun c0_ => some ((AV.v (TV.one (At.bool c0_))), [])) := by kernel_rfl
theorem z0g : SumOne Try.prog 147 z08 := sum_of (Γ := Γ6) (fuel := 8) (d := 8) tyTab_ok (FnL.ok fnTab_ok _ _) (LpL.ok lt6_ok) (SumL.ok tb6_ok _) mixed (by
  intro pts v news hp hc
  clear hc
  unfold z08 at hp
  split at hp
  · rename_i s_n s
    exact Eq.trans (Eq.trans (zhj s_n s) (zfk (zam s_n s) rfl s_n s (fun c0_ => some c0_))) (fin_out (o := (zam s_n s)) (x := z46 s_n s) (d := default) (V := fun r => ((AV.v (TV.one (At.bool r))), [])) (fun r => rfl) hp)
  · cases hp)
noncomputable def z0h : List PT → Option (Bool × AV × List Blk)
  | [.one (.row 1 s_n (.fl .f32 s)), .fn 154 []] => some ((z7c s_n s), ((AV.v (TV.one (At.bool (z76 s_n s)))), []))
  | _ => none
def zbd (s_n : Nat) (s : List Nat) : Option (Bool) → Option (AV × List Blk)
  | some r => some ((AV.v (TV.one (At.bool r))), [])
  | none => none
theorem zja (s_n : Nat) (s : List Nat) : evFn Γ6 8 8 147 (impTs 0 [.one (.row 1 s_n (.fl .f32 s)), .fn 154 []]).1 (impTs 0 [.one (.row 1 s_n (.fl .f32 s)), .fn 154 []]).2 (expo (impTs 0 [.one (.row 1 s_n (.fl .f32 s)), .fn 154 []]).2.length) = z4y s_n s (fun c0_ => some ((AV.v (TV.one (At.bool c0_))), [])) := by kernel_rfl
theorem z0l : SumOne Try.prog 147 z0h := sum_of (Γ := Γ6) (fuel := 8) (d := 8) tyTab_ok (FnL.ok fnTab_ok _ _) (LpL.ok lt6_ok) (SumL.ok tb6_ok _) mixed (by
  intro pts v news hp hc
  clear hc
  unfold z0h at hp
  split at hp
  · rename_i s_n s
    exact Eq.trans (Eq.trans (zja s_n s) (zh0 (zbd s_n s) rfl s_n s (fun c0_ => some c0_))) (fin_out (o := (zbd s_n s)) (x := z4z s_n s) (d := default) (V := fun r => ((AV.v (TV.one (At.bool r))), [])) (fun r => rfl) hp)
  · cases hp)
noncomputable def z67 : List PT → Option (Bool × AV × List Blk)
  | [.one (.s (.flt .f32 x))] => some ((zla x), ((AV.v (TV.one (At.flt FloatKind.f32 (z01 x)))), []))
  | _ => none
def zq1 (x : Nat) : Option (Nat) → Option (AV × List Blk)
  | some r => some ((AV.v (TV.one (At.flt FloatKind.f32 r))), [])
  | none => none
theorem zw4 (x : Nat) : evFn Γ6 8 8 198 (impTs 0 [.one (.s (.flt .f32 x))]).1 (impTs 0 [.one (.s (.flt .f32 x))]).2 (expo (impTs 0 [.one (.s (.flt .f32 x))]).2.length) = zex x (fun c0_ => some ((AV.v (TV.one (At.flt FloatKind.f32 c0_))), [])) := by kernel_rfl
theorem z5k : SumOne Try.prog 198 z67 := sum_of (Γ := Γ6) (fuel := 8) (d := 8) tyTab_ok (FnL.ok fnTab_ok _ _) (LpL.ok lt6_ok) (SumL.ok tb6_ok _) mixed (by
  intro pts v news hp hc
  clear hc
  unfold z67 at hp
  split at hp
  · rename_i x
    exact Eq.trans (Eq.trans (zw4 x) (zs6 (zq1 x) rfl x (fun c0_ => some c0_))) (fin_out (o := (zq1 x)) (x := zfb x) (d := default) (V := fun r => ((AV.v (TV.one (At.flt FloatKind.f32 r))), [])) (fun r => rfl) hp)
  · cases hp)
noncomputable def z5p : Nat → St → Option (Bool × LO)
  | 5, (St.mk [(0, (AV.v (TV.one (At.ptr 4 0 7)))), (4, (AV.v (TV.one (At.flt FloatKind.f32 t4)))), (57, (AV.v (TV.one (At.int IntKind.i64 t57)))), (58, (AV.v (TV.one (At.int IntKind.i64 t58))))] [(Blk.mk Bool.false (Body.fl FloatKind.f32 b0)), (Blk.mk Bool.false (Body.fl FloatKind.f32 b1)), (Blk.mk Bool.false (Body.fl FloatKind.f32 b2)), (Blk.mk Bool.false (Body.fl FloatKind.f32 b3)), (Blk.mk Bool.false (Body.cells [(At.vw 0 0 q1j 1), (At.vw 1 0 q1i 1), (At.vw 2 0 q1h 1), (At.vw 3 0 q18 3), (At.int IntKind.i64 q1q), (At.flt FloatKind.f32 q1r), (At.flt FloatKind.f32 q1b)]))]) => some ((zbj t57 b3 q18 q1b t4 t58), (LO.two (zav t57 b3 q18 q1b t4 t58) (LO.one Ex.ret (St.mk [(2, (AV.v (TV.one (At.bool Bool.false))))] [(Blk.mk Bool.false (Body.fl FloatKind.f32 b0)), (Blk.mk Bool.false (Body.fl FloatKind.f32 b1)), (Blk.mk Bool.false (Body.fl FloatKind.f32 b2)), (Blk.mk Bool.false (Body.fl FloatKind.f32 b3)), (Blk.mk Bool.false (Body.cells [(At.vw 0 0 q1j 1), (At.vw 1 0 q1i 1), (At.vw 2 0 q1h 1), (At.vw 3 0 q18 3), (At.int IntKind.i64 q1q), (At.flt FloatKind.f32 q1r), (At.flt FloatKind.f32 q1b)]))])) (LO.one (Ex.exit 0) (St.mk [(0, (AV.v (TV.one (At.ptr 4 0 7)))), (4, (AV.v (TV.one (At.flt FloatKind.f32 (zko t57 b3 q18 q1b t4 t58))))), (57, (AV.v (TV.one (At.int IntKind.i64 t57)))), (58, (AV.v (TV.one (At.int IntKind.i64 (zl2 t57 b3 q18 q1b t4 t58))))), (59, (AV.v (TV.one (At.bool (zks t57 b3 q18 q1b t4 t58)))))] [(Blk.mk Bool.false (Body.fl FloatKind.f32 b0)), (Blk.mk Bool.false (Body.fl FloatKind.f32 b1)), (Blk.mk Bool.false (Body.fl FloatKind.f32 b2)), (Blk.mk Bool.false (Body.fl FloatKind.f32 b3)), (Blk.mk Bool.false (Body.cells [(At.vw 0 0 q1j 1), (At.vw 1 0 q1i 1), (At.vw 2 0 q1h 1), (At.vw 3 0 q18 3), (At.int IntKind.i64 q1q), (At.flt FloatKind.f32 q1r), (At.flt FloatKind.f32 q1b)]))]))))
  | _, _ => none
def zh4 (t57 : Int) (b0 : List Nat) (b1 : List Nat) (b2 : List Nat) (b3 : List Nat) (q1j : Nat) (q1i : Nat) (q1h : Nat) (q18 : Nat) (q1q : Int) (q1r : Nat) (q1b : Nat) : Option ((Unit) ⊕ (Nat × Int × Bool)) → Option (Ex × St)
  | none => none
  | some (Sum.inl r) => some (Ex.ret, (St.mk [(2, (AV.v (TV.one (At.bool Bool.false))))] [(Blk.mk Bool.false (Body.fl FloatKind.f32 b0)), (Blk.mk Bool.false (Body.fl FloatKind.f32 b1)), (Blk.mk Bool.false (Body.fl FloatKind.f32 b2)), (Blk.mk Bool.false (Body.fl FloatKind.f32 b3)), (Blk.mk Bool.false (Body.cells [(At.vw 0 0 q1j 1), (At.vw 1 0 q1i 1), (At.vw 2 0 q1h 1), (At.vw 3 0 q18 3), (At.int IntKind.i64 q1q), (At.flt FloatKind.f32 q1r), (At.flt FloatKind.f32 q1b)]))]))
  | some (Sum.inr r) => some ((Ex.exit 0), (St.mk [(0, (AV.v (TV.one (At.ptr 4 0 7)))), (4, (AV.v (TV.one (At.flt FloatKind.f32 r.1)))), (57, (AV.v (TV.one (At.int IntKind.i64 t57)))), (58, (AV.v (TV.one (At.int IntKind.i64 r.2.1)))), (59, (AV.v (TV.one (At.bool r.2.2))))] [(Blk.mk Bool.false (Body.fl FloatKind.f32 b0)), (Blk.mk Bool.false (Body.fl FloatKind.f32 b1)), (Blk.mk Bool.false (Body.fl FloatKind.f32 b2)), (Blk.mk Bool.false (Body.fl FloatKind.f32 b3)), (Blk.mk Bool.false (Body.cells [(At.vw 0 0 q1j 1), (At.vw 1 0 q1i 1), (At.vw 2 0 q1h 1), (At.vw 3 0 q18 3), (At.int IntKind.i64 q1q), (At.flt FloatKind.f32 q1r), (At.flt FloatKind.f32 q1b)]))]))
def zv1 (t57 : Int) (b0 : List Nat) (b1 : List Nat) (b2 : List Nat) (b3 : List Nat) (q1j : Nat) (q1i : Nat) (q1h : Nat) (q18 : Nat) (q1q : Int) (q1r : Nat) (q1b : Nat) (x : Option ((Unit) ⊕ (Nat × Int × Bool))) : LO := (LO.two (oL x) (LO.one Ex.ret (St.mk [(2, (AV.v (TV.one (At.bool Bool.false))))] [(Blk.mk Bool.false (Body.fl FloatKind.f32 b0)), (Blk.mk Bool.false (Body.fl FloatKind.f32 b1)), (Blk.mk Bool.false (Body.fl FloatKind.f32 b2)), (Blk.mk Bool.false (Body.fl FloatKind.f32 b3)), (Blk.mk Bool.false (Body.cells [(At.vw 0 0 q1j 1), (At.vw 1 0 q1i 1), (At.vw 2 0 q1h 1), (At.vw 3 0 q18 3), (At.int IntKind.i64 q1q), (At.flt FloatKind.f32 q1r), (At.flt FloatKind.f32 q1b)]))])) (LO.one (Ex.exit 0) (St.mk [(0, (AV.v (TV.one (At.ptr 4 0 7)))), (4, (AV.v (TV.one (At.flt FloatKind.f32 ((tR x).getD default).1)))), (57, (AV.v (TV.one (At.int IntKind.i64 t57)))), (58, (AV.v (TV.one (At.int IntKind.i64 ((tR x).getD default).2.1)))), (59, (AV.v (TV.one (At.bool ((tR x).getD default).2.2))))] [(Blk.mk Bool.false (Body.fl FloatKind.f32 b0)), (Blk.mk Bool.false (Body.fl FloatKind.f32 b1)), (Blk.mk Bool.false (Body.fl FloatKind.f32 b2)), (Blk.mk Bool.false (Body.fl FloatKind.f32 b3)), (Blk.mk Bool.false (Body.cells [(At.vw 0 0 q1j 1), (At.vw 1 0 q1i 1), (At.vw 2 0 q1h 1), (At.vw 3 0 q18 3), (At.int IntKind.i64 q1q), (At.flt FloatKind.f32 q1r), (At.flt FloatKind.f32 q1b)]))])))
theorem zv3 (t57 : Int) (b0 : List Nat) (b1 : List Nat) (b2 : List Nat) (b3 : List Nat) (q1j : Nat) (q1i : Nat) (q1h : Nat) (q18 : Nat) (q1q : Int) (q1r : Nat) (q1b : Nat) : ∀ x : Option ((Unit) ⊕ (Nat × Int × Bool)), x.isSome = true → (zh4 t57 b0 b1 b2 b3 q1j q1i q1h q18 q1q q1r q1b) x = some (pick (zv1 t57 b0 b1 b2 b3 q1j q1i q1h q18 q1q q1r q1b x))
  | none, h => by cases h
  | some (Sum.inl r), _ => rfl
  | some (Sum.inr r), _ => rfl
theorem zvg (t4 : Nat) (t57 : Int) (t58 : Int) (b0 : List Nat) (b1 : List Nat) (b2 : List Nat) (b3 : List Nat) (q1j : Nat) (q1i : Nat) (q1h : Nat) (q18 : Nat) (q1q : Int) (q1r : Nat) (q1b : Nat) (K : Ex → St → Option (Ex × St)) : evC (R := Ex × St) Γ6 (evFn Γ6 8 8) 161 5 fi161.nt fi161.live fi161.nl 8 (findL 6 (loopsIn fi161.code)) (St.mk [(0, (AV.v (TV.one (At.ptr 4 0 7)))), (4, (AV.v (TV.one (At.flt FloatKind.f32 t4)))), (57, (AV.v (TV.one (At.int IntKind.i64 t57)))), (58, (AV.v (TV.one (At.int IntKind.i64 t58))))] [(Blk.mk Bool.false (Body.fl FloatKind.f32 b0)), (Blk.mk Bool.false (Body.fl FloatKind.f32 b1)), (Blk.mk Bool.false (Body.fl FloatKind.f32 b2)), (Blk.mk Bool.false (Body.fl FloatKind.f32 b3)), (Blk.mk Bool.false (Body.cells [(At.vw 0 0 q1j 1), (At.vw 1 0 q1i 1), (At.vw 2 0 q1h 1), (At.vw 3 0 q18 3), (At.int IntKind.i64 q1q), (At.flt FloatKind.f32 q1r), (At.flt FloatKind.f32 q1b)]))]) K = z9f t57 b3 q18 q1b t4 t58 (fun t4' t58' => K .normal (St.mk [(0, (AV.v (TV.one (At.ptr 4 0 7)))), (4, (AV.v (TV.one (At.flt FloatKind.f32 t4')))), (57, (AV.v (TV.one (At.int IntKind.i64 t57)))), (58, (AV.v (TV.one (At.int IntKind.i64 t58'))))] [(Blk.mk Bool.false (Body.fl FloatKind.f32 b0)), (Blk.mk Bool.false (Body.fl FloatKind.f32 b1)), (Blk.mk Bool.false (Body.fl FloatKind.f32 b2)), (Blk.mk Bool.false (Body.fl FloatKind.f32 b3)), (Blk.mk Bool.false (Body.cells [(At.vw 0 0 q1j 1), (At.vw 1 0 q1i 1), (At.vw 2 0 q1h 1), (At.vw 3 0 q18 3), (At.int IntKind.i64 q1q), (At.flt FloatKind.f32 q1r), (At.flt FloatKind.f32 q1b)]))])) (fun _ => K Ex.ret (St.mk [(2, (AV.v (TV.one (At.bool Bool.false))))] [(Blk.mk Bool.false (Body.fl FloatKind.f32 b0)), (Blk.mk Bool.false (Body.fl FloatKind.f32 b1)), (Blk.mk Bool.false (Body.fl FloatKind.f32 b2)), (Blk.mk Bool.false (Body.fl FloatKind.f32 b3)), (Blk.mk Bool.false (Body.cells [(At.vw 0 0 q1j 1), (At.vw 1 0 q1i 1), (At.vw 2 0 q1h 1), (At.vw 3 0 q18 3), (At.int IntKind.i64 q1q), (At.flt FloatKind.f32 q1r), (At.flt FloatKind.f32 q1b)]))])) (fun c0_ c1_ c2_ => K (Ex.exit 0) (St.mk [(0, (AV.v (TV.one (At.ptr 4 0 7)))), (4, (AV.v (TV.one (At.flt FloatKind.f32 c0_)))), (57, (AV.v (TV.one (At.int IntKind.i64 t57)))), (58, (AV.v (TV.one (At.int IntKind.i64 c1_)))), (59, (AV.v (TV.one (At.bool c2_))))] [(Blk.mk Bool.false (Body.fl FloatKind.f32 b0)), (Blk.mk Bool.false (Body.fl FloatKind.f32 b1)), (Blk.mk Bool.false (Body.fl FloatKind.f32 b2)), (Blk.mk Bool.false (Body.fl FloatKind.f32 b3)), (Blk.mk Bool.false (Body.cells [(At.vw 0 0 q1j 1), (At.vw 1 0 q1i 1), (At.vw 2 0 q1h 1), (At.vw 3 0 q18 3), (At.int IntKind.i64 q1q), (At.flt FloatKind.f32 q1r), (At.flt FloatKind.f32 q1b)]))])) := by kernel_rfl
theorem zvl (t57 : Int) (b0 : List Nat) (b1 : List Nat) (b2 : List Nat) (b3 : List Nat) (q1j : Nat) (q1i : Nat) (q1h : Nat) (q18 : Nat) (q1q : Int) (q1r : Nat) (q1b : Nat) : ∀ (n : Nat) (t4 : Nat) (t58 : Int), iter 161 6 5 (evC (R := Ex × St) Γ6 (evFn Γ6 8 8) 161 5 fi161.nt fi161.live fi161.nl 8 (findL 6 (loopsIn fi161.code))) n (St.mk [(0, (AV.v (TV.one (At.ptr 4 0 7)))), (4, (AV.v (TV.one (At.flt FloatKind.f32 t4)))), (57, (AV.v (TV.one (At.int IntKind.i64 t57)))), (58, (AV.v (TV.one (At.int IntKind.i64 t58))))] [(Blk.mk Bool.false (Body.fl FloatKind.f32 b0)), (Blk.mk Bool.false (Body.fl FloatKind.f32 b1)), (Blk.mk Bool.false (Body.fl FloatKind.f32 b2)), (Blk.mk Bool.false (Body.fl FloatKind.f32 b3)), (Blk.mk Bool.false (Body.cells [(At.vw 0 0 q1j 1), (At.vw 1 0 q1i 1), (At.vw 2 0 q1h 1), (At.vw 3 0 q18 3), (At.int IntKind.i64 q1q), (At.flt FloatKind.f32 q1r), (At.flt FloatKind.f32 q1b)]))]) (fun e st => some (e, st)) = (zh4 t57 b0 b1 b2 b3 q1j q1i q1h q18 q1q q1r q1b) (z5o t57 b3 q18 q1b n t4 t58) := by
  intro n
  induction n with
  | zero => intros; rfl
  | succ n ih =>
    intro t4 t58
    refine Eq.trans (iter_succ ..) (Eq.trans (zvg t4 t57 t58 b0 b1 b2 b3 q1j q1i q1h q18 q1q q1r q1b (nextK 161 6 5 (evC (R := Ex × St) Γ6 (evFn Γ6 8 8) 161 5 fi161.nt fi161.live fi161.nl 8 (findL 6 (loopsIn fi161.code))) n (fun e st => some (e, st)))) (Eq.trans ?_ (zrq (zh4 t57 b0 b1 b2 b3 q1j q1i q1h q18 q1q q1r q1b) rfl t57 b3 q18 q1b t4 t58 (fun t4' t58' => z5o t57 b3 q18 q1b n t4' t58') (fun _ => some (Sum.inl ())) (fun c0_ c1_ c2_ => some (Sum.inr (c0_, c1_, c2_))))))
    exact congrArg (fun kn_ => z9f t57 b3 q18 q1b t4 t58 kn_ (fun _ => (zh4 t57 b0 b1 b2 b3 q1j q1i q1h q18 q1q q1r q1b) (some (Sum.inl ()))) (fun c0_ c1_ c2_ => (zh4 t57 b0 b1 b2 b3 q1j q1i q1h q18 q1q q1r q1b) (some (Sum.inr (c0_, c1_, c2_))))) (funext fun t4' => funext fun t58' => ih t4' t58')
theorem z4w : LoopOne Try.prog fnTab 161 6 z5p := lp_of (Γ := Γ6) tyTab_ok (FnL.ok fnTab_ok _ _) (LpL.ok lt6_ok) (SumL.ok tb6_ok _) mixed (fi := fi161) (by kernel_rfl) (by kernel_rfl) (by
  intro lo st out hp
  unfold z5p at hp
  split at hp
  · rename_i t4 t57 t58 b0 b1 b2 b3 q1j q1i q1h q18 q1q q1r q1b
    injection hp with hp
    injection hp with h1 h2
    subst h2
    exact ⟨8, 8, big, Eq.trans (zvl t57 b0 b1 b2 b3 q1j q1i q1h q18 q1q q1r q1b big t4 t58) (zv3 t57 b0 b1 b2 b3 q1j q1i q1h q18 q1q q1r q1b (z5o t57 b3 q18 q1b big t4 t58) h1)⟩
  · cases hp)
noncomputable def tb7 : List (Nat × (List PT → Option (Bool × AV × List Blk))) := [(156, z0y), (181, z1f), (182, z23), (189, z25), (26, z2u), (55, z2f), (84, z13), (89, z45), (102, z6f), (112, z21), (115, z2e), (123, z2s), (126, z4t), (157, z6b), (160, z22), (162, z4x), (167, z2c), (175, z44), (176, z1q), (187, z2d), (74, z3p), (83, z12), (85, z4k), (90, z3q), (103, z4j), (111, z2q), (116, z33), (117, z4i), (138, z35), (148, z1z), (150, z1e), (169, z2p), (185, z34), (52, z49), (154, z2n), (158, z5w), (166, z2o), (104, z30), (119, z3c), (120, z2w), (168, z2x), (188, z2j), (54, z5c), (121, z3t), (122, z3b), (165, z5a), (178, z0b), (178, z06), (184, z6c), (56, z5t), (170, z6m), (178, z0i), (105, z7m), (124, z4v), (147, z0e), (147, z08), (147, z0h), (198, z67)]
noncomputable def lt7 : List ((Nat × Nat) × (Nat → St → Option (Bool × LO))) := [((166, 3), z1b), ((120, 3), z1m), ((168, 4), z1l), ((188, 17), z16), ((122, 4), z1u), ((178, 2), z04), ((178, 2), z02), ((184, 5), z3v), ((178, 2), z07), ((105, 9), z5q), ((161, 6), z5p)]
noncomputable def Γ7 : Ctx := ⟨tyTab, fnTab, tblSum tb7, tblLp lt7⟩
theorem tb7_ok : SumL Try.prog tb7 := SumL.cons z0t (SumL.cons z17 (SumL.cons z1o (SumL.cons z1p (SumL.cons z2a (SumL.cons z1w (SumL.cons z0z (SumL.cons z31 (SumL.cons z53 (SumL.cons z1i (SumL.cons z1x (SumL.cons z2b (SumL.cons z3i (SumL.cons z54 (SumL.cons z1k (SumL.cons z3k (SumL.cons z1y (SumL.cons z32 (SumL.cons z1a (SumL.cons z1v (SumL.cons z2y (SumL.cons z11 (SumL.cons z3h (SumL.cons z2z (SumL.cons z3g (SumL.cons z28 (SumL.cons z2l (SumL.cons z3e (SumL.cons z2m (SumL.cons z1h (SumL.cons z19 (SumL.cons z27 (SumL.cons z2k (SumL.cons z39 (SumL.cons z26 (SumL.cons z4h (SumL.cons z24 (SumL.cons z2g (SumL.cons z2r (SumL.cons z2h (SumL.cons z2i (SumL.cons z29 (SumL.cons z4b (SumL.cons z36 (SumL.cons z2v (SumL.cons z4e (SumL.cons z0f (SumL.cons z09 (SumL.cons z5l (SumL.cons z4q (SumL.cons z65 (SumL.cons z0m (SumL.cons z6r (SumL.cons z4f (SumL.cons z0k (SumL.cons z0g (SumL.cons z0l (SumL.cons z5k (SumL.nil))))))))))))))))))))))))))))))))))))))))))))))))))))))))))
theorem lt7_ok : LpL Try.prog fnTab lt7 := LpL.cons z18 (LpL.cons z1d (LpL.cons z1c (LpL.cons z14 (LpL.cons z1n (LpL.cons z05 (LpL.cons z03 (LpL.cons z38 (LpL.cons z0a (LpL.cons z4p (LpL.cons z4w (LpL.nil)))))))))))
noncomputable def z5g : List PT → Option (Bool × AV × List Blk)
  | [.one (.row 1 q1k (.fl .f32 q1v))] => some ((zfe q1k q1v), ((AV.v (TV.one (At.bool (zea q1k q1v)))), []))
  | _ => none
def zo7 (q1k : Nat) (q1v : List Nat) : Option (Bool) → Option (AV × List Blk)
  | some r => some ((AV.v (TV.one (At.bool r))), [])
  | none => none
theorem zuv (q1k : Nat) (q1v : List Nat) : evFn Γ7 8 8 77 (impTs 0 [.one (.row 1 q1k (.fl .f32 q1v))]).1 (impTs 0 [.one (.row 1 q1k (.fl .f32 q1v))]).2 (expo (impTs 0 [.one (.row 1 q1k (.fl .f32 q1v))]).2.length) = zdd q1k q1v (fun c0_ => some ((AV.v (TV.one (At.bool c0_))), [])) := by kernel_rfl
theorem z56 : SumOne Try.prog 77 z5g := sum_of (Γ := Γ7) (fuel := 8) (d := 8) tyTab_ok (FnL.ok fnTab_ok _ _) (LpL.ok lt7_ok) (SumL.ok tb7_ok _) mixed (by
  intro pts v news hp hc
  clear hc
  unfold z5g at hp
  split at hp
  · rename_i q1k q1v
    exact Eq.trans (Eq.trans (zuv q1k q1v) (zqy (zo7 q1k q1v) rfl q1k q1v (fun c0_ => some c0_))) (fin_out (o := (zo7 q1k q1v)) (x := zat q1k q1v) (d := default) (V := fun r => ((AV.v (TV.one (At.bool r))), [])) (fun r => rfl) hp)
  · cases hp)
noncomputable def z4d : List PT → Option (Bool × AV × List Blk)
  | [.one (.row 1 q1k (.fl .f32 q1v))] => some ((z9m q1k q1v), ((AV.v (TV.one (At.bool (z9b q1k q1v)))), []))
  | _ => none
def zmr (q1k : Nat) (q1v : List Nat) : Option (Bool) → Option (AV × List Blk)
  | some r => some ((AV.v (TV.one (At.bool r))), [])
  | none => none
theorem zse (q1k : Nat) (q1v : List Nat) : evFn Γ7 8 8 88 (impTs 0 [.one (.row 1 q1k (.fl .f32 q1v))]).1 (impTs 0 [.one (.row 1 q1k (.fl .f32 q1v))]).2 (expo (impTs 0 [.one (.row 1 q1k (.fl .f32 q1v))]).2.length) = zb7 q1k q1v (fun c0_ => some ((AV.v (TV.one (At.bool c0_))), [])) := by kernel_rfl
theorem z42 : SumOne Try.prog 88 z4d := sum_of (Γ := Γ7) (fuel := 8) (d := 8) tyTab_ok (FnL.ok fnTab_ok _ _) (LpL.ok lt7_ok) (SumL.ok tb7_ok _) mixed (by
  intro pts v news hp hc
  clear hc
  unfold z4d at hp
  split at hp
  · rename_i q1k q1v
    exact Eq.trans (Eq.trans (zse q1k q1v) (zox (zmr q1k q1v) rfl q1k q1v (fun c0_ => some c0_))) (fin_out (o := (zmr q1k q1v)) (x := z7n q1k q1v) (d := default) (V := fun r => ((AV.v (TV.one (At.bool r))), [])) (fun r => rfl) hp)
  · cases hp)
noncomputable def z64 : List PT → Option (Bool × AV × List Blk)
  | [.one (.row 1 q1k (.fl .f32 q1v))] => some ((zki q1k q1v), ((AV.v (TV.one (At.bool (zjt q1k q1v)))), []))
  | _ => none
def zoo (q1k : Nat) (q1v : List Nat) : Option (Bool) → Option (AV × List Blk)
  | some r => some ((AV.v (TV.one (At.bool r))), [])
  | none => none
theorem zv4 (q1k : Nat) (q1v : List Nat) : evFn Γ7 8 8 97 (impTs 0 [.one (.row 1 q1k (.fl .f32 q1v))]).1 (impTs 0 [.one (.row 1 q1k (.fl .f32 q1v))]).2 (expo (impTs 0 [.one (.row 1 q1k (.fl .f32 q1v))]).2.length) = ze0 q1k q1v (fun c0_ => some ((AV.v (TV.one (At.bool c0_))), [])) := by kernel_rfl
theorem z5m : SumOne Try.prog 97 z64 := sum_of (Γ := Γ7) (fuel := 8) (d := 8) tyTab_ok (FnL.ok fnTab_ok _ _) (LpL.ok lt7_ok) (SumL.ok tb7_ok _) mixed (by
  intro pts v news hp hc
  clear hc
  unfold z64 at hp
  split at hp
  · rename_i q1k q1v
    exact Eq.trans (Eq.trans (zv4 q1k q1v) (zrr (zoo q1k q1v) rfl q1k q1v (fun c0_ => some c0_))) (fin_out (o := (zoo q1k q1v)) (x := zds q1k q1v) (d := default) (V := fun r => ((AV.v (TV.one (At.bool r))), [])) (fun r => rfl) hp)
  · cases hp)
noncomputable def z5i : List PT → Option (Bool × AV × List Blk)
  | [.one (.s (.flt .f32 x))] => some ((z8m x), ((AV.v (TV.one (At.flt FloatKind.f32 (z63 x)))), []))
  | _ => none
def zno (x : Nat) : Option (Nat) → Option (AV × List Blk)
  | some r => some ((AV.v (TV.one (At.flt FloatKind.f32 r))), [])
  | none => none
theorem zud (x : Nat) : evFn Γ7 8 8 109 (impTs 0 [.one (.s (.flt .f32 x))]).1 (impTs 0 [.one (.s (.flt .f32 x))]).2 (expo (impTs 0 [.one (.s (.flt .f32 x))]).2.length) = zde x (fun c0_ => some ((AV.v (TV.one (At.flt FloatKind.f32 c0_))), [])) := by kernel_rfl
theorem z57 : SumOne Try.prog 109 z5i := sum_of (Γ := Γ7) (fuel := 8) (d := 8) tyTab_ok (FnL.ok fnTab_ok _ _) (LpL.ok lt7_ok) (SumL.ok tb7_ok _) mixed (by
  intro pts v news hp hc
  clear hc
  unfold z5i at hp
  split at hp
  · rename_i x
    exact Eq.trans (Eq.trans (zud x) (zqr (zno x) rfl x (fun c0_ => some c0_))) (fin_out (o := (zno x)) (x := zd1 x) (d := default) (V := fun r => ((AV.v (TV.one (At.flt FloatKind.f32 r))), [])) (fun r => rfl) hp)
  · cases hp)
noncomputable def z7f : List PT → Option (Bool × AV × List Blk)
  | [.ptr [.row 1 q00 (.fl .f32 q07), .row 1 q01 (.fl .f32 q09), .row 1 q02 (.fl .f32 q08), .row 3 q03 (.fl .f32 q0d), .s (.int .i64 q0g), .s (.flt .f32 q0i), .s (.flt .f32 q0j)]] => some ((zm2 q00 q07 q01 q09 q02 q08 q03 q0d q0g q0i q0j), ((AV.v (TV.one (At.bool (zls q00 q07 q01 q09 q02 q08 q03 q0d q0g q0i q0j)))), []))
  | _ => none
def zso (q00 : Nat) (q07 : List Nat) (q01 : Nat) (q09 : List Nat) (q02 : Nat) (q08 : List Nat) (q03 : Nat) (q0d : List Nat) (q0g : Int) (q0i : Nat) (q0j : Nat) : Option (Bool) → Option (AV × List Blk)
  | some r => some ((AV.v (TV.one (At.bool r))), [])
  | none => none
theorem zwp (q00 : Nat) (q07 : List Nat) (q01 : Nat) (q09 : List Nat) (q02 : Nat) (q08 : List Nat) (q03 : Nat) (q0d : List Nat) (q0g : Int) (q0i : Nat) (q0j : Nat) : evFn Γ7 8 8 161 (impTs 0 [.ptr [.row 1 q00 (.fl .f32 q07), .row 1 q01 (.fl .f32 q09), .row 1 q02 (.fl .f32 q08), .row 3 q03 (.fl .f32 q0d), .s (.int .i64 q0g), .s (.flt .f32 q0i), .s (.flt .f32 q0j)]]).1 (impTs 0 [.ptr [.row 1 q00 (.fl .f32 q07), .row 1 q01 (.fl .f32 q09), .row 1 q02 (.fl .f32 q08), .row 3 q03 (.fl .f32 q0d), .s (.int .i64 q0g), .s (.flt .f32 q0i), .s (.flt .f32 q0j)]]).2 (expo (impTs 0 [.ptr [.row 1 q00 (.fl .f32 q07), .row 1 q01 (.fl .f32 q09), .row 1 q02 (.fl .f32 q08), .row 3 q03 (.fl .f32 q0d), .s (.int .i64 q0g), .s (.flt .f32 q0i), .s (.flt .f32 q0j)]]).2.length) = zj5 q00 q07 q01 q09 q02 q08 q03 q0d q0g q0i q0j (fun c0_ => some ((AV.v (TV.one (At.bool c0_))), [])) := by kernel_rfl
theorem z6o : SumOne Try.prog 161 z7f := sum_of (Γ := Γ7) (fuel := 8) (d := 8) tyTab_ok (FnL.ok fnTab_ok _ _) (LpL.ok lt7_ok) (SumL.ok tb7_ok _) mixed (by
  intro pts v news hp hc
  clear hc
  unfold z7f at hp
  split at hp
  · rename_i q00 q07 q01 q09 q02 q08 q03 q0d q0g q0i q0j
    exact Eq.trans (Eq.trans (zwp q00 q07 q01 q09 q02 q08 q03 q0d q0g q0i q0j) (zut (zso q00 q07 q01 q09 q02 q08 q03 q0d q0g q0i q0j) rfl q00 q07 q01 q09 q02 q08 q03 q0d q0g q0i q0j (fun c0_ => some c0_))) (fin_out (o := (zso q00 q07 q01 q09 q02 q08 q03 q0d q0g q0i q0j)) (x := zik q00 q07 q01 q09 q02 q08 q03 q0d q0g q0i q0j) (d := default) (V := fun r => ((AV.v (TV.one (At.bool r))), [])) (fun r => rfl) hp)
  · cases hp)
noncomputable def tb8 : List (Nat × (List PT → Option (Bool × AV × List Blk))) := [(156, z0y), (181, z1f), (182, z23), (189, z25), (26, z2u), (55, z2f), (84, z13), (89, z45), (102, z6f), (112, z21), (115, z2e), (123, z2s), (126, z4t), (157, z6b), (160, z22), (162, z4x), (167, z2c), (175, z44), (176, z1q), (187, z2d), (74, z3p), (83, z12), (85, z4k), (90, z3q), (103, z4j), (111, z2q), (116, z33), (117, z4i), (138, z35), (148, z1z), (150, z1e), (169, z2p), (185, z34), (52, z49), (154, z2n), (158, z5w), (166, z2o), (104, z30), (119, z3c), (120, z2w), (168, z2x), (188, z2j), (54, z5c), (121, z3t), (122, z3b), (165, z5a), (178, z0b), (178, z06), (184, z6c), (56, z5t), (170, z6m), (178, z0i), (105, z7m), (124, z4v), (147, z0e), (147, z08), (147, z0h), (198, z67), (77, z5g), (88, z4d), (97, z64), (109, z5i), (161, z7f)]
noncomputable def lt8 : List ((Nat × Nat) × (Nat → St → Option (Bool × LO))) := [((166, 3), z1b), ((120, 3), z1m), ((168, 4), z1l), ((188, 17), z16), ((122, 4), z1u), ((178, 2), z04), ((178, 2), z02), ((184, 5), z3v), ((178, 2), z07), ((105, 9), z5q), ((161, 6), z5p)]
noncomputable def Γ8 : Ctx := ⟨tyTab, fnTab, tblSum tb8, tblLp lt8⟩
theorem tb8_ok : SumL Try.prog tb8 := SumL.cons z0t (SumL.cons z17 (SumL.cons z1o (SumL.cons z1p (SumL.cons z2a (SumL.cons z1w (SumL.cons z0z (SumL.cons z31 (SumL.cons z53 (SumL.cons z1i (SumL.cons z1x (SumL.cons z2b (SumL.cons z3i (SumL.cons z54 (SumL.cons z1k (SumL.cons z3k (SumL.cons z1y (SumL.cons z32 (SumL.cons z1a (SumL.cons z1v (SumL.cons z2y (SumL.cons z11 (SumL.cons z3h (SumL.cons z2z (SumL.cons z3g (SumL.cons z28 (SumL.cons z2l (SumL.cons z3e (SumL.cons z2m (SumL.cons z1h (SumL.cons z19 (SumL.cons z27 (SumL.cons z2k (SumL.cons z39 (SumL.cons z26 (SumL.cons z4h (SumL.cons z24 (SumL.cons z2g (SumL.cons z2r (SumL.cons z2h (SumL.cons z2i (SumL.cons z29 (SumL.cons z4b (SumL.cons z36 (SumL.cons z2v (SumL.cons z4e (SumL.cons z0f (SumL.cons z09 (SumL.cons z5l (SumL.cons z4q (SumL.cons z65 (SumL.cons z0m (SumL.cons z6r (SumL.cons z4f (SumL.cons z0k (SumL.cons z0g (SumL.cons z0l (SumL.cons z5k (SumL.cons z56 (SumL.cons z42 (SumL.cons z5m (SumL.cons z57 (SumL.cons z6o (SumL.nil)))))))))))))))))))))))))))))))))))))))))))))))))))))))))))))))
theorem lt8_ok : LpL Try.prog fnTab lt8 := LpL.cons z18 (LpL.cons z1d (LpL.cons z1c (LpL.cons z14 (LpL.cons z1n (LpL.cons z05 (LpL.cons z03 (LpL.cons z38 (LpL.cons z0a (LpL.cons z4p (LpL.cons z4w (LpL.nil)))))))))))
noncomputable def z5h : List PT → Option (Bool × AV × List Blk)
  | [.one (.s (.flt .f32 x)), .one (.s (.flt .f32 y))] => some ((zec x y), ((AV.tup [(TV.one (At.flt FloatKind.f32 (zdo x y))), (TV.one (At.flt FloatKind.f32 (zdn x y))), (TV.one (At.bool (zdl x y)))]), []))
  | _ => none
def zn7 (x : Nat) (y : Nat) : Option (Nat × Nat × Bool) → Option (AV × List Blk)
  | some r => some ((AV.tup [(TV.one (At.flt FloatKind.f32 r.1)), (TV.one (At.flt FloatKind.f32 r.2.1)), (TV.one (At.bool r.2.2))]), [])
  | none => none
theorem ztr (x : Nat) (y : Nat) : evFn Γ8 8 8 79 (impTs 0 [.one (.s (.flt .f32 x)), .one (.s (.flt .f32 y))]).1 (impTs 0 [.one (.s (.flt .f32 x)), .one (.s (.flt .f32 y))]).2 (expo (impTs 0 [.one (.s (.flt .f32 x)), .one (.s (.flt .f32 y))]).2.length) = zce x y (fun c0_ c1_ c2_ => some ((AV.tup [(TV.one (At.flt FloatKind.f32 c0_)), (TV.one (At.flt FloatKind.f32 c1_)), (TV.one (At.bool c2_))]), [])) := by kernel_rfl
theorem z58 : SumOne Try.prog 79 z5h := sum_of (Γ := Γ8) (fuel := 8) (d := 8) tyTab_ok (FnL.ok fnTab_ok _ _) (LpL.ok lt8_ok) (SumL.ok tb8_ok _) mixed (by
  intro pts v news hp hc
  clear hc
  unfold z5h at hp
  split at hp
  · rename_i x y
    exact Eq.trans (Eq.trans (ztr x y) (zpj (zn7 x y) rfl x y (fun c0_ c1_ c2_ => some (c0_, c1_, c2_)))) (fin_out (o := (zn7 x y)) (x := z95 x y) (d := default) (V := fun r => ((AV.tup [(TV.one (At.flt FloatKind.f32 r.1)), (TV.one (At.flt FloatKind.f32 r.2.1)), (TV.one (At.bool r.2.2))]), [])) (fun r => rfl) hp)
  · cases hp)
noncomputable def z3f : List PT → Option (Bool × AV × List Blk)
  | [.agg [.row 1 q04 (.fl .f32 q0a), .row 1 q05 (.fl .f32 q0c), .row 1 q06 (.fl .f32 q0b), .row 3 q0e (.fl .f32 q0h), .s (.int .i64 q0l), .s (.flt .f32 q0n), .s (.flt .f32 q0m)], .one (.s (.int .i64 i)), .one (.s (.flt .f32 q15))] => some ((zdt q04 q0a q05 q0c q06 q0b q0e q0h q0l q0n q0m i q15), ((AV.v (TV.one (At.flt FloatKind.f32 (zak q04 q0a q05 q0c q06 q0b q0e q0h q0l q0n q0m i q15)))), []))
  | _ => none
def zlz (q04 : Nat) (q0a : List Nat) (q05 : Nat) (q0c : List Nat) (q06 : Nat) (q0b : List Nat) (q0e : Nat) (q0h : List Nat) (q0l : Int) (q0n : Nat) (q0m : Nat) (i : Int) (q15 : Nat) : Option (Nat) → Option (AV × List Blk)
  | some r => some ((AV.v (TV.one (At.flt FloatKind.f32 r))), [])
  | none => none
theorem zq2 (q04 : Nat) (q0a : List Nat) (q05 : Nat) (q0c : List Nat) (q06 : Nat) (q0b : List Nat) (q0e : Nat) (q0h : List Nat) (q0l : Int) (q0n : Nat) (q0m : Nat) (i : Int) (q15 : Nat) : evFn Γ8 8 8 86 (impTs 0 [.agg [.row 1 q04 (.fl .f32 q0a), .row 1 q05 (.fl .f32 q0c), .row 1 q06 (.fl .f32 q0b), .row 3 q0e (.fl .f32 q0h), .s (.int .i64 q0l), .s (.flt .f32 q0n), .s (.flt .f32 q0m)], .one (.s (.int .i64 i)), .one (.s (.flt .f32 q15))]).1 (impTs 0 [.agg [.row 1 q04 (.fl .f32 q0a), .row 1 q05 (.fl .f32 q0c), .row 1 q06 (.fl .f32 q0b), .row 3 q0e (.fl .f32 q0h), .s (.int .i64 q0l), .s (.flt .f32 q0n), .s (.flt .f32 q0m)], .one (.s (.int .i64 i)), .one (.s (.flt .f32 q15))]).2 (expo (impTs 0 [.agg [.row 1 q04 (.fl .f32 q0a), .row 1 q05 (.fl .f32 q0c), .row 1 q06 (.fl .f32 q0b), .row 3 q0e (.fl .f32 q0h), .s (.int .i64 q0l), .s (.flt .f32 q0n), .s (.flt .f32 q0m)], .one (.s (.int .i64 i)), .one (.s (.flt .f32 q15))]).2.length) = z9k q04 q0a q05 q0c q06 q0b q0e q0h q0l q0n q0m i q15 (fun c0_ => some ((AV.v (TV.one (At.flt FloatKind.f32 c0_))), [])) := by kernel_rfl
theorem z3d : SumOne Try.prog 86 z3f := sum_of (Γ := Γ8) (fuel := 8) (d := 8) tyTab_ok (FnL.ok fnTab_ok _ _) (LpL.ok lt8_ok) (SumL.ok tb8_ok _) mixed (by
  intro pts v news hp hc
  clear hc
  unfold z3f at hp
  split at hp
  · rename_i q04 q0a q05 q0c q06 q0b q0e q0h q0l q0n q0m i q15
    exact Eq.trans (Eq.trans (zq2 q04 q0a q05 q0c q06 q0b q0e q0h q0l q0n q0m i q15) (zne (zlz q04 q0a q05 q0c q06 q0b q0e q0h q0l q0n q0m i q15) rfl q04 q0a q05 q0c q06 q0b q0e q0h q0l q0n q0m i q15 (fun c0_ => some c0_))) (fin_out (o := (zlz q04 q0a q05 q0c q06 q0b q0e q0h q0l q0n q0m i q15)) (x := z9i q04 q0a q05 q0c q06 q0b q0e q0h q0l q0n q0m i q15) (d := default) (V := fun r => ((AV.v (TV.one (At.flt FloatKind.f32 r))), [])) (fun r => rfl) hp)
  · cases hp)
noncomputable def z5f : List PT → Option (Bool × AV × List Blk)
  | [.ptr [.row 1 q04 (.fl .f32 q0a), .row 1 q05 (.fl .f32 q0c), .row 1 q06 (.fl .f32 q0b), .row 3 q0e (.fl .f32 q0h), .s (.int .i64 q0l), .s (.flt .f32 q0n), .s (.flt .f32 q0m)], .one (.s (.int .i64 i))] => some ((zib q04 q0a q05 q0c q06 q0b q0e q0h q0l q0n q0m i), ((AV.v (TV.one (At.bool (zh6 q04 q0a q05 q0c q06 q0b q0e q0h q0l q0n q0m i)))), []))
  | _ => none
def znb (q04 : Nat) (q0a : List Nat) (q05 : Nat) (q0c : List Nat) (q06 : Nat) (q0b : List Nat) (q0e : Nat) (q0h : List Nat) (q0l : Int) (q0n : Nat) (q0m : Nat) (i : Int) : Option (Bool) → Option (AV × List Blk)
  | some r => some ((AV.v (TV.one (At.bool r))), [])
  | none => none
theorem zu2 (q04 : Nat) (q0a : List Nat) (q05 : Nat) (q0c : List Nat) (q06 : Nat) (q0b : List Nat) (q0e : Nat) (q0h : List Nat) (q0l : Int) (q0n : Nat) (q0m : Nat) (i : Int) : evFn Γ8 8 8 113 (impTs 0 [.ptr [.row 1 q04 (.fl .f32 q0a), .row 1 q05 (.fl .f32 q0c), .row 1 q06 (.fl .f32 q0b), .row 3 q0e (.fl .f32 q0h), .s (.int .i64 q0l), .s (.flt .f32 q0n), .s (.flt .f32 q0m)], .one (.s (.int .i64 i))]).1 (impTs 0 [.ptr [.row 1 q04 (.fl .f32 q0a), .row 1 q05 (.fl .f32 q0c), .row 1 q06 (.fl .f32 q0b), .row 3 q0e (.fl .f32 q0h), .s (.int .i64 q0l), .s (.flt .f32 q0n), .s (.flt .f32 q0m)], .one (.s (.int .i64 i))]).2 (expo (impTs 0 [.ptr [.row 1 q04 (.fl .f32 q0a), .row 1 q05 (.fl .f32 q0c), .row 1 q06 (.fl .f32 q0b), .row 3 q0e (.fl .f32 q0h), .s (.int .i64 q0l), .s (.flt .f32 q0n), .s (.flt .f32 q0m)], .one (.s (.int .i64 i))]).2.length) = zc1 q04 q0a q05 q0c q06 q0b q0e q0h q0l q0n q0m i (fun c0_ => some ((AV.v (TV.one (At.bool c0_))), [])) := by kernel_rfl
theorem z59 : SumOne Try.prog 113 z5f := sum_of (Γ := Γ8) (fuel := 8) (d := 8) tyTab_ok (FnL.ok fnTab_ok _ _) (LpL.ok lt8_ok) (SumL.ok tb8_ok _) mixed (by
  intro pts v news hp hc
  clear hc
  unfold z5f at hp
  split at hp
  · rename_i q04 q0a q05 q0c q06 q0b q0e q0h q0l q0n q0m i
    exact Eq.trans (Eq.trans (zu2 q04 q0a q05 q0c q06 q0b q0e q0h q0l q0n q0m i) (zq5 (znb q04 q0a q05 q0c q06 q0b q0e q0h q0l q0n q0m i) rfl q04 q0a q05 q0c q06 q0b q0e q0h q0l q0n q0m i (fun c0_ => some c0_))) (fin_out (o := (znb q04 q0a q05 q0c q06 q0b q0e q0h q0l q0n q0m i)) (x := zbr q04 q0a q05 q0c q06 q0b q0e q0h q0l q0n q0m i) (d := default) (V := fun r => ((AV.v (TV.one (At.bool r))), [])) (fun r => rfl) hp)
  · cases hp)
noncomputable def z0j : Nat → St → Option (Bool × LO)
  | 5, (St.mk [(0, (AV.v (TV.one (At.vw 0 0 sn 1)))), (1, (AV.v (TV.one (At.fn 179 [(At.ptr 4 0 1)])))), (7, (AV.v (TV.one (At.int IntKind.i64 t7)))), (8, (AV.v (TV.one (At.int IntKind.i64 t8))))] [(Blk.mk Bool.false (Body.fl FloatKind.f32 b0)), (Blk.mk Bool.false (Body.fl FloatKind.f32 b1)), (Blk.mk Bool.false (Body.fl FloatKind.f32 b2)), (Blk.mk Bool.true (Body.cells [(At.vw 0 0 q1e 1), (At.vw 1 0 q1u 1), (At.vw 2 0 q1t 1)])), (Blk.mk Bool.true (Body.cells [(At.flt FloatKind.f32 b4)]))]) => some ((z3x sn t7 b0 b4 t8), (LO.two (z3r sn t7 b0 b4 t8) (LO.one Ex.ret (St.mk [(4, (AV.v (TV.one (At.int IntKind.i64 (z0s sn t7 b0 b4 t8)))))] [(Blk.mk Bool.false (Body.fl FloatKind.f32 b0)), (Blk.mk Bool.false (Body.fl FloatKind.f32 b1)), (Blk.mk Bool.false (Body.fl FloatKind.f32 b2)), (Blk.mk Bool.true (Body.cells [(At.vw 0 0 q1e 1), (At.vw 1 0 q1u 1), (At.vw 2 0 q1t 1)])), (Blk.mk Bool.true (Body.cells [(At.flt FloatKind.f32 b4)]))])) (LO.one (Ex.exit 0) (St.mk [(0, (AV.v (TV.one (At.vw 0 0 sn 1)))), (1, (AV.v (TV.one (At.fn 179 [(At.ptr 4 0 1)])))), (7, (AV.v (TV.one (At.int IntKind.i64 t7)))), (8, (AV.v (TV.one (At.int IntKind.i64 (z7t sn t7 b0 b4 t8))))), (9, (AV.v (TV.one (At.bool (z7v sn t7 b0 b4 t8)))))] [(Blk.mk Bool.false (Body.fl FloatKind.f32 b0)), (Blk.mk Bool.false (Body.fl FloatKind.f32 b1)), (Blk.mk Bool.false (Body.fl FloatKind.f32 b2)), (Blk.mk Bool.true (Body.cells [(At.vw 0 0 q1e 1), (At.vw 1 0 q1u 1), (At.vw 2 0 q1t 1)])), (Blk.mk Bool.true (Body.cells [(At.flt FloatKind.f32 b4)]))]))))
  | _, _ => none
def z5n (sn : Nat) (t7 : Int) (b0 : List Nat) (b1 : List Nat) (b2 : List Nat) (q1e : Nat) (q1u : Nat) (q1t : Nat) (b4 : Nat) : Option ((Int) ⊕ (Int × Bool)) → Option (Ex × St)
  | none => none
  | some (Sum.inl r) => some (Ex.ret, (St.mk [(4, (AV.v (TV.one (At.int IntKind.i64 r))))] [(Blk.mk Bool.false (Body.fl FloatKind.f32 b0)), (Blk.mk Bool.false (Body.fl FloatKind.f32 b1)), (Blk.mk Bool.false (Body.fl FloatKind.f32 b2)), (Blk.mk Bool.true (Body.cells [(At.vw 0 0 q1e 1), (At.vw 1 0 q1u 1), (At.vw 2 0 q1t 1)])), (Blk.mk Bool.true (Body.cells [(At.flt FloatKind.f32 b4)]))]))
  | some (Sum.inr r) => some ((Ex.exit 0), (St.mk [(0, (AV.v (TV.one (At.vw 0 0 sn 1)))), (1, (AV.v (TV.one (At.fn 179 [(At.ptr 4 0 1)])))), (7, (AV.v (TV.one (At.int IntKind.i64 t7)))), (8, (AV.v (TV.one (At.int IntKind.i64 r.1)))), (9, (AV.v (TV.one (At.bool r.2))))] [(Blk.mk Bool.false (Body.fl FloatKind.f32 b0)), (Blk.mk Bool.false (Body.fl FloatKind.f32 b1)), (Blk.mk Bool.false (Body.fl FloatKind.f32 b2)), (Blk.mk Bool.true (Body.cells [(At.vw 0 0 q1e 1), (At.vw 1 0 q1u 1), (At.vw 2 0 q1t 1)])), (Blk.mk Bool.true (Body.cells [(At.flt FloatKind.f32 b4)]))]))
def zg3 (sn : Nat) (t7 : Int) (b0 : List Nat) (b1 : List Nat) (b2 : List Nat) (q1e : Nat) (q1u : Nat) (q1t : Nat) (b4 : Nat) (x : Option ((Int) ⊕ (Int × Bool))) : LO := (LO.two (oL x) (LO.one Ex.ret (St.mk [(4, (AV.v (TV.one (At.int IntKind.i64 ((tL x).getD default)))))] [(Blk.mk Bool.false (Body.fl FloatKind.f32 b0)), (Blk.mk Bool.false (Body.fl FloatKind.f32 b1)), (Blk.mk Bool.false (Body.fl FloatKind.f32 b2)), (Blk.mk Bool.true (Body.cells [(At.vw 0 0 q1e 1), (At.vw 1 0 q1u 1), (At.vw 2 0 q1t 1)])), (Blk.mk Bool.true (Body.cells [(At.flt FloatKind.f32 b4)]))])) (LO.one (Ex.exit 0) (St.mk [(0, (AV.v (TV.one (At.vw 0 0 sn 1)))), (1, (AV.v (TV.one (At.fn 179 [(At.ptr 4 0 1)])))), (7, (AV.v (TV.one (At.int IntKind.i64 t7)))), (8, (AV.v (TV.one (At.int IntKind.i64 ((tR x).getD default).1)))), (9, (AV.v (TV.one (At.bool ((tR x).getD default).2))))] [(Blk.mk Bool.false (Body.fl FloatKind.f32 b0)), (Blk.mk Bool.false (Body.fl FloatKind.f32 b1)), (Blk.mk Bool.false (Body.fl FloatKind.f32 b2)), (Blk.mk Bool.true (Body.cells [(At.vw 0 0 q1e 1), (At.vw 1 0 q1u 1), (At.vw 2 0 q1t 1)])), (Blk.mk Bool.true (Body.cells [(At.flt FloatKind.f32 b4)]))])))
theorem zgu (sn : Nat) (t7 : Int) (b0 : List Nat) (b1 : List Nat) (b2 : List Nat) (q1e : Nat) (q1u : Nat) (q1t : Nat) (b4 : Nat) : ∀ x : Option ((Int) ⊕ (Int × Bool)), x.isSome = true → (z5n sn t7 b0 b1 b2 q1e q1u q1t b4) x = some (pick (zg3 sn t7 b0 b1 b2 q1e q1u q1t b4 x))
  | none, h => by cases h
  | some (Sum.inl r), _ => rfl
  | some (Sum.inr r), _ => rfl
theorem zgq (sn : Nat) (t7 : Int) (t8 : Int) (b0 : List Nat) (b1 : List Nat) (b2 : List Nat) (q1e : Nat) (q1u : Nat) (q1t : Nat) (b4 : Nat) (K : Ex → St → Option (Ex × St)) : evC (R := Ex × St) Γ8 (evFn Γ8 8 8) 178 5 fi178.nt fi178.live fi178.nl 8 (findL 2 (loopsIn fi178.code)) (St.mk [(0, (AV.v (TV.one (At.vw 0 0 sn 1)))), (1, (AV.v (TV.one (At.fn 179 [(At.ptr 4 0 1)])))), (7, (AV.v (TV.one (At.int IntKind.i64 t7)))), (8, (AV.v (TV.one (At.int IntKind.i64 t8))))] [(Blk.mk Bool.false (Body.fl FloatKind.f32 b0)), (Blk.mk Bool.false (Body.fl FloatKind.f32 b1)), (Blk.mk Bool.false (Body.fl FloatKind.f32 b2)), (Blk.mk Bool.true (Body.cells [(At.vw 0 0 q1e 1), (At.vw 1 0 q1u 1), (At.vw 2 0 q1t 1)])), (Blk.mk Bool.true (Body.cells [(At.flt FloatKind.f32 b4)]))]) K = z1g sn t7 b0 b4 t8 (fun t8' => K .normal (St.mk [(0, (AV.v (TV.one (At.vw 0 0 sn 1)))), (1, (AV.v (TV.one (At.fn 179 [(At.ptr 4 0 1)])))), (7, (AV.v (TV.one (At.int IntKind.i64 t7)))), (8, (AV.v (TV.one (At.int IntKind.i64 t8'))))] [(Blk.mk Bool.false (Body.fl FloatKind.f32 b0)), (Blk.mk Bool.false (Body.fl FloatKind.f32 b1)), (Blk.mk Bool.false (Body.fl FloatKind.f32 b2)), (Blk.mk Bool.true (Body.cells [(At.vw 0 0 q1e 1), (At.vw 1 0 q1u 1), (At.vw 2 0 q1t 1)])), (Blk.mk Bool.true (Body.cells [(At.flt FloatKind.f32 b4)]))])) (fun c0_ => K Ex.ret (St.mk [(4, (AV.v (TV.one (At.int IntKind.i64 c0_))))] [(Blk.mk Bool.false (Body.fl FloatKind.f32 b0)), (Blk.mk Bool.false (Body.fl FloatKind.f32 b1)), (Blk.mk Bool.false (Body.fl FloatKind.f32 b2)), (Blk.mk Bool.true (Body.cells [(At.vw 0 0 q1e 1), (At.vw 1 0 q1u 1), (At.vw 2 0 q1t 1)])), (Blk.mk Bool.true (Body.cells [(At.flt FloatKind.f32 b4)]))])) (fun c0_ c1_ => K (Ex.exit 0) (St.mk [(0, (AV.v (TV.one (At.vw 0 0 sn 1)))), (1, (AV.v (TV.one (At.fn 179 [(At.ptr 4 0 1)])))), (7, (AV.v (TV.one (At.int IntKind.i64 t7)))), (8, (AV.v (TV.one (At.int IntKind.i64 c0_)))), (9, (AV.v (TV.one (At.bool c1_))))] [(Blk.mk Bool.false (Body.fl FloatKind.f32 b0)), (Blk.mk Bool.false (Body.fl FloatKind.f32 b1)), (Blk.mk Bool.false (Body.fl FloatKind.f32 b2)), (Blk.mk Bool.true (Body.cells [(At.vw 0 0 q1e 1), (At.vw 1 0 q1u 1), (At.vw 2 0 q1t 1)])), (Blk.mk Bool.true (Body.cells [(At.flt FloatKind.f32 b4)]))])) := by kernel_rfl
theorem zhd (sn : Nat) (t7 : Int) (b0 : List Nat) (b1 : List Nat) (b2 : List Nat) (q1e : Nat) (q1u : Nat) (q1t : Nat) (b4 : Nat) : ∀ (n : Nat) (t8 : Int), iter 178 2 5 (evC (R := Ex × St) Γ8 (evFn Γ8 8 8) 178 5 fi178.nt fi178.live fi178.nl 8 (findL 2 (loopsIn fi178.code))) n (St.mk [(0, (AV.v (TV.one (At.vw 0 0 sn 1)))), (1, (AV.v (TV.one (At.fn 179 [(At.ptr 4 0 1)])))), (7, (AV.v (TV.one (At.int IntKind.i64 t7)))), (8, (AV.v (TV.one (At.int IntKind.i64 t8))))] [(Blk.mk Bool.false (Body.fl FloatKind.f32 b0)), (Blk.mk Bool.false (Body.fl FloatKind.f32 b1)), (Blk.mk Bool.false (Body.fl FloatKind.f32 b2)), (Blk.mk Bool.true (Body.cells [(At.vw 0 0 q1e 1), (At.vw 1 0 q1u 1), (At.vw 2 0 q1t 1)])), (Blk.mk Bool.true (Body.cells [(At.flt FloatKind.f32 b4)]))]) (fun e st => some (e, st)) = (z5n sn t7 b0 b1 b2 q1e q1u q1t b4) (z0c sn t7 b0 b4 n t8) := by
  intro n
  induction n with
  | zero => intros; rfl
  | succ n ih =>
    intro t8
    refine Eq.trans (iter_succ ..) (Eq.trans (zgq sn t7 t8 b0 b1 b2 q1e q1u q1t b4 (nextK 178 2 5 (evC (R := Ex × St) Γ8 (evFn Γ8 8 8) 178 5 fi178.nt fi178.live fi178.nl 8 (findL 2 (loopsIn fi178.code))) n (fun e st => some (e, st)))) (Eq.trans ?_ (zfd (z5n sn t7 b0 b1 b2 q1e q1u q1t b4) rfl sn t7 b0 b4 t8 (fun t8' => z0c sn t7 b0 b4 n t8') (fun c0_ => some (Sum.inl c0_)) (fun c0_ c1_ => some (Sum.inr (c0_, c1_))))))
    exact congrArg (fun kn_ => z1g sn t7 b0 b4 t8 kn_ (fun c0_ => (z5n sn t7 b0 b1 b2 q1e q1u q1t b4) (some (Sum.inl c0_))) (fun c0_ c1_ => (z5n sn t7 b0 b1 b2 q1e q1u q1t b4) (some (Sum.inr (c0_, c1_))))) (funext fun t8' => ih t8')
theorem z0n : LoopOne Try.prog fnTab 178 2 z0j := lp_of (Γ := Γ8) tyTab_ok (FnL.ok fnTab_ok _ _) (LpL.ok lt8_ok) (SumL.ok tb8_ok _) mixed (fi := fi178) (by kernel_rfl) (by kernel_rfl) (by
  intro lo st out hp
  unfold z0j at hp
  split at hp
  · rename_i sn t7 t8 b0 b1 b2 q1e q1u q1t b4
    injection hp with hp
    injection hp with h1 h2
    subst h2
    exact ⟨8, 8, big, Eq.trans (zhd sn t7 b0 b1 b2 q1e q1u q1t b4 big t8) (zgu sn t7 b0 b1 b2 q1e q1u q1t b4 (z0c sn t7 b0 b4 big t8) h1)⟩
  · cases hp)
noncomputable def z5j : Nat → St → Option (Bool × LO)
  | 4, (St.mk [(0, (AV.v (TV.one (At.ptr 3 0 3)))), (8, (AV.v (TV.one (At.flt FloatKind.f32 t8)))), (9, (AV.v (TV.one (At.int IntKind.i64 t9)))), (10, (AV.v (TV.one (At.int IntKind.i64 t10))))] [(Blk.mk Bool.false (Body.fl FloatKind.f32 b0)), (Blk.mk Bool.false (Body.fl FloatKind.f32 b1)), (Blk.mk Bool.false (Body.fl FloatKind.f32 b2)), (Blk.mk Bool.false (Body.cells [(At.vw 0 0 q1e 1), (At.vw 1 0 q1u 1), (At.vw 2 0 q1t 1)]))]) => some ((zhz t8 b0 q1e t10), (LO.one (Ex.exit 0) (St.mk [(0, (AV.v (TV.one (At.ptr 3 0 3)))), (8, (AV.v (TV.one (At.flt FloatKind.f32 t8)))), (9, (AV.v (TV.one (At.int IntKind.i64 t9)))), (10, (AV.v (TV.one (At.int IntKind.i64 (z00 t8 b0 q1e t10))))), (36, (AV.v (TV.one (At.bool (zjk t8 b0 q1e t10)))))] [(Blk.mk Bool.false (Body.fl FloatKind.f32 b0)), (Blk.mk Bool.false (Body.fl FloatKind.f32 b1)), (Blk.mk Bool.false (Body.fl FloatKind.f32 b2)), (Blk.mk Bool.false (Body.cells [(At.vw 0 0 q1e 1), (At.vw 1 0 q1u 1), (At.vw 2 0 q1t 1)]))])))
  | _, _ => none
def zi0 (t8 : Nat) (t9 : Int) (b0 : List Nat) (b1 : List Nat) (b2 : List Nat) (q1e : Nat) (q1u : Nat) (q1t : Nat) : Option ((Int × Bool)) → Option (Ex × St)
  | none => none
  | some r => some ((Ex.exit 0), (St.mk [(0, (AV.v (TV.one (At.ptr 3 0 3)))), (8, (AV.v (TV.one (At.flt FloatKind.f32 t8)))), (9, (AV.v (TV.one (At.int IntKind.i64 t9)))), (10, (AV.v (TV.one (At.int IntKind.i64 r.1)))), (36, (AV.v (TV.one (At.bool r.2))))] [(Blk.mk Bool.false (Body.fl FloatKind.f32 b0)), (Blk.mk Bool.false (Body.fl FloatKind.f32 b1)), (Blk.mk Bool.false (Body.fl FloatKind.f32 b2)), (Blk.mk Bool.false (Body.cells [(At.vw 0 0 q1e 1), (At.vw 1 0 q1u 1), (At.vw 2 0 q1t 1)]))]))
def zt0 (t8 : Nat) (t9 : Int) (b0 : List Nat) (b1 : List Nat) (b2 : List Nat) (q1e : Nat) (q1u : Nat) (q1t : Nat) (x : Option ((Int × Bool))) : LO := (LO.one (Ex.exit 0) (St.mk [(0, (AV.v (TV.one (At.ptr 3 0 3)))), (8, (AV.v (TV.one (At.flt FloatKind.f32 t8)))), (9, (AV.v (TV.one (At.int IntKind.i64 t9)))), (10, (AV.v (TV.one (At.int IntKind.i64 (x.getD default).1)))), (36, (AV.v (TV.one (At.bool (x.getD default).2))))] [(Blk.mk Bool.false (Body.fl FloatKind.f32 b0)), (Blk.mk Bool.false (Body.fl FloatKind.f32 b1)), (Blk.mk Bool.false (Body.fl FloatKind.f32 b2)), (Blk.mk Bool.false (Body.cells [(At.vw 0 0 q1e 1), (At.vw 1 0 q1u 1), (At.vw 2 0 q1t 1)]))]))
theorem ztt (t8 : Nat) (t9 : Int) (b0 : List Nat) (b1 : List Nat) (b2 : List Nat) (q1e : Nat) (q1u : Nat) (q1t : Nat) : ∀ x : Option ((Int × Bool)), x.isSome = true → (zi0 t8 t9 b0 b1 b2 q1e q1u q1t) x = some (pick (zt0 t8 t9 b0 b1 b2 q1e q1u q1t x))
  | none, h => by cases h
  | some r, _ => rfl
theorem ztd (t8 : Nat) (t9 : Int) (t10 : Int) (b0 : List Nat) (b1 : List Nat) (b2 : List Nat) (q1e : Nat) (q1u : Nat) (q1t : Nat) (K : Ex → St → Option (Ex × St)) : evC (R := Ex × St) Γ8 (evFn Γ8 8 8) 193 4 fi193.nt fi193.live fi193.nl 8 (findL 4 (loopsIn fi193.code)) (St.mk [(0, (AV.v (TV.one (At.ptr 3 0 3)))), (8, (AV.v (TV.one (At.flt FloatKind.f32 t8)))), (9, (AV.v (TV.one (At.int IntKind.i64 t9)))), (10, (AV.v (TV.one (At.int IntKind.i64 t10))))] [(Blk.mk Bool.false (Body.fl FloatKind.f32 b0)), (Blk.mk Bool.false (Body.fl FloatKind.f32 b1)), (Blk.mk Bool.false (Body.fl FloatKind.f32 b2)), (Blk.mk Bool.false (Body.cells [(At.vw 0 0 q1e 1), (At.vw 1 0 q1u 1), (At.vw 2 0 q1t 1)]))]) K = z8q t8 b0 q1e t10 (fun t10' => K .normal (St.mk [(0, (AV.v (TV.one (At.ptr 3 0 3)))), (8, (AV.v (TV.one (At.flt FloatKind.f32 t8)))), (9, (AV.v (TV.one (At.int IntKind.i64 t9)))), (10, (AV.v (TV.one (At.int IntKind.i64 t10'))))] [(Blk.mk Bool.false (Body.fl FloatKind.f32 b0)), (Blk.mk Bool.false (Body.fl FloatKind.f32 b1)), (Blk.mk Bool.false (Body.fl FloatKind.f32 b2)), (Blk.mk Bool.false (Body.cells [(At.vw 0 0 q1e 1), (At.vw 1 0 q1u 1), (At.vw 2 0 q1t 1)]))])) (fun c0_ c1_ => K (Ex.exit 0) (St.mk [(0, (AV.v (TV.one (At.ptr 3 0 3)))), (8, (AV.v (TV.one (At.flt FloatKind.f32 t8)))), (9, (AV.v (TV.one (At.int IntKind.i64 t9)))), (10, (AV.v (TV.one (At.int IntKind.i64 c0_)))), (36, (AV.v (TV.one (At.bool c1_))))] [(Blk.mk Bool.false (Body.fl FloatKind.f32 b0)), (Blk.mk Bool.false (Body.fl FloatKind.f32 b1)), (Blk.mk Bool.false (Body.fl FloatKind.f32 b2)), (Blk.mk Bool.false (Body.cells [(At.vw 0 0 q1e 1), (At.vw 1 0 q1u 1), (At.vw 2 0 q1t 1)]))])) := by kernel_rfl
theorem zte (t8 : Nat) (t9 : Int) (b0 : List Nat) (b1 : List Nat) (b2 : List Nat) (q1e : Nat) (q1u : Nat) (q1t : Nat) : ∀ (n : Nat) (t10 : Int), iter 193 4 4 (evC (R := Ex × St) Γ8 (evFn Γ8 8 8) 193 4 fi193.nt fi193.live fi193.nl 8 (findL 4 (loopsIn fi193.code))) n (St.mk [(0, (AV.v (TV.one (At.ptr 3 0 3)))), (8, (AV.v (TV.one (At.flt FloatKind.f32 t8)))), (9, (AV.v (TV.one (At.int IntKind.i64 t9)))), (10, (AV.v (TV.one (At.int IntKind.i64 t10))))] [(Blk.mk Bool.false (Body.fl FloatKind.f32 b0)), (Blk.mk Bool.false (Body.fl FloatKind.f32 b1)), (Blk.mk Bool.false (Body.fl FloatKind.f32 b2)), (Blk.mk Bool.false (Body.cells [(At.vw 0 0 q1e 1), (At.vw 1 0 q1u 1), (At.vw 2 0 q1t 1)]))]) (fun e st => some (e, st)) = (zi0 t8 t9 b0 b1 b2 q1e q1u q1t) (z6t t8 b0 q1e n t10) := by
  intro n
  induction n with
  | zero => intros; rfl
  | succ n ih =>
    intro t10
    refine Eq.trans (iter_succ ..) (Eq.trans (ztd t8 t9 t10 b0 b1 b2 q1e q1u q1t (nextK 193 4 4 (evC (R := Ex × St) Γ8 (evFn Γ8 8 8) 193 4 fi193.nt fi193.live fi193.nl 8 (findL 4 (loopsIn fi193.code))) n (fun e st => some (e, st)))) (Eq.trans ?_ (zpk (zi0 t8 t9 b0 b1 b2 q1e q1u q1t) rfl t8 b0 q1e t10 (fun t10' => z6t t8 b0 q1e n t10') (fun c0_ c1_ => some (c0_, c1_)))))
    exact congrArg (fun kn_ => z8q t8 b0 q1e t10 kn_ (fun c0_ c1_ => (zi0 t8 t9 b0 b1 b2 q1e q1u q1t) (some (c0_, c1_)))) (funext fun t10' => ih t10')
theorem z5b : LoopOne Try.prog fnTab 193 4 z5j := lp_of (Γ := Γ8) tyTab_ok (FnL.ok fnTab_ok _ _) (LpL.ok lt8_ok) (SumL.ok tb8_ok _) mixed (fi := fi193) (by kernel_rfl) (by kernel_rfl) (by
  intro lo st out hp
  unfold z5j at hp
  split at hp
  · rename_i t8 t9 t10 b0 b1 b2 q1e q1u q1t
    injection hp with hp
    injection hp with h1 h2
    subst h2
    exact ⟨8, 8, big, Eq.trans (zte t8 t9 b0 b1 b2 q1e q1u q1t big t10) (ztt t8 t9 b0 b1 b2 q1e q1u q1t (z6t t8 b0 q1e big t10) h1)⟩
  · cases hp)
noncomputable def tb9 : List (Nat × (List PT → Option (Bool × AV × List Blk))) := [(156, z0y), (181, z1f), (182, z23), (189, z25), (26, z2u), (55, z2f), (84, z13), (89, z45), (102, z6f), (112, z21), (115, z2e), (123, z2s), (126, z4t), (157, z6b), (160, z22), (162, z4x), (167, z2c), (175, z44), (176, z1q), (187, z2d), (74, z3p), (83, z12), (85, z4k), (90, z3q), (103, z4j), (111, z2q), (116, z33), (117, z4i), (138, z35), (148, z1z), (150, z1e), (169, z2p), (185, z34), (52, z49), (154, z2n), (158, z5w), (166, z2o), (104, z30), (119, z3c), (120, z2w), (168, z2x), (188, z2j), (54, z5c), (121, z3t), (122, z3b), (165, z5a), (178, z0b), (178, z06), (184, z6c), (56, z5t), (170, z6m), (178, z0i), (105, z7m), (124, z4v), (147, z0e), (147, z08), (147, z0h), (198, z67), (77, z5g), (88, z4d), (97, z64), (109, z5i), (161, z7f), (79, z5h), (86, z3f), (113, z5f)]
noncomputable def lt9 : List ((Nat × Nat) × (Nat → St → Option (Bool × LO))) := [((166, 3), z1b), ((120, 3), z1m), ((168, 4), z1l), ((188, 17), z16), ((122, 4), z1u), ((178, 2), z04), ((178, 2), z02), ((184, 5), z3v), ((178, 2), z07), ((105, 9), z5q), ((161, 6), z5p), ((178, 2), z0j), ((193, 4), z5j)]
noncomputable def Γ9 : Ctx := ⟨tyTab, fnTab, tblSum tb9, tblLp lt9⟩
theorem tb9_ok : SumL Try.prog tb9 := SumL.cons z0t (SumL.cons z17 (SumL.cons z1o (SumL.cons z1p (SumL.cons z2a (SumL.cons z1w (SumL.cons z0z (SumL.cons z31 (SumL.cons z53 (SumL.cons z1i (SumL.cons z1x (SumL.cons z2b (SumL.cons z3i (SumL.cons z54 (SumL.cons z1k (SumL.cons z3k (SumL.cons z1y (SumL.cons z32 (SumL.cons z1a (SumL.cons z1v (SumL.cons z2y (SumL.cons z11 (SumL.cons z3h (SumL.cons z2z (SumL.cons z3g (SumL.cons z28 (SumL.cons z2l (SumL.cons z3e (SumL.cons z2m (SumL.cons z1h (SumL.cons z19 (SumL.cons z27 (SumL.cons z2k (SumL.cons z39 (SumL.cons z26 (SumL.cons z4h (SumL.cons z24 (SumL.cons z2g (SumL.cons z2r (SumL.cons z2h (SumL.cons z2i (SumL.cons z29 (SumL.cons z4b (SumL.cons z36 (SumL.cons z2v (SumL.cons z4e (SumL.cons z0f (SumL.cons z09 (SumL.cons z5l (SumL.cons z4q (SumL.cons z65 (SumL.cons z0m (SumL.cons z6r (SumL.cons z4f (SumL.cons z0k (SumL.cons z0g (SumL.cons z0l (SumL.cons z5k (SumL.cons z56 (SumL.cons z42 (SumL.cons z5m (SumL.cons z57 (SumL.cons z6o (SumL.cons z58 (SumL.cons z3d (SumL.cons z59 (SumL.nil))))))))))))))))))))))))))))))))))))))))))))))))))))))))))))))))))
theorem lt9_ok : LpL Try.prog fnTab lt9 := LpL.cons z18 (LpL.cons z1d (LpL.cons z1c (LpL.cons z14 (LpL.cons z1n (LpL.cons z05 (LpL.cons z03 (LpL.cons z38 (LpL.cons z0a (LpL.cons z4p (LpL.cons z4w (LpL.cons z0n (LpL.cons z5b (LpL.nil)))))))))))))
noncomputable def z7p : List PT → Option (Bool × AV × List Blk)
  | [.ptr [.row 1 q04 (.fl .f32 q0a), .row 1 q05 (.fl .f32 q0c), .row 1 q06 (.fl .f32 q0b), .row 3 q0e (.fl .f32 q0h), .s (.int .i64 q0l), .s (.flt .f32 q0n), .s (.flt .f32 q0m)], .one (.s (.int .i64 i)), .one (.s (.flt .f32 q13)), .one (.s (.flt .f32 q0u)), .one (.s (.flt .f32 q0o))] => some ((zlt q04 q0a q05 q0c q06 q0b q0e q0h q0l q0n q0m i q13 q0u q0o), ((AV.v (TV.one (At.bool (zl4 q04 q0a q05 q0c q06 q0b q0e q0h q0l q0n q0m i q13 q0u q0o)))), []))
  | _ => none
def zrl (q04 : Nat) (q0a : List Nat) (q05 : Nat) (q0c : List Nat) (q06 : Nat) (q0b : List Nat) (q0e : Nat) (q0h : List Nat) (q0l : Int) (q0n : Nat) (q0m : Nat) (i : Int) (q13 : Nat) (q0u : Nat) (q0o : Nat) : Option (Bool) → Option (AV × List Blk)
  | some r => some ((AV.v (TV.one (At.bool r))), [])
  | none => none
theorem zwk (q04 : Nat) (q0a : List Nat) (q05 : Nat) (q0c : List Nat) (q06 : Nat) (q0b : List Nat) (q0e : Nat) (q0h : List Nat) (q0l : Int) (q0n : Nat) (q0m : Nat) (i : Int) (q13 : Nat) (q0u : Nat) (q0o : Nat) : evFn Γ9 8 8 130 (impTs 0 [.ptr [.row 1 q04 (.fl .f32 q0a), .row 1 q05 (.fl .f32 q0c), .row 1 q06 (.fl .f32 q0b), .row 3 q0e (.fl .f32 q0h), .s (.int .i64 q0l), .s (.flt .f32 q0n), .s (.flt .f32 q0m)], .one (.s (.int .i64 i)), .one (.s (.flt .f32 q13)), .one (.s (.flt .f32 q0u)), .one (.s (.flt .f32 q0o))]).1 (impTs 0 [.ptr [.row 1 q04 (.fl .f32 q0a), .row 1 q05 (.fl .f32 q0c), .row 1 q06 (.fl .f32 q0b), .row 3 q0e (.fl .f32 q0h), .s (.int .i64 q0l), .s (.flt .f32 q0n), .s (.flt .f32 q0m)], .one (.s (.int .i64 i)), .one (.s (.flt .f32 q13)), .one (.s (.flt .f32 q0u)), .one (.s (.flt .f32 q0o))]).2 (expo (impTs 0 [.ptr [.row 1 q04 (.fl .f32 q0a), .row 1 q05 (.fl .f32 q0c), .row 1 q06 (.fl .f32 q0b), .row 3 q0e (.fl .f32 q0h), .s (.int .i64 q0l), .s (.flt .f32 q0n), .s (.flt .f32 q0m)], .one (.s (.int .i64 i)), .one (.s (.flt .f32 q13)), .one (.s (.flt .f32 q0u)), .one (.s (.flt .f32 q0o))]).2.length) = zgl q04 q0a q05 q0c q06 q0b q0e q0h q0l q0n q0m i q13 q0u q0o (fun c0_ => some ((AV.v (TV.one (At.bool c0_))), [])) := by kernel_rfl
theorem z78 : SumOne Try.prog 130 z7p := sum_of (Γ := Γ9) (fuel := 8) (d := 8) tyTab_ok (FnL.ok fnTab_ok _ _) (LpL.ok lt9_ok) (SumL.ok tb9_ok _) mixed (by
  intro pts v news hp hc
  clear hc
  unfold z7p at hp
  split at hp
  · rename_i q04 q0a q05 q0c q06 q0b q0e q0h q0l q0n q0m i q13 q0u q0o
    exact Eq.trans (Eq.trans (zwk q04 q0a q05 q0c q06 q0b q0e q0h q0l q0n q0m i q13 q0u q0o) (zto (zrl q04 q0a q05 q0c q06 q0b q0e q0h q0l q0n q0m i q13 q0u q0o) rfl q04 q0a q05 q0c q06 q0b q0e q0h q0l q0n q0m i q13 q0u q0o (fun c0_ => some c0_))) (fin_out (o := (zrl q04 q0a q05 q0c q06 q0b q0e q0h q0l q0n q0m i q13 q0u q0o)) (x := zgk q04 q0a q05 q0c q06 q0b q0e q0h q0l q0n q0m i q13 q0u q0o) (d := default) (V := fun r => ((AV.v (TV.one (At.bool r))), [])) (fun r => rfl) hp)
  · cases hp)
noncomputable def z3m : List PT → Option (Bool × AV × List Blk)
  | [.agg [.row 1 q0f (.fl .f32 q0k), .row 1 q0s (.fl .f32 q0y), .row 1 q0t (.fl .f32 q0z)], .one (.s (.flt .f32 x1))] => some ((zdk q0f q0k q0s q0y q0t q0z x1), ((AV.tup [(TV.one (At.int IntKind.i64 (z6j q0f q0k q0s q0y q0t q0z x1))), (TV.one (At.int IntKind.i64 (z6i q0f q0k q0s q0y q0t q0z x1))), (TV.one (At.flt FloatKind.f32 (z79 q0f q0k q0s q0y q0t q0z x1))), (TV.one (At.flt FloatKind.f32 (z8v q0f q0k q0s q0y q0t q0z x1))), (TV.one (At.flt FloatKind.f32 (za2 q0f q0k q0s q0y q0t q0z x1)))]), []))
  | _ => none
def zll (q0f : Nat) (q0k : List Nat) (q0s : Nat) (q0y : List Nat) (q0t : Nat) (q0z : List Nat) (x1 : Nat) : Option (Int × Int × Nat × Nat × Nat) → Option (AV × List Blk)
  | some r => some ((AV.tup [(TV.one (At.int IntKind.i64 r.1)), (TV.one (At.int IntKind.i64 r.2.1)), (TV.one (At.flt FloatKind.f32 r.2.2.1)), (TV.one (At.flt FloatKind.f32 r.2.2.2.1)), (TV.one (At.flt FloatKind.f32 r.2.2.2.2))]), [])
  | none => none
theorem zp2 (q0f : Nat) (q0k : List Nat) (q0s : Nat) (q0y : List Nat) (q0t : Nat) (q0z : List Nat) (x1 : Nat) : evFn Γ9 8 8 146 (impTs 0 [.agg [.row 1 q0f (.fl .f32 q0k), .row 1 q0s (.fl .f32 q0y), .row 1 q0t (.fl .f32 q0z)], .one (.s (.flt .f32 x1))]).1 (impTs 0 [.agg [.row 1 q0f (.fl .f32 q0k), .row 1 q0s (.fl .f32 q0y), .row 1 q0t (.fl .f32 q0z)], .one (.s (.flt .f32 x1))]).2 (expo (impTs 0 [.agg [.row 1 q0f (.fl .f32 q0k), .row 1 q0s (.fl .f32 q0y), .row 1 q0t (.fl .f32 q0z)], .one (.s (.flt .f32 x1))]).2.length) = z8o q0f q0k q0s q0y q0t q0z x1 (fun c0_ c1_ c2_ c3_ c4_ => some ((AV.tup [(TV.one (At.int IntKind.i64 c0_)), (TV.one (At.int IntKind.i64 c1_)), (TV.one (At.flt FloatKind.f32 c2_)), (TV.one (At.flt FloatKind.f32 c3_)), (TV.one (At.flt FloatKind.f32 c4_))]), [])) := by kernel_rfl
theorem z3n : SumOne Try.prog 146 z3m := sum_of (Γ := Γ9) (fuel := 8) (d := 8) tyTab_ok (FnL.ok fnTab_ok _ _) (LpL.ok lt9_ok) (SumL.ok tb9_ok _) mixed (by
  intro pts v news hp hc
  clear hc
  unfold z3m at hp
  split at hp
  · rename_i q0f q0k q0s q0y q0t q0z x1
    exact Eq.trans (Eq.trans (zp2 q0f q0k q0s q0y q0t q0z x1) (zms (zll q0f q0k q0s q0y q0t q0z x1) rfl q0f q0k q0s q0y q0t q0z x1 (fun c0_ c1_ c2_ c3_ c4_ => some (c0_, c1_, c2_, c3_, c4_)))) (fin_out (o := (zll q0f q0k q0s q0y q0t q0z x1)) (x := z5x q0f q0k q0s q0y q0t q0z x1) (d := default) (V := fun r => ((AV.tup [(TV.one (At.int IntKind.i64 r.1)), (TV.one (At.int IntKind.i64 r.2.1)), (TV.one (At.flt FloatKind.f32 r.2.2.1)), (TV.one (At.flt FloatKind.f32 r.2.2.2.1)), (TV.one (At.flt FloatKind.f32 r.2.2.2.2))]), [])) (fun r => rfl) hp)
  · cases hp)
noncomputable def z73 : List PT → Option (Bool × AV × List Blk)
  | [.ptr [.row 1 q0f (.fl .f32 q0k), .row 1 q0s (.fl .f32 q0y), .row 1 q0t (.fl .f32 q0z)], .one (.s (.flt .f32 x1))] => some ((zl8 q0f q0k q0s q0y q0t q0z x1), ((AV.tup [(TV.one (At.int IntKind.i64 (zbl q0f q0k q0s q0y q0t q0z x1))), (TV.one (At.int IntKind.i64 (zgo q0f q0k q0s q0y q0t q0z x1))), (TV.one (At.flt FloatKind.f32 (zkd q0f q0k q0s q0y q0t q0z x1))), (TV.one (At.flt FloatKind.f32 (zm8 q0f q0k q0s q0y q0t q0z x1)))]), []))
  | _ => none
def zq8 (q0f : Nat) (q0k : List Nat) (q0s : Nat) (q0y : List Nat) (q0t : Nat) (q0z : List Nat) (x1 : Nat) : Option (Int × Int × Nat × Nat) → Option (AV × List Blk)
  | some r => some ((AV.tup [(TV.one (At.int IntKind.i64 r.1)), (TV.one (At.int IntKind.i64 r.2.1)), (TV.one (At.flt FloatKind.f32 r.2.2.1)), (TV.one (At.flt FloatKind.f32 r.2.2.2))]), [])
  | none => none
theorem zw1 (q0f : Nat) (q0k : List Nat) (q0s : Nat) (q0y : List Nat) (q0t : Nat) (q0z : List Nat) (x1 : Nat) : evFn Γ9 8 8 193 (impTs 0 [.ptr [.row 1 q0f (.fl .f32 q0k), .row 1 q0s (.fl .f32 q0y), .row 1 q0t (.fl .f32 q0z)], .one (.s (.flt .f32 x1))]).1 (impTs 0 [.ptr [.row 1 q0f (.fl .f32 q0k), .row 1 q0s (.fl .f32 q0y), .row 1 q0t (.fl .f32 q0z)], .one (.s (.flt .f32 x1))]).2 (expo (impTs 0 [.ptr [.row 1 q0f (.fl .f32 q0k), .row 1 q0s (.fl .f32 q0y), .row 1 q0t (.fl .f32 q0z)], .one (.s (.flt .f32 x1))]).2.length) = zcv q0f q0k q0s q0y q0t q0z x1 (fun c0_ c1_ c2_ c3_ => some ((AV.tup [(TV.one (At.int IntKind.i64 c0_)), (TV.one (At.int IntKind.i64 c1_)), (TV.one (At.flt FloatKind.f32 c2_)), (TV.one (At.flt FloatKind.f32 c3_))]), [])) := by kernel_rfl
theorem z6s : SumOne Try.prog 193 z73 := sum_of (Γ := Γ9) (fuel := 8) (d := 8) tyTab_ok (FnL.ok fnTab_ok _ _) (LpL.ok lt9_ok) (SumL.ok tb9_ok _) mixed (by
  intro pts v news hp hc
  clear hc
  unfold z73 at hp
  split at hp
  · rename_i q0f q0k q0s q0y q0t q0z x1
    exact Eq.trans (Eq.trans (zw1 q0f q0k q0s q0y q0t q0z x1) (zsh (zq8 q0f q0k q0s q0y q0t q0z x1) rfl q0f q0k q0s q0y q0t q0z x1 (fun c0_ c1_ c2_ c3_ => some (c0_, c1_, c2_, c3_)))) (fin_out (o := (zq8 q0f q0k q0s q0y q0t q0z x1)) (x := z91 q0f q0k q0s q0y q0t q0z x1) (d := default) (V := fun r => ((AV.tup [(TV.one (At.int IntKind.i64 r.1)), (TV.one (At.int IntKind.i64 r.2.1)), (TV.one (At.flt FloatKind.f32 r.2.2.1)), (TV.one (At.flt FloatKind.f32 r.2.2.2))]), [])) (fun r => rfl) hp)
  · cases hp)
noncomputable def z3l : Nat → St → Option (Bool × LO)
  | 3, (St.mk [(1, (AV.v (TV.one (At.ptr 3 0 3)))), (42, (AV.v (TV.one (At.vw 0 0 q2h 1)))), (43, (AV.v (TV.one (At.int IntKind.i64 t43)))), (44, (AV.v (TV.one (At.int IntKind.i64 t44))))] [(Blk.mk Bool.false (Body.fl FloatKind.f32 b0)), (Blk.mk Bool.false (Body.fl FloatKind.f32 b1)), (Blk.mk Bool.false (Body.fl FloatKind.f32 b2)), (Blk.mk Bool.true (Body.cells [(At.vw 0 0 q1e 1), (At.vw 1 0 q1u 1), (At.vw 2 0 q1t 1)]))]) => some ((z8n q2h t43 b0 q1e t44), (LO.two (z87 q2h t43 b0 q1e t44) (LO.one Ex.ret (St.mk [(2, (AV.v (TV.one (At.bool Bool.false))))] [(Blk.mk Bool.false (Body.fl FloatKind.f32 b0)), (Blk.mk Bool.false (Body.fl FloatKind.f32 b1)), (Blk.mk Bool.false (Body.fl FloatKind.f32 b2))])) (LO.one (Ex.exit 0) (St.mk [(1, (AV.v (TV.one (At.ptr 3 0 3)))), (42, (AV.v (TV.one (At.vw 0 0 q2h 1)))), (43, (AV.v (TV.one (At.int IntKind.i64 t43)))), (44, (AV.v (TV.one (At.int IntKind.i64 (zee q2h t43 b0 q1e t44))))), (45, (AV.v (TV.one (At.bool (zej q2h t43 b0 q1e t44)))))] [(Blk.mk Bool.false (Body.fl FloatKind.f32 b0)), (Blk.mk Bool.false (Body.fl FloatKind.f32 b1)), (Blk.mk Bool.false (Body.fl FloatKind.f32 b2)), (Blk.mk Bool.true (Body.cells [(At.vw 0 0 q1e 1), (At.vw 1 0 q1u 1), (At.vw 2 0 q1t 1)]))]))))
  | _, _ => none
def zaj (q2h : Nat) (t43 : Int) (b0 : List Nat) (b1 : List Nat) (b2 : List Nat) (q1e : Nat) (q1u : Nat) (q1t : Nat) : Option ((Unit) ⊕ (Int × Bool)) → Option (Ex × St)
  | none => none
  | some (Sum.inl r) => some (Ex.ret, (St.mk [(2, (AV.v (TV.one (At.bool Bool.false))))] [(Blk.mk Bool.false (Body.fl FloatKind.f32 b0)), (Blk.mk Bool.false (Body.fl FloatKind.f32 b1)), (Blk.mk Bool.false (Body.fl FloatKind.f32 b2))]))
  | some (Sum.inr r) => some ((Ex.exit 0), (St.mk [(1, (AV.v (TV.one (At.ptr 3 0 3)))), (42, (AV.v (TV.one (At.vw 0 0 q2h 1)))), (43, (AV.v (TV.one (At.int IntKind.i64 t43)))), (44, (AV.v (TV.one (At.int IntKind.i64 r.1)))), (45, (AV.v (TV.one (At.bool r.2))))] [(Blk.mk Bool.false (Body.fl FloatKind.f32 b0)), (Blk.mk Bool.false (Body.fl FloatKind.f32 b1)), (Blk.mk Bool.false (Body.fl FloatKind.f32 b2)), (Blk.mk Bool.true (Body.cells [(At.vw 0 0 q1e 1), (At.vw 1 0 q1u 1), (At.vw 2 0 q1t 1)]))]))
def zod (q2h : Nat) (t43 : Int) (b0 : List Nat) (b1 : List Nat) (b2 : List Nat) (q1e : Nat) (q1u : Nat) (q1t : Nat) (x : Option ((Unit) ⊕ (Int × Bool))) : LO := (LO.two (oL x) (LO.one Ex.ret (St.mk [(2, (AV.v (TV.one (At.bool Bool.false))))] [(Blk.mk Bool.false (Body.fl FloatKind.f32 b0)), (Blk.mk Bool.false (Body.fl FloatKind.f32 b1)), (Blk.mk Bool.false (Body.fl FloatKind.f32 b2))])) (LO.one (Ex.exit 0) (St.mk [(1, (AV.v (TV.one (At.ptr 3 0 3)))), (42, (AV.v (TV.one (At.vw 0 0 q2h 1)))), (43, (AV.v (TV.one (At.int IntKind.i64 t43)))), (44, (AV.v (TV.one (At.int IntKind.i64 ((tR x).getD default).1)))), (45, (AV.v (TV.one (At.bool ((tR x).getD default).2))))] [(Blk.mk Bool.false (Body.fl FloatKind.f32 b0)), (Blk.mk Bool.false (Body.fl FloatKind.f32 b1)), (Blk.mk Bool.false (Body.fl FloatKind.f32 b2)), (Blk.mk Bool.true (Body.cells [(At.vw 0 0 q1e 1), (At.vw 1 0 q1u 1), (At.vw 2 0 q1t 1)]))])))
theorem zp5 (q2h : Nat) (t43 : Int) (b0 : List Nat) (b1 : List Nat) (b2 : List Nat) (q1e : Nat) (q1u : Nat) (q1t : Nat) : ∀ x : Option ((Unit) ⊕ (Int × Bool)), x.isSome = true → (zaj q2h t43 b0 b1 b2 q1e q1u q1t) x = some (pick (zod q2h t43 b0 b1 b2 q1e q1u q1t x))
  | none, h => by cases h
  | some (Sum.inl r), _ => rfl
  | some (Sum.inr r), _ => rfl
theorem zp8 (q2h : Nat) (t43 : Int) (t44 : Int) (b0 : List Nat) (b1 : List Nat) (b2 : List Nat) (q1e : Nat) (q1u : Nat) (q1t : Nat) (K : Ex → St → Option (Ex × St)) : evC (R := Ex × St) Γ9 (evFn Γ9 8 8) 57 3 fi57.nt fi57.live fi57.nl 8 (findL 5 (loopsIn fi57.code)) (St.mk [(1, (AV.v (TV.one (At.ptr 3 0 3)))), (42, (AV.v (TV.one (At.vw 0 0 q2h 1)))), (43, (AV.v (TV.one (At.int IntKind.i64 t43)))), (44, (AV.v (TV.one (At.int IntKind.i64 t44))))] [(Blk.mk Bool.false (Body.fl FloatKind.f32 b0)), (Blk.mk Bool.false (Body.fl FloatKind.f32 b1)), (Blk.mk Bool.false (Body.fl FloatKind.f32 b2)), (Blk.mk Bool.true (Body.cells [(At.vw 0 0 q1e 1), (At.vw 1 0 q1u 1), (At.vw 2 0 q1t 1)]))]) K = z6z q2h t43 b0 q1e t44 (fun t44' => K .normal (St.mk [(1, (AV.v (TV.one (At.ptr 3 0 3)))), (42, (AV.v (TV.one (At.vw 0 0 q2h 1)))), (43, (AV.v (TV.one (At.int IntKind.i64 t43)))), (44, (AV.v (TV.one (At.int IntKind.i64 t44'))))] [(Blk.mk Bool.false (Body.fl FloatKind.f32 b0)), (Blk.mk Bool.false (Body.fl FloatKind.f32 b1)), (Blk.mk Bool.false (Body.fl FloatKind.f32 b2)), (Blk.mk Bool.true (Body.cells [(At.vw 0 0 q1e 1), (At.vw 1 0 q1u 1), (At.vw 2 0 q1t 1)]))])) (fun _ => K Ex.ret (St.mk [(2, (AV.v (TV.one (At.bool Bool.false))))] [(Blk.mk Bool.false (Body.fl FloatKind.f32 b0)), (Blk.mk Bool.false (Body.fl FloatKind.f32 b1)), (Blk.mk Bool.false (Body.fl FloatKind.f32 b2))])) (fun c0_ c1_ => K (Ex.exit 0) (St.mk [(1, (AV.v (TV.one (At.ptr 3 0 3)))), (42, (AV.v (TV.one (At.vw 0 0 q2h 1)))), (43, (AV.v (TV.one (At.int IntKind.i64 t43)))), (44, (AV.v (TV.one (At.int IntKind.i64 c0_)))), (45, (AV.v (TV.one (At.bool c1_))))] [(Blk.mk Bool.false (Body.fl FloatKind.f32 b0)), (Blk.mk Bool.false (Body.fl FloatKind.f32 b1)), (Blk.mk Bool.false (Body.fl FloatKind.f32 b2)), (Blk.mk Bool.true (Body.cells [(At.vw 0 0 q1e 1), (At.vw 1 0 q1u 1), (At.vw 2 0 q1t 1)]))])) := by kernel_rfl
theorem zoz (q2h : Nat) (t43 : Int) (b0 : List Nat) (b1 : List Nat) (b2 : List Nat) (q1e : Nat) (q1u : Nat) (q1t : Nat) : ∀ (n : Nat) (t44 : Int), iter 57 5 3 (evC (R := Ex × St) Γ9 (evFn Γ9 8 8) 57 3 fi57.nt fi57.live fi57.nl 8 (findL 5 (loopsIn fi57.code))) n (St.mk [(1, (AV.v (TV.one (At.ptr 3 0 3)))), (42, (AV.v (TV.one (At.vw 0 0 q2h 1)))), (43, (AV.v (TV.one (At.int IntKind.i64 t43)))), (44, (AV.v (TV.one (At.int IntKind.i64 t44))))] [(Blk.mk Bool.false (Body.fl FloatKind.f32 b0)), (Blk.mk Bool.false (Body.fl FloatKind.f32 b1)), (Blk.mk Bool.false (Body.fl FloatKind.f32 b2)), (Blk.mk Bool.true (Body.cells [(At.vw 0 0 q1e 1), (At.vw 1 0 q1u 1), (At.vw 2 0 q1t 1)]))]) (fun e st => some (e, st)) = (zaj q2h t43 b0 b1 b2 q1e q1u q1t) (z4a q2h t43 b0 q1e n t44) := by
  intro n
  induction n with
  | zero => intros; rfl
  | succ n ih =>
    intro t44
    refine Eq.trans (iter_succ ..) (Eq.trans (zp8 q2h t43 t44 b0 b1 b2 q1e q1u q1t (nextK 57 5 3 (evC (R := Ex × St) Γ9 (evFn Γ9 8 8) 57 3 fi57.nt fi57.live fi57.nl 8 (findL 5 (loopsIn fi57.code))) n (fun e st => some (e, st)))) (Eq.trans ?_ (zmu (zaj q2h t43 b0 b1 b2 q1e q1u q1t) rfl q2h t43 b0 q1e t44 (fun t44' => z4a q2h t43 b0 q1e n t44') (fun _ => some (Sum.inl ())) (fun c0_ c1_ => some (Sum.inr (c0_, c1_))))))
    exact congrArg (fun kn_ => z6z q2h t43 b0 q1e t44 kn_ (fun _ => (zaj q2h t43 b0 b1 b2 q1e q1u q1t) (some (Sum.inl ()))) (fun c0_ c1_ => (zaj q2h t43 b0 b1 b2 q1e q1u q1t) (some (Sum.inr (c0_, c1_))))) (funext fun t44' => ih t44')
theorem z3o : LoopOne Try.prog fnTab 57 5 z3l := lp_of (Γ := Γ9) tyTab_ok (FnL.ok fnTab_ok _ _) (LpL.ok lt9_ok) (SumL.ok tb9_ok _) mixed (fi := fi57) (by kernel_rfl) (by kernel_rfl) (by
  intro lo st out hp
  unfold z3l at hp
  split at hp
  · rename_i q2h t43 t44 b0 b1 b2 q1e q1u q1t
    injection hp with hp
    injection hp with h1 h2
    subst h2
    exact ⟨8, 8, big, Eq.trans (zoz q2h t43 b0 b1 b2 q1e q1u q1t big t44) (zp5 q2h t43 b0 b1 b2 q1e q1u q1t (z4a q2h t43 b0 q1e big t44) h1)⟩
  · cases hp)
noncomputable def tb10 : List (Nat × (List PT → Option (Bool × AV × List Blk))) := [(156, z0y), (181, z1f), (182, z23), (189, z25), (26, z2u), (55, z2f), (84, z13), (89, z45), (102, z6f), (112, z21), (115, z2e), (123, z2s), (126, z4t), (157, z6b), (160, z22), (162, z4x), (167, z2c), (175, z44), (176, z1q), (187, z2d), (74, z3p), (83, z12), (85, z4k), (90, z3q), (103, z4j), (111, z2q), (116, z33), (117, z4i), (138, z35), (148, z1z), (150, z1e), (169, z2p), (185, z34), (52, z49), (154, z2n), (158, z5w), (166, z2o), (104, z30), (119, z3c), (120, z2w), (168, z2x), (188, z2j), (54, z5c), (121, z3t), (122, z3b), (165, z5a), (178, z0b), (178, z06), (184, z6c), (56, z5t), (170, z6m), (178, z0i), (105, z7m), (124, z4v), (147, z0e), (147, z08), (147, z0h), (198, z67), (77, z5g), (88, z4d), (97, z64), (109, z5i), (161, z7f), (79, z5h), (86, z3f), (113, z5f), (130, z7p), (146, z3m), (193, z73)]
noncomputable def lt10 : List ((Nat × Nat) × (Nat → St → Option (Bool × LO))) := [((166, 3), z1b), ((120, 3), z1m), ((168, 4), z1l), ((188, 17), z16), ((122, 4), z1u), ((178, 2), z04), ((178, 2), z02), ((184, 5), z3v), ((178, 2), z07), ((105, 9), z5q), ((161, 6), z5p), ((178, 2), z0j), ((193, 4), z5j), ((57, 5), z3l)]
noncomputable def Γ10 : Ctx := ⟨tyTab, fnTab, tblSum tb10, tblLp lt10⟩
end Go.Proofs.Ytdhmognknjpemaa
