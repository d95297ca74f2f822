/-
  What functions answer: that the evaluator answers so. Printed by a program.
-/
import Derived.Test.YtdhmognknjpemaaInductionAtC
set_option linter.unusedVariables false
set_option linter.unusedSimpArgs false
set_option maxRecDepth 100000
set_option maxHeartbeats 4000000
namespace Go.Proofs.Ytdhmognknjpemaa
open Go Go.Rf
def z0w : List PT → Option (Bool × AV × List Blk)
  | [.one (.s (.int .u64 x))] => some (okU .f64 x, A1 (.flt .f64 (cnI .f64 x)), [])
  | _ => none
theorem z0r : SumOne Try.prog 156 z0w := by
  intro pts v news hp w vals hv
  unfold z0w at hp
  split at hp
  · rename_i x
    injection hp with hp
    injection hp with h1 hp
    injection hp with h2 h3
    subst h2
    subst h3
    obtain ⟨l, hl⟩ : ∃ l, l = vals.toList := ⟨_, rfl⟩
    rw [← hl] at hv
    cases hv with
    | cons a1 a2 =>
      cases a2
      have hb1 : _ = Value.int .u64 x := a1
      subst hb1
      rename_i hx
      have hvals : vals = #[.int .u64 x] := by rw [← Array.toList_inj, ← hl]
      subst hvals
      have hw := okU_lt h1
      refine .inl ⟨_, w, by (simp only [callFunc, Sem.run_bind, run_program, Result.andThen_ok, Try.func156]; rfl), NoB, ⟨⟨(fun t b' h => by cases t <;> cases h), (fun t t' b1 b2 x x' _ h => by cases t <;> cases h)⟩, (fun t x h => by cases h), Fr.refl _ w⟩, ⟨_, rfl, hw, rfl⟩⟩
  · cases hp
def z1d : List PT → Option (Bool × AV × List Blk)
  | [.one (.s (.flt .f64 x))] => some (bnot (nanQ .f64 x), A1 (.int .u64 x), [])
  | _ => none
theorem z16 : SumOne Try.prog 181 z1d := by
  intro pts v news hp w vals hv
  unfold z1d at hp
  split at hp
  · rename_i x
    injection hp with hp
    injection hp with h1 hp
    injection hp with h2 h3
    subst h2
    subst h3
    obtain ⟨l, hl⟩ : ∃ l, l = vals.toList := ⟨_, rfl⟩
    rw [← hl] at hv
    cases hv with
    | cons a1 a2 =>
      cases a2
      obtain ⟨b, hb1, hb2, hb3⟩ := a1
      subst hb1
      rename_i hx
      have hvals : vals = #[.float .f64 b] := by rw [← Array.toList_inj, ← hl]
      subst hvals
      have hn : nanB .f64 b = false := by rw [← nanB_cn, hb3]; simpa [bnot, nanQ] using h1
      rw [cn_of_not hn] at hb3
      subst hb3
      refine .inl ⟨_, w, by (simp only [callFunc, Sem.run_bind, run_program, Result.andThen_ok, Try.func181]; rfl), NoB, ⟨⟨(fun t b' h => by cases t <;> cases h), (fun t t' b1 b2 x x' _ h => by cases t <;> cases h)⟩, (fun t x h => by cases h), Fr.refl _ w⟩, rfl⟩
  · cases hp
def z21 : List PT → Option (Bool × AV × List Blk)
  | [.one (.s (.flt .f64 x))] => some (bnot (nanQ .f64 x), A1 (.flt .f64 (fint .zero x)), [])
  | _ => none
theorem z1l : SumOne Try.prog 182 z21 := by
  intro pts v news hp w vals hv
  unfold z21 at hp
  split at hp
  · rename_i x
    injection hp with hp
    injection hp with h1 hp
    injection hp with h2 h3
    subst h2
    subst h3
    obtain ⟨l, hl⟩ : ∃ l, l = vals.toList := ⟨_, rfl⟩
    rw [← hl] at hv
    cases hv with
    | cons a1 a2 =>
      cases a2
      obtain ⟨b, hb1, hb2, hb3⟩ := a1
      subst hb1
      rename_i hx
      have hvals : vals = #[.float .f64 b] := by rw [← Array.toList_inj, ← hl]
      subst hvals
      have hn : nanB .f64 b = false := by rw [← nanB_cn, hb3]; simpa [bnot, nanQ] using h1
      rw [cn_of_not hn] at hb3
      subst hb3
      refine .inl ⟨_, w, by (simp only [callFunc, Sem.run_bind, run_program, Result.andThen_ok, Try.func182]; change (do let v ← Extern.MathFloor.toIntegral "math.archTrunc" .zero #[.float .f64 b]; pure (.value v) : Sem Next).run Try.prog w = _; rw [Sem.run_bind, run_fint hn]; rfl), NoB, ⟨⟨(fun t b' h => by cases t <;> cases h), (fun t t' b1 b2 x x' _ h => by cases t <;> cases h)⟩, (fun t x h => by cases h), Fr.refl _ w⟩, fint_rel hn⟩
  · cases hp
def z22 : List PT → Option (Bool × AV × List Blk)
  | [.one (.s (.flt .f64 x))] => some (bnot (nanQ .f64 x), A1 (.flt .f64 (fint .down x)), [])
  | _ => none
theorem z1n : SumOne Try.prog 189 z22 := by
  intro pts v news hp w vals hv
  unfold z22 at hp
  split at hp
  · rename_i x
    injection hp with hp
    injection hp with h1 hp
    injection hp with h2 h3
    subst h2
    subst h3
    obtain ⟨l, hl⟩ : ∃ l, l = vals.toList := ⟨_, rfl⟩
    rw [← hl] at hv
    cases hv with
    | cons a1 a2 =>
      cases a2
      obtain ⟨b, hb1, hb2, hb3⟩ := a1
      subst hb1
      rename_i hx
      have hvals : vals = #[.float .f64 b] := by rw [← Array.toList_inj, ← hl]
      subst hvals
      have hn : nanB .f64 b = false := by rw [← nanB_cn, hb3]; simpa [bnot, nanQ] using h1
      rw [cn_of_not hn] at hb3
      subst hb3
      refine .inl ⟨_, w, by (simp only [callFunc, Sem.run_bind, run_program, Result.andThen_ok, Try.func189]; change (do let v ← Extern.MathFloor.toIntegral "math.archFloor" .down #[.float .f64 b]; pure (.value v) : Sem Next).run Try.prog w = _; rw [Sem.run_bind, run_fint hn]; rfl), NoB, ⟨⟨(fun t b' h => by cases t <;> cases h), (fun t t' b1 b2 x x' _ h => by cases t <;> cases h)⟩, (fun t x h => by cases h), Fr.refl _ w⟩, fint_rel hn⟩
  · cases hp
noncomputable def tb0 : List (Nat × (List PT → Option (Bool × AV × List Blk))) := [(156, z0w), (181, z1d), (182, z21), (189, z22)]
noncomputable def lt0 : List ((Nat × Nat) × (Nat → St → Option (Bool × LO))) := []
noncomputable def Γ0 : Ctx := ⟨tyTab, fnTab, tblSum tb0, tblLp lt0⟩
theorem tb0_ok : SumL Try.prog tb0 := SumL.cons z0r (SumL.cons z16 (SumL.cons z1l (SumL.cons z1n (SumL.nil))))
theorem lt0_ok : LpL Try.prog fnTab lt0 := LpL.nil
noncomputable def z2q : List PT → Option (Bool × AV × List Blk)
  | [.one (.s (.flt .f32 x))] => some ((z71 x), ((AV.v (TV.one (At.bool (z6p x)))), []))
  | _ => none
def zo4 (x : Nat) : Option (Bool) → Option (AV × List Blk)
  | some r => some ((AV.v (TV.one (At.bool r))), [])
  | none => none
theorem zv6 (x : Nat) : evFn Γ0 8 8 26 (impTs 0 [.one (.s (.flt .f32 x))]).1 (impTs 0 [.one (.s (.flt .f32 x))]).2 (expo (impTs 0 [.one (.s (.flt .f32 x))]).2.length) = zgt x (fun c0_ => some ((AV.v (TV.one (At.bool c0_))), [])) := by kernel_rfl
theorem z26 : SumOne Try.prog 26 z2q := sum_of (Γ := Γ0) (fuel := 8) (d := 8) tyTab_ok (FnL.ok fnTab_ok _ _) (LpL.ok lt0_ok) (SumL.ok tb0_ok _) mixed (by
  intro pts v news hp hc
  clear hc
  unfold z2q at hp
  split at hp
  · rename_i x
    exact Eq.trans (Eq.trans (zv6 x) (zrh (zo4 x) rfl x (fun c0_ => some c0_))) (fin_out (o := (zo4 x)) (x := zg8 x) (d := default) (V := fun r => ((AV.v (TV.one (At.bool r))), [])) (fun r => rfl) hp)
  · cases hp)
noncomputable def z28 : List PT → Option (Bool × AV × List Blk)
  | [.one (.s (.flt .f64 a)), .one (.s (.flt .f64 b))] => some ((z7t a b), ((AV.v (TV.one (At.bool (z7c a b)))), []))
  | _ => none
def znd (a : Nat) (b : Nat) : Option (Bool) → Option (AV × List Blk)
  | some r => some ((AV.v (TV.one (At.bool r))), [])
  | none => none
theorem zub (a : Nat) (b : Nat) : evFn Γ0 8 8 55 (impTs 0 [.one (.s (.flt .f64 a)), .one (.s (.flt .f64 b))]).1 (impTs 0 [.one (.s (.flt .f64 a)), .one (.s (.flt .f64 b))]).2 (expo (impTs 0 [.one (.s (.flt .f64 a)), .one (.s (.flt .f64 b))]).2.length) = zd6 a b (fun c0_ => some ((AV.v (TV.one (At.bool c0_))), [])) := by kernel_rfl
theorem z1t : SumOne Try.prog 55 z28 := sum_of (Γ := Γ0) (fuel := 8) (d := 8) tyTab_ok (FnL.ok fnTab_ok _ _) (LpL.ok lt0_ok) (SumL.ok tb0_ok _) mixed (by
  intro pts v news hp hc
  clear hc
  unfold z28 at hp
  split at hp
  · rename_i a b
    exact Eq.trans (Eq.trans (zub a b) (zq3 (znd a b) rfl a b (fun c0_ => some c0_))) (fin_out (o := (znd a b)) (x := zd0 a b) (d := default) (V := fun r => ((AV.v (TV.one (At.bool r))), [])) (fun r => rfl) hp)
  · cases hp)
noncomputable def z11 : List PT → Option (Bool × AV × List Blk)
  | [.agg [.row 1 q00 (.fl .f32 q03), .row 1 q02 (.fl .f32 q06), .row 1 q01 (.fl .f32 q05), .row 3 q09 (.fl .f32 q0b), .s (.int .i64 q0h), .s (.flt .f32 q0l), .s (.flt .f32 q0k)], .one (.s (.int .i64 i))] => some ((zdk q00 q03 q02 q06 q01 q05 q09 q0b q0h q0l q0k i), ((AV.v (TV.one (At.flt FloatKind.f32 (zag q00 q03 q02 q06 q01 q05 q09 q0b q0h q0l q0k i)))), []))
  | _ => none
def zln (q00 : Nat) (q03 : List Nat) (q02 : Nat) (q06 : List Nat) (q01 : Nat) (q05 : List Nat) (q09 : Nat) (q0b : List Nat) (q0h : Int) (q0l : Nat) (q0k : Nat) (i : Int) : Option (Nat) → Option (AV × List Blk)
  | some r => some ((AV.v (TV.one (At.flt FloatKind.f32 r))), [])
  | none => none
theorem zp0 (q00 : Nat) (q03 : List Nat) (q02 : Nat) (q06 : List Nat) (q01 : Nat) (q05 : List Nat) (q09 : Nat) (q0b : List Nat) (q0h : Int) (q0l : Nat) (q0k : Nat) (i : Int) : evFn Γ0 8 8 84 (impTs 0 [.agg [.row 1 q00 (.fl .f32 q03), .row 1 q02 (.fl .f32 q06), .row 1 q01 (.fl .f32 q05), .row 3 q09 (.fl .f32 q0b), .s (.int .i64 q0h), .s (.flt .f32 q0l), .s (.flt .f32 q0k)], .one (.s (.int .i64 i))]).1 (impTs 0 [.agg [.row 1 q00 (.fl .f32 q03), .row 1 q02 (.fl .f32 q06), .row 1 q01 (.fl .f32 q05), .row 3 q09 (.fl .f32 q0b), .s (.int .i64 q0h), .s (.flt .f32 q0l), .s (.flt .f32 q0k)], .one (.s (.int .i64 i))]).2 (expo (impTs 0 [.agg [.row 1 q00 (.fl .f32 q03), .row 1 q02 (.fl .f32 q06), .row 1 q01 (.fl .f32 q05), .row 3 q09 (.fl .f32 q0b), .s (.int .i64 q0h), .s (.flt .f32 q0l), .s (.flt .f32 q0k)], .one (.s (.int .i64 i))]).2.length) = z9f q00 q03 q02 q06 q01 q05 q09 q0b q0h q0l q0k i (fun c0_ => some ((AV.v (TV.one (At.flt FloatKind.f32 c0_))), [])) := by kernel_rfl
theorem z0x : SumOne Try.prog 84 z11 := sum_of (Γ := Γ0) (fuel := 8) (d := 8) tyTab_ok (FnL.ok fnTab_ok _ _) (LpL.ok lt0_ok) (SumL.ok tb0_ok _) mixed (by
  intro pts v news hp hc
  clear hc
  unfold z11 at hp
  split at hp
  · rename_i q00 q03 q02 q06 q01 q05 q09 q0b q0h q0l q0k i
    exact Eq.trans (Eq.trans (zp0 q00 q03 q02 q06 q01 q05 q09 q0b q0h q0l q0k i) (zn4 (zln q00 q03 q02 q06 q01 q05 q09 q0b q0h q0l q0k i) rfl q00 q03 q02 q06 q01 q05 q09 q0b q0h q0l q0k i (fun c0_ => some c0_))) (fin_out (o := (zln q00 q03 q02 q06 q01 q05 q09 q0b q0h q0l q0k i)) (x := z9e q00 q03 q02 q06 q01 q05 q09 q0b q0h q0l q0k i) (d := default) (V := fun r => ((AV.v (TV.one (At.flt FloatKind.f32 r))), [])) (fun r => rfl) hp)
  · cases hp)
noncomputable def z40 : List PT → Option (Bool × AV × List Blk)
  | [.one (.s (.int .i64 n_)), .one (.s (.int .i64 low)), .one (.s (.int .i64 q1m))] => some ((zjp n_ low q1m), ((AV.v (TV.one (At.bool (zi7 n_ low q1m)))), []))
  | _ => none
def zr7 (n_ : Int) (low : Int) (q1m : Int) : Option (Bool) → Option (AV × List Blk)
  | some r => some ((AV.v (TV.one (At.bool r))), [])
  | none => none
theorem zw7 (n_ : Int) (low : Int) (q1m : Int) : evFn Γ0 8 8 89 (impTs 0 [.one (.s (.int .i64 n_)), .one (.s (.int .i64 low)), .one (.s (.int .i64 q1m))]).1 (impTs 0 [.one (.s (.int .i64 n_)), .one (.s (.int .i64 low)), .one (.s (.int .i64 q1m))]).2 (expo (impTs 0 [.one (.s (.int .i64 n_)), .one (.s (.int .i64 low)), .one (.s (.int .i64 q1m))]).2.length) = zfz n_ low q1m (fun c0_ => some ((AV.v (TV.one (At.bool c0_))), [])) := by kernel_rfl
theorem z2y : SumOne Try.prog 89 z40 := sum_of (Γ := Γ0) (fuel := 8) (d := 8) tyTab_ok (FnL.ok fnTab_ok _ _) (LpL.ok lt0_ok) (SumL.ok tb0_ok _) mixed (by
  intro pts v news hp hc
  clear hc
  unfold z40 at hp
  split at hp
  · rename_i n_ low q1m
    exact Eq.trans (Eq.trans (zw7 n_ low q1m) (ztn (zr7 n_ low q1m) rfl n_ low q1m (fun c0_ => some c0_))) (fin_out (o := (zr7 n_ low q1m)) (x := zg6 n_ low q1m) (d := default) (V := fun r => ((AV.v (TV.one (At.bool r))), [])) (fun r => rfl) hp)
  · cases hp)
noncomputable def z6a : List PT → Option (Bool × AV × List Blk)
  | [] => some (zlt, ((AV.v (TV.one (At.flt FloatKind.f64 zjs))), []))
  | _ => none
def zv3  : Option (Nat) → Option (AV × List Blk)
  | some r => some ((AV.v (TV.one (At.flt FloatKind.f64 r))), [])
  | none => none
theorem zwn  : evFn Γ0 8 8 102 (impTs 0 []).1 (impTs 0 []).2 (expo (impTs 0 []).2.length) = zko (fun c0_ => some ((AV.v (TV.one (At.flt FloatKind.f64 c0_))), [])) := by kernel_rfl
theorem z50 : SumOne Try.prog 102 z6a := sum_of (Γ := Γ0) (fuel := 8) (d := 8) tyTab_ok (FnL.ok fnTab_ok _ _) (LpL.ok lt0_ok) (SumL.ok tb0_ok _) mixed (by
  intro pts v news hp hc
  clear hc
  unfold z6a at hp
  split at hp
  · exact Eq.trans (Eq.trans (zwn) (zvk zv3 rfl  (fun c0_ => some c0_))) (fin_out (o := zv3) (x := zkp) (d := default) (V := fun r => ((AV.v (TV.one (At.flt FloatKind.f64 r))), [])) (fun r => rfl) hp)
  · cases hp)
noncomputable def z1x : List PT → Option (Bool × AV × List Blk)
  | [.one (.row 3 a_n (.fl .f32 a)), .one (.s (.int .i64 q21))] => some ((zhx a_n a q21), ((AV.v (TV.one (At.int IntKind.i64 (zdd a_n a q21)))), []))
  | _ => none
def zmp (a_n : Nat) (a : List Nat) (q21 : Int) : Option (Int) → Option (AV × List Blk)
  | some r => some ((AV.v (TV.one (At.int IntKind.i64 r))), [])
  | none => none
theorem ztj (a_n : Nat) (a : List Nat) (q21 : Int) : evFn Γ0 8 8 112 (impTs 0 [.one (.row 3 a_n (.fl .f32 a)), .one (.s (.int .i64 q21))]).1 (impTs 0 [.one (.row 3 a_n (.fl .f32 a)), .one (.s (.int .i64 q21))]).2 (expo (impTs 0 [.one (.row 3 a_n (.fl .f32 a)), .one (.s (.int .i64 q21))]).2.length) = zbg a_n a q21 (fun c0_ => some ((AV.v (TV.one (At.int IntKind.i64 c0_))), [])) := by kernel_rfl
theorem z1j : SumOne Try.prog 112 z1x := sum_of (Γ := Γ0) (fuel := 8) (d := 8) tyTab_ok (FnL.ok fnTab_ok _ _) (LpL.ok lt0_ok) (SumL.ok tb0_ok _) mixed (by
  intro pts v news hp hc
  clear hc
  unfold z1x at hp
  split at hp
  · rename_i a_n a q21
    exact Eq.trans (Eq.trans (ztj a_n a q21) (zp8 (zmp a_n a q21) rfl a_n a q21 (fun c0_ => some c0_))) (fin_out (o := (zmp a_n a q21)) (x := zbh a_n a q21) (d := default) (V := fun r => ((AV.v (TV.one (At.int IntKind.i64 r))), [])) (fun r => rfl) hp)
  · cases hp)
noncomputable def z2b : List PT → Option (Bool × AV × List Blk)
  | [.one (.s (.flt .f32 x))] => some ((z4r x), ((AV.v (TV.one (At.bool (z49 x)))), []))
  | _ => none
def znr (x : Nat) : Option (Bool) → Option (AV × List Blk)
  | some r => some ((AV.v (TV.one (At.bool r))), [])
  | none => none
theorem zu7 (x : Nat) : evFn Γ0 8 8 115 (impTs 0 [.one (.s (.flt .f32 x))]).1 (impTs 0 [.one (.s (.flt .f32 x))]).2 (expo (impTs 0 [.one (.s (.flt .f32 x))]).2.length) = zf2 x (fun c0_ => some ((AV.v (TV.one (At.bool c0_))), [])) := by kernel_rfl
theorem z1u : SumOne Try.prog 115 z2b := sum_of (Γ := Γ0) (fuel := 8) (d := 8) tyTab_ok (FnL.ok fnTab_ok _ _) (LpL.ok lt0_ok) (SumL.ok tb0_ok _) mixed (by
  intro pts v news hp hc
  clear hc
  unfold z2b at hp
  split at hp
  · rename_i x
    exact Eq.trans (Eq.trans (zu7 x) (zqj (znr x) rfl x (fun c0_ => some c0_))) (fin_out (o := (znr x)) (x := zf5 x) (d := default) (V := fun r => ((AV.v (TV.one (At.bool r))), [])) (fun r => rfl) hp)
  · cases hp)
noncomputable def z2p : List PT → Option (Bool × AV × List Blk)
  | [.one (.s (.flt .f32 x)), .one (.s (.flt .f32 low)), .one (.s (.flt .f32 q1m))] => some ((zgq x low q1m), ((AV.v (TV.one (At.bool (zf0 x low q1m)))), []))
  | _ => none
def zo5 (x : Nat) (low : Nat) (q1m : Nat) : Option (Bool) → Option (AV × List Blk)
  | some r => some ((AV.v (TV.one (At.bool r))), [])
  | none => none
theorem zvb (x : Nat) (low : Nat) (q1m : Nat) : evFn Γ0 8 8 123 (impTs 0 [.one (.s (.flt .f32 x)), .one (.s (.flt .f32 low)), .one (.s (.flt .f32 q1m))]).1 (impTs 0 [.one (.s (.flt .f32 x)), .one (.s (.flt .f32 low)), .one (.s (.flt .f32 q1m))]).2 (expo (impTs 0 [.one (.s (.flt .f32 x)), .one (.s (.flt .f32 low)), .one (.s (.flt .f32 q1m))]).2.length) = zdf x low q1m (fun c0_ => some ((AV.v (TV.one (At.bool c0_))), [])) := by kernel_rfl
theorem z27 : SumOne Try.prog 123 z2p := sum_of (Γ := Γ0) (fuel := 8) (d := 8) tyTab_ok (FnL.ok fnTab_ok _ _) (LpL.ok lt0_ok) (SumL.ok tb0_ok _) mixed (by
  intro pts v news hp hc
  clear hc
  unfold z2p at hp
  split at hp
  · rename_i x low q1m
    exact Eq.trans (Eq.trans (zvb x low q1m) (zrg (zo5 x low q1m) rfl x low q1m (fun c0_ => some c0_))) (fin_out (o := (zo5 x low q1m)) (x := zdn x low q1m) (d := default) (V := fun r => ((AV.v (TV.one (At.bool r))), [])) (fun r => rfl) hp)
  · cases hp)
noncomputable def z4t : List PT → Option (Bool × AV × List Blk)
  | [.one (.s (.flt .f32 a)), .one (.s (.flt .f32 b)), .one (.s (.flt .f32 q2q))] => some ((zk8 a b q2q), ((AV.v (TV.one (At.flt FloatKind.f32 (zjj a b q2q)))), []))
  | _ => none
def zsd (a : Nat) (b : Nat) (q2q : Nat) : Option (Nat) → Option (AV × List Blk)
  | some r => some ((AV.v (TV.one (At.flt FloatKind.f32 r))), [])
  | none => none
theorem zwc (a : Nat) (b : Nat) (q2q : Nat) : evFn Γ0 8 8 126 (impTs 0 [.one (.s (.flt .f32 a)), .one (.s (.flt .f32 b)), .one (.s (.flt .f32 q2q))]).1 (impTs 0 [.one (.s (.flt .f32 a)), .one (.s (.flt .f32 b)), .one (.s (.flt .f32 q2q))]).2 (expo (impTs 0 [.one (.s (.flt .f32 a)), .one (.s (.flt .f32 b)), .one (.s (.flt .f32 q2q))]).2.length) = zkf a b q2q (fun c0_ => some ((AV.v (TV.one (At.flt FloatKind.f32 c0_))), [])) := by kernel_rfl
theorem z3f : SumOne Try.prog 126 z4t := sum_of (Γ := Γ0) (fuel := 8) (d := 8) tyTab_ok (FnL.ok fnTab_ok _ _) (LpL.ok lt0_ok) (SumL.ok tb0_ok _) mixed (by
  intro pts v news hp hc
  clear hc
  unfold z4t at hp
  split at hp
  · rename_i a b q2q
    exact Eq.trans (Eq.trans (zwc a b q2q) (ztx (zsd a b q2q) rfl a b q2q (fun c0_ => some c0_))) (fin_out (o := (zsd a b q2q)) (x := zkd a b q2q) (d := default) (V := fun r => ((AV.v (TV.one (At.flt FloatKind.f32 r))), [])) (fun r => rfl) hp)
  · cases hp)
noncomputable def z69 : List PT → Option (Bool × AV × List Blk)
  | [.one (.s (.flt .f64 x))] => some ((zn3 x), ((AV.v (TV.one (At.flt FloatKind.f64 (zm9 x)))), []))
  | _ => none
def zv5 (x : Nat) : Option (Nat) → Option (AV × List Blk)
  | some r => some ((AV.v (TV.one (At.flt FloatKind.f64 r))), [])
  | none => none
theorem zwm (x : Nat) : evFn Γ0 8 8 157 (impTs 0 [.one (.s (.flt .f64 x))]).1 (impTs 0 [.one (.s (.flt .f64 x))]).2 (expo (impTs 0 [.one (.s (.flt .f64 x))]).2.length) = zl0 x (fun c0_ => some ((AV.v (TV.one (At.flt FloatKind.f64 c0_))), [])) := by kernel_rfl
theorem z51 : SumOne Try.prog 157 z69 := sum_of (Γ := Γ0) (fuel := 8) (d := 8) tyTab_ok (FnL.ok fnTab_ok _ _) (LpL.ok lt0_ok) (SumL.ok tb0_ok _) mixed (by
  intro pts v news hp hc
  clear hc
  unfold z69 at hp
  split at hp
  · rename_i x
    exact Eq.trans (Eq.trans (zwm x) (zvt (zv5 x) rfl x (fun c0_ => some c0_))) (fin_out (o := (zv5 x)) (x := zkx x) (d := default) (V := fun r => ((AV.v (TV.one (At.flt FloatKind.f64 r))), [])) (fun r => rfl) hp)
  · cases hp)
noncomputable def z1y : List PT → Option (Bool × AV × List Blk)
  | [.one (.row 1 a_n (.fl .f32 a)), .one (.s (.int .i64 q21))] => some ((zbe a_n a q21), ((AV.v (TV.one (At.int IntKind.i64 (z4o a_n a q21)))), []))
  | _ => none
def zmx (a_n : Nat) (a : List Nat) (q21 : Int) : Option (Int) → Option (AV × List Blk)
  | some r => some ((AV.v (TV.one (At.int IntKind.i64 r))), [])
  | none => none
theorem ztg (a_n : Nat) (a : List Nat) (q21 : Int) : evFn Γ0 8 8 160 (impTs 0 [.one (.row 1 a_n (.fl .f32 a)), .one (.s (.int .i64 q21))]).1 (impTs 0 [.one (.row 1 a_n (.fl .f32 a)), .one (.s (.int .i64 q21))]).2 (expo (impTs 0 [.one (.row 1 a_n (.fl .f32 a)), .one (.s (.int .i64 q21))]).2.length) = zbd a_n a q21 (fun c0_ => some ((AV.v (TV.one (At.int IntKind.i64 c0_))), [])) := by kernel_rfl
theorem z1h : SumOne Try.prog 160 z1y := sum_of (Γ := Γ0) (fuel := 8) (d := 8) tyTab_ok (FnL.ok fnTab_ok _ _) (LpL.ok lt0_ok) (SumL.ok tb0_ok _) mixed (by
  intro pts v news hp hc
  clear hc
  unfold z1y at hp
  split at hp
  · rename_i a_n a q21
    exact Eq.trans (Eq.trans (ztg a_n a q21) (zoz (zmx a_n a q21) rfl a_n a q21 (fun c0_ => some c0_))) (fin_out (o := (zmx a_n a q21)) (x := zbq a_n a q21) (d := default) (V := fun r => ((AV.v (TV.one (At.int IntKind.i64 r))), [])) (fun r => rfl) hp)
  · cases hp)
noncomputable def z4p : List PT → Option (Bool × AV × List Blk)
  | [.one (.s (.int .i64 n_)), .one (.s (.int .i64 low)), .one (.s (.int .i64 q1m))] => some ((zkb n_ low q1m), ((AV.v (TV.one (At.bool (zjk n_ low q1m)))), []))
  | _ => none
def zrw (n_ : Int) (low : Int) (q1m : Int) : Option (Bool) → Option (AV × List Blk)
  | some r => some ((AV.v (TV.one (At.bool r))), [])
  | none => none
theorem zwh (n_ : Int) (low : Int) (q1m : Int) : evFn Γ0 8 8 162 (impTs 0 [.one (.s (.int .i64 n_)), .one (.s (.int .i64 low)), .one (.s (.int .i64 q1m))]).1 (impTs 0 [.one (.s (.int .i64 n_)), .one (.s (.int .i64 low)), .one (.s (.int .i64 q1m))]).2 (expo (impTs 0 [.one (.s (.int .i64 n_)), .one (.s (.int .i64 low)), .one (.s (.int .i64 q1m))]).2.length) = zik n_ low q1m (fun c0_ => some ((AV.v (TV.one (At.bool c0_))), [])) := by kernel_rfl
theorem z3h : SumOne Try.prog 162 z4p := sum_of (Γ := Γ0) (fuel := 8) (d := 8) tyTab_ok (FnL.ok fnTab_ok _ _) (LpL.ok lt0_ok) (SumL.ok tb0_ok _) mixed (by
  intro pts v news hp hc
  clear hc
  unfold z4p at hp
  split at hp
  · rename_i n_ low q1m
    exact Eq.trans (Eq.trans (zwh n_ low q1m) (zu2 (zrw n_ low q1m) rfl n_ low q1m (fun c0_ => some c0_))) (fin_out (o := (zrw n_ low q1m)) (x := ziy n_ low q1m) (d := default) (V := fun r => ((AV.v (TV.one (At.bool r))), [])) (fun r => rfl) hp)
  · cases hp)
noncomputable def z2a : List PT → Option (Bool × AV × List Blk)
  | [.agg [.s (.flt .f32 q27), .s (.flt .f32 q28), .s (.flt .f32 q29)]] => some ((zlj q27 q28 q29), ((AV.v (TV.agg [(At.flt FloatKind.f32 q27), (At.flt FloatKind.f32 q28), (At.flt FloatKind.f32 q29)])), []))
  | _ => none
def znb (q27 : Nat) (q28 : Nat) (q29 : Nat) : Option (Unit) → Option (AV × List Blk)
  | some r => some ((AV.v (TV.agg [(At.flt FloatKind.f32 q27), (At.flt FloatKind.f32 q28), (At.flt FloatKind.f32 q29)])), [])
  | none => none
theorem zu5 (q27 : Nat) (q28 : Nat) (q29 : Nat) : evFn Γ0 8 8 167 (impTs 0 [.agg [.s (.flt .f32 q27), .s (.flt .f32 q28), .s (.flt .f32 q29)]]).1 (impTs 0 [.agg [.s (.flt .f32 q27), .s (.flt .f32 q28), .s (.flt .f32 q29)]]).2 (expo (impTs 0 [.agg [.s (.flt .f32 q27), .s (.flt .f32 q28), .s (.flt .f32 q29)]]).2.length) = zf4 q27 q28 q29 (fun _ => some ((AV.v (TV.agg [(At.flt FloatKind.f32 q27), (At.flt FloatKind.f32 q28), (At.flt FloatKind.f32 q29)])), [])) := by kernel_rfl
theorem z1r : SumOne Try.prog 167 z2a := sum_of (Γ := Γ0) (fuel := 8) (d := 8) tyTab_ok (FnL.ok fnTab_ok _ _) (LpL.ok lt0_ok) (SumL.ok tb0_ok _) mixed (by
  intro pts v news hp hc
  clear hc
  unfold z2a at hp
  split at hp
  · rename_i q27 q28 q29
    exact Eq.trans (Eq.trans (zu5 q27 q28 q29) (zqm (znb q27 q28 q29) rfl q27 q28 q29 (fun _ => some ()))) (fin_out (o := (znb q27 q28 q29)) (x := znj q27 q28 q29) (d := default) (V := fun r => ((AV.v (TV.agg [(At.flt FloatKind.f32 q27), (At.flt FloatKind.f32 q28), (At.flt FloatKind.f32 q29)])), [])) (fun r => rfl) hp)
  · cases hp)
noncomputable def z3z : List PT → Option (Bool × AV × List Blk)
  | [.ptr [.row 1 q00 (.fl .f32 q03), .row 1 q02 (.fl .f32 q06), .row 1 q01 (.fl .f32 q05), .row 3 q09 (.fl .f32 q0b), .s (.int .i64 q0h), .s (.flt .f32 q0l), .s (.flt .f32 q0k)], .one (.s (.int .i64 i)), .one (.s (.flt .f32 q2r))] => some ((zlb q00 q03 q02 q06 q01 q05 q09 q0b q0h q0l q0k i q2r), ((AV.v (TV.one (At.flt FloatKind.f32 (zie q00 q03 q02 q06 q01 q05 q09 q0b q0h q0l q0k i q2r)))), []))
  | _ => none
def zr1 (q00 : Nat) (q03 : List Nat) (q02 : Nat) (q06 : List Nat) (q01 : Nat) (q05 : List Nat) (q09 : Nat) (q0b : List Nat) (q0h : Int) (q0l : Nat) (q0k : Nat) (i : Int) (q2r : Nat) : Option (Nat) → Option (AV × List Blk)
  | some r => some ((AV.v (TV.one (At.flt FloatKind.f32 r))), [])
  | none => none
theorem zwa (q00 : Nat) (q03 : List Nat) (q02 : Nat) (q06 : List Nat) (q01 : Nat) (q05 : List Nat) (q09 : Nat) (q0b : List Nat) (q0h : Int) (q0l : Nat) (q0k : Nat) (i : Int) (q2r : Nat) : evFn Γ0 8 8 175 (impTs 0 [.ptr [.row 1 q00 (.fl .f32 q03), .row 1 q02 (.fl .f32 q06), .row 1 q01 (.fl .f32 q05), .row 3 q09 (.fl .f32 q0b), .s (.int .i64 q0h), .s (.flt .f32 q0l), .s (.flt .f32 q0k)], .one (.s (.int .i64 i)), .one (.s (.flt .f32 q2r))]).1 (impTs 0 [.ptr [.row 1 q00 (.fl .f32 q03), .row 1 q02 (.fl .f32 q06), .row 1 q01 (.fl .f32 q05), .row 3 q09 (.fl .f32 q0b), .s (.int .i64 q0h), .s (.flt .f32 q0l), .s (.flt .f32 q0k)], .one (.s (.int .i64 i)), .one (.s (.flt .f32 q2r))]).2 (expo (impTs 0 [.ptr [.row 1 q00 (.fl .f32 q03), .row 1 q02 (.fl .f32 q06), .row 1 q01 (.fl .f32 q05), .row 3 q09 (.fl .f32 q0b), .s (.int .i64 q0h), .s (.flt .f32 q0l), .s (.flt .f32 q0k)], .one (.s (.int .i64 i)), .one (.s (.flt .f32 q2r))]).2.length) = zg4 q00 q03 q02 q06 q01 q05 q09 q0b q0h q0l q0k i q2r (fun c0_ => some ((AV.v (TV.one (At.flt FloatKind.f32 c0_))), [])) := by kernel_rfl
theorem z2z : SumOne Try.prog 175 z3z := sum_of (Γ := Γ0) (fuel := 8) (d := 8) tyTab_ok (FnL.ok fnTab_ok _ _) (LpL.ok lt0_ok) (SumL.ok tb0_ok _) mixed (by
  intro pts v news hp hc
  clear hc
  unfold z3z at hp
  split at hp
  · rename_i q00 q03 q02 q06 q01 q05 q09 q0b q0h q0l q0k i q2r
    exact Eq.trans (Eq.trans (zwa q00 q03 q02 q06 q01 q05 q09 q0b q0h q0l q0k i q2r) (zt3 (zr1 q00 q03 q02 q06 q01 q05 q09 q0b q0h q0l q0k i q2r) rfl q00 q03 q02 q06 q01 q05 q09 q0b q0h q0l q0k i q2r (fun c0_ => some c0_))) (fin_out (o := (zr1 q00 q03 q02 q06 q01 q05 q09 q0b q0h q0l q0k i q2r)) (x := zg0 q00 q03 q02 q06 q01 q05 q09 q0b q0h q0l q0k i q2r) (d := default) (V := fun r => ((AV.v (TV.one (At.flt FloatKind.f32 r))), [])) (fun r => rfl) hp)
  · cases hp)
noncomputable def z1o : List PT → Option (Bool × AV × List Blk)
  | [.ptr [.row 1 q00 (.fl .f32 q03), .row 1 q02 (.fl .f32 q06), .row 1 q01 (.fl .f32 q05), .row 3 q09 (.fl .f32 q0b), .s (.int .i64 q0h), .s (.flt .f32 q0l), .s (.flt .f32 q0k)], .one (.s (.int .i64 i))] => some ((zh0 q00 q03 q02 q06 q01 q05 q09 q0b q0h q0l q0k i), ((AV.v (TV.one (At.flt FloatKind.f32 (zce q00 q03 q02 q06 q01 q05 q09 q0b q0h q0l q0k i)))), []))
  | _ => none
def zmb (q00 : Nat) (q03 : List Nat) (q02 : Nat) (q06 : List Nat) (q01 : Nat) (q05 : List Nat) (q09 : Nat) (q0b : List Nat) (q0h : Int) (q0l : Nat) (q0k : Nat) (i : Int) : Option (Nat) → Option (AV × List Blk)
  | some r => some ((AV.v (TV.one (At.flt FloatKind.f32 r))), [])
  | none => none
theorem zsj (q00 : Nat) (q03 : List Nat) (q02 : Nat) (q06 : List Nat) (q01 : Nat) (q05 : List Nat) (q09 : Nat) (q0b : List Nat) (q0h : Int) (q0l : Nat) (q0k : Nat) (i : Int) : evFn Γ0 8 8 176 (impTs 0 [.ptr [.row 1 q00 (.fl .f32 q03), .row 1 q02 (.fl .f32 q06), .row 1 q01 (.fl .f32 q05), .row 3 q09 (.fl .f32 q0b), .s (.int .i64 q0h), .s (.flt .f32 q0l), .s (.flt .f32 q0k)], .one (.s (.int .i64 i))]).1 (impTs 0 [.ptr [.row 1 q00 (.fl .f32 q03), .row 1 q02 (.fl .f32 q06), .row 1 q01 (.fl .f32 q05), .row 3 q09 (.fl .f32 q0b), .s (.int .i64 q0h), .s (.flt .f32 q0l), .s (.flt .f32 q0k)], .one (.s (.int .i64 i))]).2 (expo (impTs 0 [.ptr [.row 1 q00 (.fl .f32 q03), .row 1 q02 (.fl .f32 q06), .row 1 q01 (.fl .f32 q05), .row 3 q09 (.fl .f32 q0b), .s (.int .i64 q0h), .s (.flt .f32 q0l), .s (.flt .f32 q0k)], .one (.s (.int .i64 i))]).2.length) = zax q00 q03 q02 q06 q01 q05 q09 q0b q0h q0l q0k i (fun c0_ => some ((AV.v (TV.one (At.flt FloatKind.f32 c0_))), [])) := by kernel_rfl
theorem z18 : SumOne Try.prog 176 z1o := sum_of (Γ := Γ0) (fuel := 8) (d := 8) tyTab_ok (FnL.ok fnTab_ok _ _) (LpL.ok lt0_ok) (SumL.ok tb0_ok _) mixed (by
  intro pts v news hp hc
  clear hc
  unfold z1o at hp
  split at hp
  · rename_i q00 q03 q02 q06 q01 q05 q09 q0b q0h q0l q0k i
    exact Eq.trans (Eq.trans (zsj q00 q03 q02 q06 q01 q05 q09 q0b q0h q0l q0k i) (zok (zmb q00 q03 q02 q06 q01 q05 q09 q0b q0h q0l q0k i) rfl q00 q03 q02 q06 q01 q05 q09 q0b q0h q0l q0k i (fun c0_ => some c0_))) (fin_out (o := (zmb q00 q03 q02 q06 q01 q05 q09 q0b q0h q0l q0k i)) (x := zav q00 q03 q02 q06 q01 q05 q09 q0b q0h q0l q0k i) (d := default) (V := fun r => ((AV.v (TV.one (At.flt FloatKind.f32 r))), [])) (fun r => rfl) hp)
  · cases hp)
noncomputable def z29 : List PT → Option (Bool × AV × List Blk)
  | [.one (.s (.flt .f64 x))] => some ((zf1 x), ((AV.v (TV.one (At.flt FloatKind.f32 (zc4 x)))), []))
  | _ => none
def znc (x : Nat) : Option (Nat) → Option (AV × List Blk)
  | some r => some ((AV.v (TV.one (At.flt FloatKind.f32 r))), [])
  | none => none
theorem zu3 (x : Nat) : evFn Γ0 8 8 187 (impTs 0 [.one (.s (.flt .f64 x))]).1 (impTs 0 [.one (.s (.flt .f64 x))]).2 (expo (impTs 0 [.one (.s (.flt .f64 x))]).2.length) = zcr x (fun c0_ => some ((AV.v (TV.one (At.flt FloatKind.f32 c0_))), [])) := by kernel_rfl
theorem z1s : SumOne Try.prog 187 z29 := sum_of (Γ := Γ0) (fuel := 8) (d := 8) tyTab_ok (FnL.ok fnTab_ok _ _) (LpL.ok lt0_ok) (SumL.ok tb0_ok _) mixed (by
  intro pts v news hp hc
  clear hc
  unfold z29 at hp
  split at hp
  · rename_i x
    exact Eq.trans (Eq.trans (zu3 x) (zqd (znc x) rfl x (fun c0_ => some c0_))) (fin_out (o := (znc x)) (x := zd5 x) (d := default) (V := fun r => ((AV.v (TV.one (At.flt FloatKind.f32 r))), [])) (fun r => rfl) hp)
  · cases hp)
noncomputable def tb1 : List (Nat × (List PT → Option (Bool × AV × List Blk))) := [(156, z0w), (181, z1d), (182, z21), (189, z22), (26, z2q), (55, z28), (84, z11), (89, z40), (102, z6a), (112, z1x), (115, z2b), (123, z2p), (126, z4t), (157, z69), (160, z1y), (162, z4p), (167, z2a), (175, z3z), (176, z1o), (187, z29)]
noncomputable def lt1 : List ((Nat × Nat) × (Nat → St → Option (Bool × LO))) := []
noncomputable def Γ1 : Ctx := ⟨tyTab, fnTab, tblSum tb1, tblLp lt1⟩
theorem tb1_ok : SumL Try.prog tb1 := SumL.cons z0r (SumL.cons z16 (SumL.cons z1l (SumL.cons z1n (SumL.cons z26 (SumL.cons z1t (SumL.cons z0x (SumL.cons z2y (SumL.cons z50 (SumL.cons z1j (SumL.cons z1u (SumL.cons z27 (SumL.cons z3f (SumL.cons z51 (SumL.cons z1h (SumL.cons z3h (SumL.cons z1r (SumL.cons z2z (SumL.cons z18 (SumL.cons z1s (SumL.nil))))))))))))))))))))
theorem lt1_ok : LpL Try.prog fnTab lt1 := LpL.nil
noncomputable def z3n : List PT → Option (Bool × AV × List Blk)
  | [.one (.s (.flt .f32 x))] => some ((zkt x), ((AV.tup [(TV.one (At.flt FloatKind.f32 (zk4 x))), (TV.one (At.bool (zk6 x)))]), []))
  | _ => none
def zpk (x : Nat) : Option (Nat × Bool) → Option (AV × List Blk)
  | some r => some ((AV.tup [(TV.one (At.flt FloatKind.f32 r.1)), (TV.one (At.bool r.2))]), [])
  | none => none
theorem zvv (x : Nat) : evFn Γ1 8 8 74 (impTs 0 [.one (.s (.flt .f32 x))]).1 (impTs 0 [.one (.s (.flt .f32 x))]).2 (expo (impTs 0 [.one (.s (.flt .f32 x))]).2.length) = zen x (fun c0_ c1_ => some ((AV.tup [(TV.one (At.flt FloatKind.f32 c0_)), (TV.one (At.bool c1_))]), [])) := by kernel_rfl
theorem z2v : SumOne Try.prog 74 z3n := sum_of (Γ := Γ1) (fuel := 8) (d := 8) tyTab_ok (FnL.ok fnTab_ok _ _) (LpL.ok lt1_ok) (SumL.ok tb1_ok _) mixed (by
  intro pts v news hp hc
  clear hc
  unfold z3n at hp
  split at hp
  · rename_i x
    exact Eq.trans (Eq.trans (zvv x) (zs9 (zpk x) rfl x (fun c0_ c1_ => some (c0_, c1_)))) (fin_out (o := (zpk x)) (x := zd3 x) (d := default) (V := fun r => ((AV.tup [(TV.one (At.flt FloatKind.f32 r.1)), (TV.one (At.bool r.2))]), [])) (fun r => rfl) hp)
  · cases hp)
noncomputable def z10 : List PT → Option (Bool × AV × List Blk)
  | [.agg [.row 1 q00 (.fl .f32 q03), .row 1 q02 (.fl .f32 q06), .row 1 q01 (.fl .f32 q05), .row 3 q09 (.fl .f32 q0b), .s (.int .i64 q0h), .s (.flt .f32 q0l), .s (.flt .f32 q0k)], .one (.s (.int .i64 i))] => some ((zd9 q00 q03 q02 q06 q01 q05 q09 q0b q0h q0l q0k i), ((AV.v (TV.one (At.bool (zc7 q00 q03 q02 q06 q01 q05 q09 q0b q0h q0l q0k i)))), []))
  | _ => none
def zl9 (q00 : Nat) (q03 : List Nat) (q02 : Nat) (q06 : List Nat) (q01 : Nat) (q05 : List Nat) (q09 : Nat) (q0b : List Nat) (q0h : Int) (q0l : Nat) (q0k : Nat) (i : Int) : Option (Bool) → Option (AV × List Blk)
  | some r => some ((AV.v (TV.one (At.bool r))), [])
  | none => none
theorem zow (q00 : Nat) (q03 : List Nat) (q02 : Nat) (q06 : List Nat) (q01 : Nat) (q05 : List Nat) (q09 : Nat) (q0b : List Nat) (q0h : Int) (q0l : Nat) (q0k : Nat) (i : Int) : evFn Γ1 8 8 83 (impTs 0 [.agg [.row 1 q00 (.fl .f32 q03), .row 1 q02 (.fl .f32 q06), .row 1 q01 (.fl .f32 q05), .row 3 q09 (.fl .f32 q0b), .s (.int .i64 q0h), .s (.flt .f32 q0l), .s (.flt .f32 q0k)], .one (.s (.int .i64 i))]).1 (impTs 0 [.agg [.row 1 q00 (.fl .f32 q03), .row 1 q02 (.fl .f32 q06), .row 1 q01 (.fl .f32 q05), .row 3 q09 (.fl .f32 q0b), .s (.int .i64 q0h), .s (.flt .f32 q0l), .s (.flt .f32 q0k)], .one (.s (.int .i64 i))]).2 (expo (impTs 0 [.agg [.row 1 q00 (.fl .f32 q03), .row 1 q02 (.fl .f32 q06), .row 1 q01 (.fl .f32 q05), .row 3 q09 (.fl .f32 q0b), .s (.int .i64 q0h), .s (.flt .f32 q0l), .s (.flt .f32 q0k)], .one (.s (.int .i64 i))]).2.length) = z90 q00 q03 q02 q06 q01 q05 q09 q0b q0h q0l q0k i (fun c0_ => some ((AV.v (TV.one (At.bool c0_))), [])) := by kernel_rfl
theorem z0y : SumOne Try.prog 83 z10 := sum_of (Γ := Γ1) (fuel := 8) (d := 8) tyTab_ok (FnL.ok fnTab_ok _ _) (LpL.ok lt1_ok) (SumL.ok tb1_ok _) mixed (by
  intro pts v news hp hc
  clear hc
  unfold z10 at hp
  split at hp
  · rename_i q00 q03 q02 q06 q01 q05 q09 q0b q0h q0l q0k i
    exact Eq.trans (Eq.trans (zow q00 q03 q02 q06 q01 q05 q09 q0b q0h q0l q0k i) (zmh (zl9 q00 q03 q02 q06 q01 q05 q09 q0b q0h q0l q0k i) rfl q00 q03 q02 q06 q01 q05 q09 q0b q0h q0l q0k i (fun c0_ => some c0_))) (fin_out (o := (zl9 q00 q03 q02 q06 q01 q05 q09 q0b q0h q0l q0k i)) (x := z8y q00 q03 q02 q06 q01 q05 q09 q0b q0h q0l q0k i) (d := default) (V := fun r => ((AV.v (TV.one (At.bool r))), [])) (fun r => rfl) hp)
  · cases hp)
noncomputable def z4e : List PT → Option (Bool × AV × List Blk)
  | [.one (.s (.flt .f32 q15))] => some ((zld q15), ((AV.v (TV.one (At.bool (zl3 q15)))), []))
  | _ => none
def zr0 (q15 : Nat) : Option (Bool) → Option (AV × List Blk)
  | some r => some ((AV.v (TV.one (At.bool r))), [])
  | none => none
theorem zw2 (q15 : Nat) : evFn Γ1 8 8 85 (impTs 0 [.one (.s (.flt .f32 q15))]).1 (impTs 0 [.one (.s (.flt .f32 q15))]).2 (expo (impTs 0 [.one (.s (.flt .f32 q15))]).2.length) = zfx q15 (fun c0_ => some ((AV.v (TV.one (At.bool c0_))), [])) := by kernel_rfl
theorem z3a : SumOne Try.prog 85 z4e := sum_of (Γ := Γ1) (fuel := 8) (d := 8) tyTab_ok (FnL.ok fnTab_ok _ _) (LpL.ok lt1_ok) (SumL.ok tb1_ok _) mixed (by
  intro pts v news hp hc
  clear hc
  unfold z4e at hp
  split at hp
  · rename_i q15
    exact Eq.trans (Eq.trans (zw2 q15) (ztm (zr0 q15) rfl q15 (fun c0_ => some c0_))) (fin_out (o := (zr0 q15)) (x := zg5 q15) (d := default) (V := fun r => ((AV.v (TV.one (At.bool r))), [])) (fun r => rfl) hp)
  · cases hp)
noncomputable def z3o : List PT → Option (Bool × AV × List Blk)
  | [.one (.s (.flt .f32 x))] => some ((ziq x), ((AV.v (TV.one (At.bool (zgu x)))), []))
  | _ => none
def zpl (x : Nat) : Option (Bool) → Option (AV × List Blk)
  | some r => some ((AV.v (TV.one (At.bool r))), [])
  | none => none
theorem zvx (x : Nat) : evFn Γ1 8 8 90 (impTs 0 [.one (.s (.flt .f32 x))]).1 (impTs 0 [.one (.s (.flt .f32 x))]).2 (expo (impTs 0 [.one (.s (.flt .f32 x))]).2.length) = zej x (fun c0_ => some ((AV.v (TV.one (At.bool c0_))), [])) := by kernel_rfl
theorem z2u : SumOne Try.prog 90 z3o := sum_of (Γ := Γ1) (fuel := 8) (d := 8) tyTab_ok (FnL.ok fnTab_ok _ _) (LpL.ok lt1_ok) (SumL.ok tb1_ok _) mixed (by
  intro pts v news hp hc
  clear hc
  unfold z3o at hp
  split at hp
  · rename_i x
    exact Eq.trans (Eq.trans (zvx x) (zry (zpl x) rfl x (fun c0_ => some c0_))) (fin_out (o := (zpl x)) (x := zeh x) (d := default) (V := fun r => ((AV.v (TV.one (At.bool r))), [])) (fun r => rfl) hp)
  · cases hp)
noncomputable def z4d : List PT → Option (Bool × AV × List Blk)
  | [.one (.s (.flt .f64 x))] => some ((zlf x), ((AV.v (TV.one (At.bool (zl2 x)))), []))
  | _ => none
def zr3 (x : Nat) : Option (Bool) → Option (AV × List Blk)
  | some r => some ((AV.v (TV.one (At.bool r))), [])
  | none => none
theorem zw3 (x : Nat) : evFn Γ1 8 8 103 (impTs 0 [.one (.s (.flt .f64 x))]).1 (impTs 0 [.one (.s (.flt .f64 x))]).2 (expo (impTs 0 [.one (.s (.flt .f64 x))]).2.length) = zfy x (fun c0_ => some ((AV.v (TV.one (At.bool c0_))), [])) := by kernel_rfl
theorem z3b : SumOne Try.prog 103 z4d := sum_of (Γ := Γ1) (fuel := 8) (d := 8) tyTab_ok (FnL.ok fnTab_ok _ _) (LpL.ok lt1_ok) (SumL.ok tb1_ok _) mixed (by
  intro pts v news hp hc
  clear hc
  unfold z4d at hp
  split at hp
  · rename_i x
    exact Eq.trans (Eq.trans (zw3 x) (ztf (zr3 x) rfl x (fun c0_ => some c0_))) (fin_out (o := (zr3 x)) (x := zg3 x) (d := default) (V := fun r => ((AV.v (TV.one (At.bool r))), [])) (fun r => rfl) hp)
  · cases hp)
noncomputable def z2l : List PT → Option (Bool × AV × List Blk)
  | [.agg [.row 1 q17 (.fl .f32 q1l), .row 1 q1c (.fl .f32 q1o), .row 1 q1d (.fl .f32 q1p)], .one (.s (.int .i64 q21))] => some ((zj9 q17 q1l q1c q1o q1d q1p q21), ((AV.v (TV.one (At.int IntKind.i64 (za2 q17 q1l q1c q1o q1d q1p q21)))), []))
  | _ => none
def zne (q17 : Nat) (q1l : List Nat) (q1c : Nat) (q1o : List Nat) (q1d : Nat) (q1p : List Nat) (q21 : Int) : Option (Int) → Option (AV × List Blk)
  | some r => some ((AV.v (TV.one (At.int IntKind.i64 r))), [])
  | none => none
theorem zu4 (q17 : Nat) (q1l : List Nat) (q1c : Nat) (q1o : List Nat) (q1d : Nat) (q1p : List Nat) (q21 : Int) : evFn Γ1 8 8 111 (impTs 0 [.agg [.row 1 q17 (.fl .f32 q1l), .row 1 q1c (.fl .f32 q1o), .row 1 q1d (.fl .f32 q1p)], .one (.s (.int .i64 q21))]).1 (impTs 0 [.agg [.row 1 q17 (.fl .f32 q1l), .row 1 q1c (.fl .f32 q1o), .row 1 q1d (.fl .f32 q1p)], .one (.s (.int .i64 q21))]).2 (expo (impTs 0 [.agg [.row 1 q17 (.fl .f32 q1l), .row 1 q1c (.fl .f32 q1o), .row 1 q1d (.fl .f32 q1p)], .one (.s (.int .i64 q21))]).2.length) = zd4 q17 q1l q1c q1o q1d q1p q21 (fun c0_ => some ((AV.v (TV.one (At.int IntKind.i64 c0_))), [])) := by kernel_rfl
theorem z24 : SumOne Try.prog 111 z2l := sum_of (Γ := Γ1) (fuel := 8) (d := 8) tyTab_ok (FnL.ok fnTab_ok _ _) (LpL.ok lt1_ok) (SumL.ok tb1_ok _) mixed (by
  intro pts v news hp hc
  clear hc
  unfold z2l at hp
  split at hp
  · rename_i q17 q1l q1c q1o q1d q1p q21
    exact Eq.trans (Eq.trans (zu4 q17 q1l q1c q1o q1d q1p q21) (zqr (zne q17 q1l q1c q1o q1d q1p q21) rfl q17 q1l q1c q1o q1d q1p q21 (fun c0_ => some c0_))) (fin_out (o := (zne q17 q1l q1c q1o q1d q1p q21)) (x := zcm q17 q1l q1c q1o q1d q1p q21) (d := default) (V := fun r => ((AV.v (TV.one (At.int IntKind.i64 r))), [])) (fun r => rfl) hp)
  · cases hp)
noncomputable def z32 : List PT → Option (Bool × AV × List Blk)
  | [.ptr [.row 1 q00 (.fl .f32 q03), .row 1 q02 (.fl .f32 q06), .row 1 q01 (.fl .f32 q05), .row 3 q09 (.fl .f32 q0b), .s (.int .i64 q0h), .s (.flt .f32 q0l), .s (.flt .f32 q0k)], .one (.s (.int .i64 i)), .one (.s (.flt .f32 q0m))] => some ((zk5 q00 q03 q02 q06 q01 q05 q09 q0b q0h q0l q0k i q0m), ((AV.v (TV.one (At.bool (zjf q00 q03 q02 q06 q01 q05 q09 q0b q0h q0l q0k i q0m)))), []))
  | _ => none
def zob (q00 : Nat) (q03 : List Nat) (q02 : Nat) (q06 : List Nat) (q01 : Nat) (q05 : List Nat) (q09 : Nat) (q0b : List Nat) (q0h : Int) (q0l : Nat) (q0k : Nat) (i : Int) (q0m : Nat) : Option (Bool) → Option (AV × List Blk)
  | some r => some ((AV.v (TV.one (At.bool r))), [])
  | none => none
theorem zuw (q00 : Nat) (q03 : List Nat) (q02 : Nat) (q06 : List Nat) (q01 : Nat) (q05 : List Nat) (q09 : Nat) (q0b : List Nat) (q0h : Int) (q0l : Nat) (q0k : Nat) (i : Int) (q0m : Nat) : evFn Γ1 8 8 116 (impTs 0 [.ptr [.row 1 q00 (.fl .f32 q03), .row 1 q02 (.fl .f32 q06), .row 1 q01 (.fl .f32 q05), .row 3 q09 (.fl .f32 q0b), .s (.int .i64 q0h), .s (.flt .f32 q0l), .s (.flt .f32 q0k)], .one (.s (.int .i64 i)), .one (.s (.flt .f32 q0m))]).1 (impTs 0 [.ptr [.row 1 q00 (.fl .f32 q03), .row 1 q02 (.fl .f32 q06), .row 1 q01 (.fl .f32 q05), .row 3 q09 (.fl .f32 q0b), .s (.int .i64 q0h), .s (.flt .f32 q0l), .s (.flt .f32 q0k)], .one (.s (.int .i64 i)), .one (.s (.flt .f32 q0m))]).2 (expo (impTs 0 [.ptr [.row 1 q00 (.fl .f32 q03), .row 1 q02 (.fl .f32 q06), .row 1 q01 (.fl .f32 q05), .row 3 q09 (.fl .f32 q0b), .s (.int .i64 q0h), .s (.flt .f32 q0l), .s (.flt .f32 q0k)], .one (.s (.int .i64 i)), .one (.s (.flt .f32 q0m))]).2.length) = zdj q00 q03 q02 q06 q01 q05 q09 q0b q0h q0l q0k i q0m (fun c0_ => some ((AV.v (TV.one (At.bool c0_))), [])) := by kernel_rfl
theorem z2g : SumOne Try.prog 116 z32 := sum_of (Γ := Γ1) (fuel := 8) (d := 8) tyTab_ok (FnL.ok fnTab_ok _ _) (LpL.ok lt1_ok) (SumL.ok tb1_ok _) mixed (by
  intro pts v news hp hc
  clear hc
  unfold z32 at hp
  split at hp
  · rename_i q00 q03 q02 q06 q01 q05 q09 q0b q0h q0l q0k i q0m
    exact Eq.trans (Eq.trans (zuw q00 q03 q02 q06 q01 q05 q09 q0b q0h q0l q0k i q0m) (zrk (zob q00 q03 q02 q06 q01 q05 q09 q0b q0h q0l q0k i q0m) rfl q00 q03 q02 q06 q01 q05 q09 q0b q0h q0l q0k i q0m (fun c0_ => some c0_))) (fin_out (o := (zob q00 q03 q02 q06 q01 q05 q09 q0b q0h q0l q0k i q0m)) (x := zdq q00 q03 q02 q06 q01 q05 q09 q0b q0h q0l q0k i q0m) (d := default) (V := fun r => ((AV.v (TV.one (At.bool r))), [])) (fun r => rfl) hp)
  · cases hp)
noncomputable def z4f : List PT → Option (Bool × AV × List Blk)
  | [.one (.s (.flt .f32 x)), .one (.s (.flt .f32 y))] => some ((zlg x y), ((AV.tup [(TV.one (At.flt FloatKind.f32 (zks x y))), (TV.one (At.flt FloatKind.f32 (zkw x y))), (TV.one (At.bool (zkr x y)))]), []))
  | _ => none
def zr8 (x : Nat) (y : Nat) : Option (Nat × Nat × Bool) → Option (AV × List Blk)
  | some r => some ((AV.tup [(TV.one (At.flt FloatKind.f32 r.1)), (TV.one (At.flt FloatKind.f32 r.2.1)), (TV.one (At.bool r.2.2))]), [])
  | none => none
theorem zw6 (x : Nat) (y : Nat) : evFn Γ1 8 8 117 (impTs 0 [.one (.s (.flt .f32 x)), .one (.s (.flt .f32 y))]).1 (impTs 0 [.one (.s (.flt .f32 x)), .one (.s (.flt .f32 y))]).2 (expo (impTs 0 [.one (.s (.flt .f32 x)), .one (.s (.flt .f32 y))]).2.length) = zg7 x y (fun c0_ c1_ c2_ => some ((AV.tup [(TV.one (At.flt FloatKind.f32 c0_)), (TV.one (At.flt FloatKind.f32 c1_)), (TV.one (At.bool c2_))]), [])) := by kernel_rfl
theorem z3c : SumOne Try.prog 117 z4f := sum_of (Γ := Γ1) (fuel := 8) (d := 8) tyTab_ok (FnL.ok fnTab_ok _ _) (LpL.ok lt1_ok) (SumL.ok tb1_ok _) mixed (by
  intro pts v news hp hc
  clear hc
  unfold z4f at hp
  split at hp
  · rename_i x y
    exact Eq.trans (Eq.trans (zw6 x y) (ztu (zr8 x y) rfl x y (fun c0_ c1_ c2_ => some (c0_, c1_, c2_)))) (fin_out (o := (zr8 x y)) (x := zc5 x y) (d := default) (V := fun r => ((AV.tup [(TV.one (At.flt FloatKind.f32 r.1)), (TV.one (At.flt FloatKind.f32 r.2.1)), (TV.one (At.bool r.2.2))]), [])) (fun r => rfl) hp)
  · cases hp)
noncomputable def z30 : List PT → Option (Bool × AV × List Blk)
  | [.one (.s (.flt .f32 x))] => some ((zdo x), ((AV.v (TV.one (At.bool (zcz x)))), []))
  | _ => none
def zo9 (x : Nat) : Option (Bool) → Option (AV × List Blk)
  | some r => some ((AV.v (TV.one (At.bool r))), [])
  | none => none
theorem zur (x : Nat) : evFn Γ1 8 8 138 (impTs 0 [.one (.s (.flt .f32 x))]).1 (impTs 0 [.one (.s (.flt .f32 x))]).2 (expo (impTs 0 [.one (.s (.flt .f32 x))]).2.length) = zdg x (fun c0_ => some ((AV.v (TV.one (At.bool c0_))), [])) := by kernel_rfl
theorem z2i : SumOne Try.prog 138 z30 := sum_of (Γ := Γ1) (fuel := 8) (d := 8) tyTab_ok (FnL.ok fnTab_ok _ _) (LpL.ok lt1_ok) (SumL.ok tb1_ok _) mixed (by
  intro pts v news hp hc
  clear hc
  unfold z30 at hp
  split at hp
  · rename_i x
    exact Eq.trans (Eq.trans (zur x) (zrm (zo9 x) rfl x (fun c0_ => some c0_))) (fin_out (o := (zo9 x)) (x := zdi x) (d := default) (V := fun r => ((AV.v (TV.one (At.bool r))), [])) (fun r => rfl) hp)
  · cases hp)
noncomputable def z1v : List PT → Option (Bool × AV × List Blk)
  | [.one (.s (.flt .f32 x))] => some ((zh4 x), ((AV.v (TV.one (At.bool (zfc x)))), []))
  | _ => none
def zme (x : Nat) : Option (Bool) → Option (AV × List Blk)
  | some r => some ((AV.v (TV.one (At.bool r))), [])
  | none => none
theorem zs5 (x : Nat) : evFn Γ1 8 8 148 (impTs 0 [.one (.s (.flt .f32 x))]).1 (impTs 0 [.one (.s (.flt .f32 x))]).2 (expo (impTs 0 [.one (.s (.flt .f32 x))]).2.length) = zar x (fun c0_ => some ((AV.v (TV.one (At.bool c0_))), [])) := by kernel_rfl
theorem z1f : SumOne Try.prog 148 z1v := sum_of (Γ := Γ1) (fuel := 8) (d := 8) tyTab_ok (FnL.ok fnTab_ok _ _) (LpL.ok lt1_ok) (SumL.ok tb1_ok _) mixed (by
  intro pts v news hp hc
  clear hc
  unfold z1v at hp
  split at hp
  · rename_i x
    exact Eq.trans (Eq.trans (zs5 x) (zom (zme x) rfl x (fun c0_ => some c0_))) (fin_out (o := (zme x)) (x := zap x) (d := default) (V := fun r => ((AV.v (TV.one (At.bool r))), [])) (fun r => rfl) hp)
  · cases hp)
noncomputable def z1b : List PT → Option (Bool × AV × List Blk)
  | [.one (.s (.flt .f32 x))] => some ((ze8 x), ((AV.v (TV.one (At.bool (zdp x)))), []))
  | _ => none
def zlu (x : Nat) : Option (Bool) → Option (AV × List Blk)
  | some r => some ((AV.v (TV.one (At.bool r))), [])
  | none => none
theorem zqb (x : Nat) : evFn Γ1 8 8 150 (impTs 0 [.one (.s (.flt .f32 x))]).1 (impTs 0 [.one (.s (.flt .f32 x))]).2 (expo (impTs 0 [.one (.s (.flt .f32 x))]).2.length) = z9r x (fun c0_ => some ((AV.v (TV.one (At.bool c0_))), [])) := by kernel_rfl
theorem z15 : SumOne Try.prog 150 z1b := sum_of (Γ := Γ1) (fuel := 8) (d := 8) tyTab_ok (FnL.ok fnTab_ok _ _) (LpL.ok lt1_ok) (SumL.ok tb1_ok _) mixed (by
  intro pts v news hp hc
  clear hc
  unfold z1b at hp
  split at hp
  · rename_i x
    exact Eq.trans (Eq.trans (zqb x) (znl (zlu x) rfl x (fun c0_ => some c0_))) (fin_out (o := (zlu x)) (x := z9q x) (d := default) (V := fun r => ((AV.v (TV.one (At.bool r))), [])) (fun r => rfl) hp)
  · cases hp)
noncomputable def z2m : List PT → Option (Bool × AV × List Blk)
  | [.agg [.s (.flt .f32 q27), .s (.flt .f32 q28), .s (.flt .f32 q29)], .agg [.s (.flt .f32 q2h), .s (.flt .f32 q2k), .s (.flt .f32 q2j)]] => some ((zji q27 q28 q29 q2h q2k q2j), ((AV.v (TV.one (At.bool (zhs q27 q28 q29 q2h q2k q2j)))), []))
  | _ => none
def zna (q27 : Nat) (q28 : Nat) (q29 : Nat) (q2h : Nat) (q2k : Nat) (q2j : Nat) : Option (Bool) → Option (AV × List Blk)
  | some r => some ((AV.v (TV.one (At.bool r))), [])
  | none => none
theorem zue (q27 : Nat) (q28 : Nat) (q29 : Nat) (q2h : Nat) (q2k : Nat) (q2j : Nat) : evFn Γ1 8 8 169 (impTs 0 [.agg [.s (.flt .f32 q27), .s (.flt .f32 q28), .s (.flt .f32 q29)], .agg [.s (.flt .f32 q2h), .s (.flt .f32 q2k), .s (.flt .f32 q2j)]]).1 (impTs 0 [.agg [.s (.flt .f32 q27), .s (.flt .f32 q28), .s (.flt .f32 q29)], .agg [.s (.flt .f32 q2h), .s (.flt .f32 q2k), .s (.flt .f32 q2j)]]).2 (expo (impTs 0 [.agg [.s (.flt .f32 q27), .s (.flt .f32 q28), .s (.flt .f32 q29)], .agg [.s (.flt .f32 q2h), .s (.flt .f32 q2k), .s (.flt .f32 q2j)]]).2.length) = zcv q27 q28 q29 q2h q2k q2j (fun c0_ => some ((AV.v (TV.one (At.bool c0_))), [])) := by kernel_rfl
theorem z23 : SumOne Try.prog 169 z2m := sum_of (Γ := Γ1) (fuel := 8) (d := 8) tyTab_ok (FnL.ok fnTab_ok _ _) (LpL.ok lt1_ok) (SumL.ok tb1_ok _) mixed (by
  intro pts v news hp hc
  clear hc
  unfold z2m at hp
  split at hp
  · rename_i q27 q28 q29 q2h q2k q2j
    exact Eq.trans (Eq.trans (zue q27 q28 q29 q2h q2k q2j) (zqc (zna q27 q28 q29 q2h q2k q2j) rfl q27 q28 q29 q2h q2k q2j (fun c0_ => some c0_))) (fin_out (o := (zna q27 q28 q29 q2h q2k q2j)) (x := zco q27 q28 q29 q2h q2k q2j) (d := default) (V := fun r => ((AV.v (TV.one (At.bool r))), [])) (fun r => rfl) hp)
  · cases hp)
noncomputable def z31 : List PT → Option (Bool × AV × List Blk)
  | [.one (.s (.flt .f32 x))] => some ((za4 x), ((AV.v (TV.one (At.bool (z9l x)))), []))
  | _ => none
def zoc (x : Nat) : Option (Bool) → Option (AV × List Blk)
  | some r => some ((AV.v (TV.one (At.bool r))), [])
  | none => none
theorem zvc (x : Nat) : evFn Γ1 8 8 185 (impTs 0 [.one (.s (.flt .f32 x))]).1 (impTs 0 [.one (.s (.flt .f32 x))]).2 (expo (impTs 0 [.one (.s (.flt .f32 x))]).2.length) = zdt x (fun c0_ => some ((AV.v (TV.one (At.bool c0_))), [])) := by kernel_rfl
theorem z2f : SumOne Try.prog 185 z31 := sum_of (Γ := Γ1) (fuel := 8) (d := 8) tyTab_ok (FnL.ok fnTab_ok _ _) (LpL.ok lt1_ok) (SumL.ok tb1_ok _) mixed (by
  intro pts v news hp hc
  clear hc
  unfold z31 at hp
  split at hp
  · rename_i x
    exact Eq.trans (Eq.trans (zvc x) (zra (zoc x) rfl x (fun c0_ => some c0_))) (fin_out (o := (zoc x)) (x := zde x) (d := default) (V := fun r => ((AV.v (TV.one (At.bool r))), [])) (fun r => rfl) hp)
  · cases hp)
noncomputable def z19 : Nat → St → Option (Bool × LO)
  | 1, (St.mk [(0, (AV.v (TV.one (At.vw 0 0 an 1)))), (3, (AV.v (TV.one (At.sl 1 0 q26 1)))), (4, (AV.v (TV.one (At.int IntKind.i64 i))))] [(Blk.mk Bool.false (Body.fl FloatKind.f32 b0)), (Blk.mk Bool.true (Body.fl FloatKind.f32 b1))]) => some ((zb6 an q26 b0 i b1), (LO.one (Ex.exit 0) (St.mk [(0, (AV.v (TV.one (At.vw 0 0 an 1)))), (3, (AV.v (TV.one (At.sl 1 0 q26 1)))), (4, (AV.v (TV.one (At.int IntKind.i64 (zfp an q26 b0 i b1))))), (11, (AV.v (TV.one (At.bool (zfs an q26 b0 i b1)))))] [(Blk.mk Bool.false (Body.fl FloatKind.f32 b0)), (Blk.mk Bool.true (Body.fl FloatKind.f32 (z9x an q26 b0 i b1)))])))
  | _, _ => none
def zed (an : Nat) (q26 : Nat) (b0 : List Nat) : Option ((Int × Bool × (List Nat))) → Option (Ex × St)
  | none => none
  | some r => some ((Ex.exit 0), (St.mk [(0, (AV.v (TV.one (At.vw 0 0 an 1)))), (3, (AV.v (TV.one (At.sl 1 0 q26 1)))), (4, (AV.v (TV.one (At.int IntKind.i64 r.1)))), (11, (AV.v (TV.one (At.bool r.2.1))))] [(Blk.mk Bool.false (Body.fl FloatKind.f32 b0)), (Blk.mk Bool.true (Body.fl FloatKind.f32 r.2.2))]))
def zpu (an : Nat) (q26 : Nat) (b0 : List Nat) (x : Option ((Int × Bool × (List Nat)))) : LO := (LO.one (Ex.exit 0) (St.mk [(0, (AV.v (TV.one (At.vw 0 0 an 1)))), (3, (AV.v (TV.one (At.sl 1 0 q26 1)))), (4, (AV.v (TV.one (At.int IntKind.i64 (x.getD default).1)))), (11, (AV.v (TV.one (At.bool (x.getD default).2.1))))] [(Blk.mk Bool.false (Body.fl FloatKind.f32 b0)), (Blk.mk Bool.true (Body.fl FloatKind.f32 (x.getD default).2.2))]))
theorem zqx (an : Nat) (q26 : Nat) (b0 : List Nat) : ∀ x : Option ((Int × Bool × (List Nat))), x.isSome = true → (zed an q26 b0) x = some (pick (zpu an q26 b0 x))
  | none, h => by cases h
  | some r, _ => rfl
theorem zqu (an : Nat) (q26 : Nat) (i : Int) (b0 : List Nat) (b1 : List Nat) (K : Ex → St → Option (Ex × St)) : evC (R := Ex × St) Γ1 (evFn Γ1 8 8) 166 1 fi166.nt fi166.live fi166.nl 8 (findL 3 (loopsIn fi166.code)) (St.mk [(0, (AV.v (TV.one (At.vw 0 0 an 1)))), (3, (AV.v (TV.one (At.sl 1 0 q26 1)))), (4, (AV.v (TV.one (At.int IntKind.i64 i))))] [(Blk.mk Bool.false (Body.fl FloatKind.f32 b0)), (Blk.mk Bool.true (Body.fl FloatKind.f32 b1))]) K = z7g an q26 b0 i b1 (fun i' b1' => K .normal (St.mk [(0, (AV.v (TV.one (At.vw 0 0 an 1)))), (3, (AV.v (TV.one (At.sl 1 0 q26 1)))), (4, (AV.v (TV.one (At.int IntKind.i64 i'))))] [(Blk.mk Bool.false (Body.fl FloatKind.f32 b0)), (Blk.mk Bool.true (Body.fl FloatKind.f32 b1'))])) (fun c0_ c1_ c2_ => K (Ex.exit 0) (St.mk [(0, (AV.v (TV.one (At.vw 0 0 an 1)))), (3, (AV.v (TV.one (At.sl 1 0 q26 1)))), (4, (AV.v (TV.one (At.int IntKind.i64 c0_)))), (11, (AV.v (TV.one (At.bool c1_))))] [(Blk.mk Bool.false (Body.fl FloatKind.f32 b0)), (Blk.mk Bool.true (Body.fl FloatKind.f32 c2_))])) := by kernel_rfl
theorem zq1 (an : Nat) (q26 : Nat) (b0 : List Nat) : ∀ (n : Nat) (i : Int) (b1 : List Nat), iter 166 3 1 (evC (R := Ex × St) Γ1 (evFn Γ1 8 8) 166 1 fi166.nt fi166.live fi166.nl 8 (findL 3 (loopsIn fi166.code))) n (St.mk [(0, (AV.v (TV.one (At.vw 0 0 an 1)))), (3, (AV.v (TV.one (At.sl 1 0 q26 1)))), (4, (AV.v (TV.one (At.int IntKind.i64 i))))] [(Blk.mk Bool.false (Body.fl FloatKind.f32 b0)), (Blk.mk Bool.true (Body.fl FloatKind.f32 b1))]) (fun e st => some (e, st)) = (zed an q26 b0) (z5z an q26 b0 n i b1) := by
  intro n
  induction n with
  | zero => intros; rfl
  | succ n ih =>
    intro i b1
    refine Eq.trans (iter_succ ..) (Eq.trans (zqu an q26 i b0 b1 (nextK 166 3 1 (evC (R := Ex × St) Γ1 (evFn Γ1 8 8) 166 1 fi166.nt fi166.live fi166.nl 8 (findL 3 (loopsIn fi166.code))) n (fun e st => some (e, st)))) (Eq.trans ?_ (zn9 (zed an q26 b0) rfl an q26 b0 i b1 (fun i' b1' => z5z an q26 b0 n i' b1') (fun c0_ c1_ c2_ => some (c0_, c1_, c2_)))))
    exact congrArg (fun kn_ => z7g an q26 b0 i b1 kn_ (fun c0_ c1_ c2_ => (zed an q26 b0) (some (c0_, c1_, c2_)))) (funext fun i' => funext fun b1' => ih i' b1')
theorem z17 : LoopOne Try.prog fnTab 166 3 z19 := lp_of (Γ := Γ1) tyTab_ok (FnL.ok fnTab_ok _ _) (LpL.ok lt1_ok) (SumL.ok tb1_ok _) mixed (fi := fi166) (by kernel_rfl) (by kernel_rfl) (by
  intro lo st out hp
  unfold z19 at hp
  split at hp
  · rename_i an q26 i b0 b1
    injection hp with hp
    injection hp with h1 h2
    subst h2
    exact ⟨8, 8, big, Eq.trans (zq1 an q26 b0 big i b1) (zqx an q26 b0 (z5z an q26 b0 big i b1) h1)⟩
  · cases hp)
noncomputable def tb2 : List (Nat × (List PT → Option (Bool × AV × List Blk))) := [(156, z0w), (181, z1d), (182, z21), (189, z22), (26, z2q), (55, z28), (84, z11), (89, z40), (102, z6a), (112, z1x), (115, z2b), (123, z2p), (126, z4t), (157, z69), (160, z1y), (162, z4p), (167, z2a), (175, z3z), (176, z1o), (187, z29), (74, z3n), (83, z10), (85, z4e), (90, z3o), (103, z4d), (111, z2l), (116, z32), (117, z4f), (138, z30), (148, z1v), (150, z1b), (169, z2m), (185, z31)]
noncomputable def lt2 : List ((Nat × Nat) × (Nat → St → Option (Bool × LO))) := [((166, 3), z19)]
noncomputable def Γ2 : Ctx := ⟨tyTab, fnTab, tblSum tb2, tblLp lt2⟩
theorem tb2_ok : SumL Try.prog tb2 := SumL.cons z0r (SumL.cons z16 (SumL.cons z1l (SumL.cons z1n (SumL.cons z26 (SumL.cons z1t (SumL.cons z0x (SumL.cons z2y (SumL.cons z50 (SumL.cons z1j (SumL.cons z1u (SumL.cons z27 (SumL.cons z3f (SumL.cons z51 (SumL.cons z1h (SumL.cons z3h (SumL.cons z1r (SumL.cons z2z (SumL.cons z18 (SumL.cons z1s (SumL.cons z2v (SumL.cons z0y (SumL.cons z3a (SumL.cons z2u (SumL.cons z3b (SumL.cons z24 (SumL.cons z2g (SumL.cons z3c (SumL.cons z2i (SumL.cons z1f (SumL.cons z15 (SumL.cons z23 (SumL.cons z2f (SumL.nil)))))))))))))))))))))))))))))))))
theorem lt2_ok : LpL Try.prog fnTab lt2 := LpL.cons z17 (LpL.nil)
noncomputable def z41 : List PT → Option (Bool × AV × List Blk)
  | [.agg [.row 1 q0p (.fl .f32 q0v), .row 1 q0r (.fl .f32 q0y), .row 1 q0s (.fl .f32 q0x), .row 3 q14 (.fl .f32 q19), .s (.int .i64 q1n), .s (.flt .f32 q1w), .s (.flt .f32 q1x)], .one (.s (.int .i64 q21))] => some ((zii q0p q0v q0r q0y q0s q0x q14 q19 q1n q1w q1x q21), ((AV.v (TV.one (At.int IntKind.i64 (zgx q0p q0v q0r q0y q0s q0x q14 q19 q1n q1w q1x q21)))), []))
  | _ => none
def zpx (q0p : Nat) (q0v : List Nat) (q0r : Nat) (q0y : List Nat) (q0s : Nat) (q0x : List Nat) (q14 : Nat) (q19 : List Nat) (q1n : Int) (q1w : Nat) (q1x : Nat) (q21 : Int) : Option (Int) → Option (AV × List Blk)
  | some r => some ((AV.v (TV.one (At.int IntKind.i64 r))), [])
  | none => none
theorem zw0 (q0p : Nat) (q0v : List Nat) (q0r : Nat) (q0y : List Nat) (q0s : Nat) (q0x : List Nat) (q14 : Nat) (q19 : List Nat) (q1n : Int) (q1w : Nat) (q1x : Nat) (q21 : Int) : evFn Γ2 8 8 52 (impTs 0 [.agg [.row 1 q0p (.fl .f32 q0v), .row 1 q0r (.fl .f32 q0y), .row 1 q0s (.fl .f32 q0x), .row 3 q14 (.fl .f32 q19), .s (.int .i64 q1n), .s (.flt .f32 q1w), .s (.flt .f32 q1x)], .one (.s (.int .i64 q21))]).1 (impTs 0 [.agg [.row 1 q0p (.fl .f32 q0v), .row 1 q0r (.fl .f32 q0y), .row 1 q0s (.fl .f32 q0x), .row 3 q14 (.fl .f32 q19), .s (.int .i64 q1n), .s (.flt .f32 q1w), .s (.flt .f32 q1x)], .one (.s (.int .i64 q21))]).2 (expo (impTs 0 [.agg [.row 1 q0p (.fl .f32 q0v), .row 1 q0r (.fl .f32 q0y), .row 1 q0s (.fl .f32 q0x), .row 3 q14 (.fl .f32 q19), .s (.int .i64 q1n), .s (.flt .f32 q1w), .s (.flt .f32 q1x)], .one (.s (.int .i64 q21))]).2.length) = zef q0p q0v q0r q0y q0s q0x q14 q19 q1n q1w q1x q21 (fun c0_ => some ((AV.v (TV.one (At.int IntKind.i64 c0_))), [])) := by kernel_rfl
theorem z36 : SumOne Try.prog 52 z41 := sum_of (Γ := Γ2) (fuel := 8) (d := 8) tyTab_ok (FnL.ok fnTab_ok _ _) (LpL.ok lt2_ok) (SumL.ok tb2_ok _) mixed (by
  intro pts v news hp hc
  clear hc
  unfold z41 at hp
  split at hp
  · rename_i q0p q0v q0r q0y q0s q0x q14 q19 q1n q1w q1x q21
    exact Eq.trans (Eq.trans (zw0 q0p q0v q0r q0y q0s q0x q14 q19 q1n q1w q1x q21) (zsh (zpx q0p q0v q0r q0y q0s q0x q14 q19 q1n q1w q1x q21) rfl q0p q0v q0r q0y q0s q0x q14 q19 q1n q1w q1x q21 (fun c0_ => some c0_))) (fin_out (o := (zpx q0p q0v q0r q0y q0s q0x q14 q19 q1n q1w q1x q21)) (x := zer q0p q0v q0r q0y q0s q0x q14 q19 q1n q1w q1x q21) (d := default) (V := fun r => ((AV.v (TV.one (At.int IntKind.i64 r))), [])) (fun r => rfl) hp)
  · cases hp)
noncomputable def z2k : List PT → Option (Bool × AV × List Blk)
  | [.one (.s (.flt .f32 x))] => some ((zhp x), ((AV.v (TV.one (At.bool (zgm x)))), []))
  | _ => none
def zn0 (x : Nat) : Option (Bool) → Option (AV × List Blk)
  | some r => some ((AV.v (TV.one (At.bool r))), [])
  | none => none
theorem zt0 (x : Nat) : evFn Γ2 8 8 154 (impTs 0 [.one (.s (.flt .f32 x))]).1 (impTs 0 [.one (.s (.flt .f32 x))]).2 (expo (impTs 0 [.one (.s (.flt .f32 x))]).2.length) = zbj x (fun c0_ => some ((AV.v (TV.one (At.bool c0_))), [])) := by kernel_rfl
theorem z1z : SumOne Try.prog 154 z2k := sum_of (Γ := Γ2) (fuel := 8) (d := 8) tyTab_ok (FnL.ok fnTab_ok _ _) (LpL.ok lt2_ok) (SumL.ok tb2_ok _) mixed (by
  intro pts v news hp hc
  clear hc
  unfold z2k at hp
  split at hp
  · rename_i x
    exact Eq.trans (Eq.trans (zt0 x) (zps (zn0 x) rfl x (fun c0_ => some c0_))) (fin_out (o := (zn0 x)) (x := zbr x) (d := default) (V := fun r => ((AV.v (TV.one (At.bool r))), [])) (fun r => rfl) hp)
  · cases hp)
noncomputable def z5u : List PT → Option (Bool × AV × List Blk)
  | [.one (.s (.flt .f64 x))] => some ((zlx x), ((AV.v (TV.one (At.flt FloatKind.f64 (zdw x)))), []))
  | _ => none
def zst (x : Nat) : Option (Nat) → Option (AV × List Blk)
  | some r => some ((AV.v (TV.one (At.flt FloatKind.f64 r))), [])
  | none => none
theorem zwd (x : Nat) : evFn Γ2 8 8 158 (impTs 0 [.one (.s (.flt .f64 x))]).1 (impTs 0 [.one (.s (.flt .f64 x))]).2 (expo (impTs 0 [.one (.s (.flt .f64 x))]).2.length) = zir x (fun c0_ => some ((AV.v (TV.one (At.flt FloatKind.f64 c0_))), [])) := by kernel_rfl
theorem z4c : SumOne Try.prog 158 z5u := sum_of (Γ := Γ2) (fuel := 8) (d := 8) tyTab_ok (FnL.ok fnTab_ok _ _) (LpL.ok lt2_ok) (SumL.ok tb2_ok _) mixed (by
  intro pts v news hp hc
  clear hc
  unfold z5u at hp
  split at hp
  · rename_i x
    exact Eq.trans (Eq.trans (zwd x) (zuo (zst x) rfl x (fun c0_ => some c0_))) (fin_out (o := (zst x)) (x := ziu x) (d := default) (V := fun r => ((AV.v (TV.one (At.flt FloatKind.f64 r))), [])) (fun r => rfl) hp)
  · cases hp)
noncomputable def z2j : List PT → Option (Bool × AV × List Blk)
  | [.one (.row 1 a_n (.fl .f32 a))] => some ((zc2 a_n a), ((AV.v (TV.one (At.sl 0 0 (zaq a_n a) 1))), [(Blk.mk Bool.true (Body.fl FloatKind.f32 (zan a_n a)))]))
  | _ => none
def zmr (a_n : Nat) (a : List Nat) : Option (Nat × (List Nat)) → Option (AV × List Blk)
  | some r => some ((AV.v (TV.one (At.sl 0 0 r.1 1))), [(Blk.mk Bool.true (Body.fl FloatKind.f32 r.2))])
  | none => none
theorem ztr (a_n : Nat) (a : List Nat) : evFn Γ2 8 8 166 (impTs 0 [.one (.row 1 a_n (.fl .f32 a))]).1 (impTs 0 [.one (.row 1 a_n (.fl .f32 a))]).2 (expo (impTs 0 [.one (.row 1 a_n (.fl .f32 a))]).2.length) = zbz a_n a (fun c0_ c1_ => some ((AV.v (TV.one (At.sl 0 0 c0_ 1))), [(Blk.mk Bool.true (Body.fl FloatKind.f32 c1_))])) := by kernel_rfl
theorem z20 : SumOne Try.prog 166 z2j := sum_of (Γ := Γ2) (fuel := 8) (d := 8) tyTab_ok (FnL.ok fnTab_ok _ _) (LpL.ok lt2_ok) (SumL.ok tb2_ok _) mixed (by
  intro pts v news hp hc
  clear hc
  unfold z2j at hp
  split at hp
  · rename_i a_n a
    exact Eq.trans (Eq.trans (ztr a_n a) (zpr (zmr a_n a) rfl a_n a (fun c0_ c1_ => some (c0_, c1_)))) (fin_out (o := (zmr a_n a)) (x := za0 a_n a) (d := default) (V := fun r => ((AV.v (TV.one (At.sl 0 0 r.1 1))), [(Blk.mk Bool.true (Body.fl FloatKind.f32 r.2))])) (fun r => rfl) hp)
  · cases hp)
noncomputable def z1i : Nat → St → Option (Bool × LO)
  | 1, (St.mk [(0, (AV.v (TV.one (At.vw 0 0 an 3)))), (3, (AV.v (TV.one (At.sl 1 0 q26 3)))), (4, (AV.v (TV.one (At.int IntKind.i64 i))))] [(Blk.mk Bool.false (Body.fl FloatKind.f32 b0)), (Blk.mk Bool.true (Body.fl FloatKind.f32 b1))]) => some ((zb9 an q26 b0 i b1), (LO.one (Ex.exit 0) (St.mk [(0, (AV.v (TV.one (At.vw 0 0 an 3)))), (3, (AV.v (TV.one (At.sl 1 0 q26 3)))), (4, (AV.v (TV.one (At.int IntKind.i64 (zfm an q26 b0 i b1))))), (11, (AV.v (TV.one (At.bool (zfg an q26 b0 i b1)))))] [(Blk.mk Bool.false (Body.fl FloatKind.f32 b0)), (Blk.mk Bool.true (Body.fl FloatKind.f32 (z9v an q26 b0 i b1)))])))
  | _, _ => none
def zeb (an : Nat) (q26 : Nat) (b0 : List Nat) : Option ((Int × Bool × (List Nat))) → Option (Ex × St)
  | none => none
  | some r => some ((Ex.exit 0), (St.mk [(0, (AV.v (TV.one (At.vw 0 0 an 3)))), (3, (AV.v (TV.one (At.sl 1 0 q26 3)))), (4, (AV.v (TV.one (At.int IntKind.i64 r.1)))), (11, (AV.v (TV.one (At.bool r.2.1))))] [(Blk.mk Bool.false (Body.fl FloatKind.f32 b0)), (Blk.mk Bool.true (Body.fl FloatKind.f32 r.2.2))]))
def zp6 (an : Nat) (q26 : Nat) (b0 : List Nat) (x : Option ((Int × Bool × (List Nat)))) : LO := (LO.one (Ex.exit 0) (St.mk [(0, (AV.v (TV.one (At.vw 0 0 an 3)))), (3, (AV.v (TV.one (At.sl 1 0 q26 3)))), (4, (AV.v (TV.one (At.int IntKind.i64 (x.getD default).1)))), (11, (AV.v (TV.one (At.bool (x.getD default).2.1))))] [(Blk.mk Bool.false (Body.fl FloatKind.f32 b0)), (Blk.mk Bool.true (Body.fl FloatKind.f32 (x.getD default).2.2))]))
theorem zqo (an : Nat) (q26 : Nat) (b0 : List Nat) : ∀ x : Option ((Int × Bool × (List Nat))), x.isSome = true → (zeb an q26 b0) x = some (pick (zp6 an q26 b0 x))
  | none, h => by cases h
  | some r, _ => rfl
theorem zq2 (an : Nat) (q26 : Nat) (i : Int) (b0 : List Nat) (b1 : List Nat) (K : Ex → St → Option (Ex × St)) : evC (R := Ex × St) Γ2 (evFn Γ2 8 8) 120 1 fi120.nt fi120.live fi120.nl 8 (findL 3 (loopsIn fi120.code)) (St.mk [(0, (AV.v (TV.one (At.vw 0 0 an 3)))), (3, (AV.v (TV.one (At.sl 1 0 q26 3)))), (4, (AV.v (TV.one (At.int IntKind.i64 i))))] [(Blk.mk Bool.false (Body.fl FloatKind.f32 b0)), (Blk.mk Bool.true (Body.fl FloatKind.f32 b1))]) K = z7f an q26 b0 i b1 (fun i' b1' => K .normal (St.mk [(0, (AV.v (TV.one (At.vw 0 0 an 3)))), (3, (AV.v (TV.one (At.sl 1 0 q26 3)))), (4, (AV.v (TV.one (At.int IntKind.i64 i'))))] [(Blk.mk Bool.false (Body.fl FloatKind.f32 b0)), (Blk.mk Bool.true (Body.fl FloatKind.f32 b1'))])) (fun c0_ c1_ c2_ => K (Ex.exit 0) (St.mk [(0, (AV.v (TV.one (At.vw 0 0 an 3)))), (3, (AV.v (TV.one (At.sl 1 0 q26 3)))), (4, (AV.v (TV.one (At.int IntKind.i64 c0_)))), (11, (AV.v (TV.one (At.bool c1_))))] [(Blk.mk Bool.false (Body.fl FloatKind.f32 b0)), (Blk.mk Bool.true (Body.fl FloatKind.f32 c2_))])) := by kernel_rfl
theorem zqw (an : Nat) (q26 : Nat) (b0 : List Nat) : ∀ (n : Nat) (i : Int) (b1 : List Nat), iter 120 3 1 (evC (R := Ex × St) Γ2 (evFn Γ2 8 8) 120 1 fi120.nt fi120.live fi120.nl 8 (findL 3 (loopsIn fi120.code))) n (St.mk [(0, (AV.v (TV.one (At.vw 0 0 an 3)))), (3, (AV.v (TV.one (At.sl 1 0 q26 3)))), (4, (AV.v (TV.one (At.int IntKind.i64 i))))] [(Blk.mk Bool.false (Body.fl FloatKind.f32 b0)), (Blk.mk Bool.true (Body.fl FloatKind.f32 b1))]) (fun e st => some (e, st)) = (zeb an q26 b0) (z3q an q26 b0 n i b1) := by
  intro n
  induction n with
  | zero => intros; rfl
  | succ n ih =>
    intro i b1
    refine Eq.trans (iter_succ ..) (Eq.trans (zq2 an q26 i b0 b1 (nextK 120 3 1 (evC (R := Ex × St) Γ2 (evFn Γ2 8 8) 120 1 fi120.nt fi120.live fi120.nl 8 (findL 3 (loopsIn fi120.code))) n (fun e st => some (e, st)))) (Eq.trans ?_ (znq (zeb an q26 b0) rfl an q26 b0 i b1 (fun i' b1' => z3q an q26 b0 n i' b1') (fun c0_ c1_ c2_ => some (c0_, c1_, c2_)))))
    exact congrArg (fun kn_ => z7f an q26 b0 i b1 kn_ (fun c0_ c1_ c2_ => (zeb an q26 b0) (some (c0_, c1_, c2_)))) (funext fun i' => funext fun b1' => ih i' b1')
theorem z1c : LoopOne Try.prog fnTab 120 3 z1i := lp_of (Γ := Γ2) tyTab_ok (FnL.ok fnTab_ok _ _) (LpL.ok lt2_ok) (SumL.ok tb2_ok _) mixed (fi := fi120) (by kernel_rfl) (by kernel_rfl) (by
  intro lo st out hp
  unfold z1i at hp
  split at hp
  · rename_i an q26 i b0 b1
    injection hp with hp
    injection hp with h1 h2
    subst h2
    exact ⟨8, 8, big, Eq.trans (zqw an q26 b0 big i b1) (zqo an q26 b0 (z3q an q26 b0 big i b1) h1)⟩
  · cases hp)
noncomputable def z1g : Nat → St → Option (Bool × LO)
  | 2, (St.mk [(0, (AV.v (TV.one (At.vw 0 0 an 1)))), (1, (AV.v (TV.one (At.vw 1 0 bn 1)))), (5, (AV.v (TV.one (At.int IntKind.i64 i))))] [(Blk.mk Bool.false (Body.fl FloatKind.f32 b0)), (Blk.mk Bool.false (Body.fl FloatKind.f32 b1))]) => some ((ze6 an bn b0 b1 i), (LO.two (zdm an bn b0 b1 i) (LO.one Ex.ret (St.mk [(4, (AV.v (TV.one (At.bool Bool.false))))] [(Blk.mk Bool.false (Body.fl FloatKind.f32 b0)), (Blk.mk Bool.false (Body.fl FloatKind.f32 b1))])) (LO.one (Ex.exit 0) (St.mk [(0, (AV.v (TV.one (At.vw 0 0 an 1)))), (1, (AV.v (TV.one (At.vw 1 0 bn 1)))), (5, (AV.v (TV.one (At.int IntKind.i64 (zfh an bn b0 b1 i))))), (14, (AV.v (TV.one (At.bool (zfv an bn b0 b1 i)))))] [(Blk.mk Bool.false (Body.fl FloatKind.f32 b0)), (Blk.mk Bool.false (Body.fl FloatKind.f32 b1))]))))
  | _, _ => none
def zb7 (an : Nat) (bn : Nat) (b0 : List Nat) (b1 : List Nat) : Option ((Unit) ⊕ (Int × Bool)) → Option (Ex × St)
  | none => none
  | some (Sum.inl r) => some (Ex.ret, (St.mk [(4, (AV.v (TV.one (At.bool Bool.false))))] [(Blk.mk Bool.false (Body.fl FloatKind.f32 b0)), (Blk.mk Bool.false (Body.fl FloatKind.f32 b1))]))
  | some (Sum.inr r) => some ((Ex.exit 0), (St.mk [(0, (AV.v (TV.one (At.vw 0 0 an 1)))), (1, (AV.v (TV.one (At.vw 1 0 bn 1)))), (5, (AV.v (TV.one (At.int IntKind.i64 r.1)))), (14, (AV.v (TV.one (At.bool r.2))))] [(Blk.mk Bool.false (Body.fl FloatKind.f32 b0)), (Blk.mk Bool.false (Body.fl FloatKind.f32 b1))]))
def zpm (an : Nat) (bn : Nat) (b0 : List Nat) (b1 : List Nat) (x : Option ((Unit) ⊕ (Int × Bool))) : LO := (LO.two (oL x) (LO.one Ex.ret (St.mk [(4, (AV.v (TV.one (At.bool Bool.false))))] [(Blk.mk Bool.false (Body.fl FloatKind.f32 b0)), (Blk.mk Bool.false (Body.fl FloatKind.f32 b1))])) (LO.one (Ex.exit 0) (St.mk [(0, (AV.v (TV.one (At.vw 0 0 an 1)))), (1, (AV.v (TV.one (At.vw 1 0 bn 1)))), (5, (AV.v (TV.one (At.int IntKind.i64 ((tR x).getD default).1)))), (14, (AV.v (TV.one (At.bool ((tR x).getD default).2))))] [(Blk.mk Bool.false (Body.fl FloatKind.f32 b0)), (Blk.mk Bool.false (Body.fl FloatKind.f32 b1))])))
theorem zqn (an : Nat) (bn : Nat) (b0 : List Nat) (b1 : List Nat) : ∀ x : Option ((Unit) ⊕ (Int × Bool)), x.isSome = true → (zb7 an bn b0 b1) x = some (pick (zpm an bn b0 b1 x))
  | none, h => by cases h
  | some (Sum.inl r), _ => rfl
  | some (Sum.inr r), _ => rfl
theorem zqp (an : Nat) (bn : Nat) (i : Int) (b0 : List Nat) (b1 : List Nat) (K : Ex → St → Option (Ex × St)) : evC (R := Ex × St) Γ2 (evFn Γ2 8 8) 168 2 fi168.nt fi168.live fi168.nl 8 (findL 4 (loopsIn fi168.code)) (St.mk [(0, (AV.v (TV.one (At.vw 0 0 an 1)))), (1, (AV.v (TV.one (At.vw 1 0 bn 1)))), (5, (AV.v (TV.one (At.int IntKind.i64 i))))] [(Blk.mk Bool.false (Body.fl FloatKind.f32 b0)), (Blk.mk Bool.false (Body.fl FloatKind.f32 b1))]) K = z7e an bn b0 b1 i (fun i' => K .normal (St.mk [(0, (AV.v (TV.one (At.vw 0 0 an 1)))), (1, (AV.v (TV.one (At.vw 1 0 bn 1)))), (5, (AV.v (TV.one (At.int IntKind.i64 i'))))] [(Blk.mk Bool.false (Body.fl FloatKind.f32 b0)), (Blk.mk Bool.false (Body.fl FloatKind.f32 b1))])) (fun _ => K Ex.ret (St.mk [(4, (AV.v (TV.one (At.bool Bool.false))))] [(Blk.mk Bool.false (Body.fl FloatKind.f32 b0)), (Blk.mk Bool.false (Body.fl FloatKind.f32 b1))])) (fun c0_ c1_ => K (Ex.exit 0) (St.mk [(0, (AV.v (TV.one (At.vw 0 0 an 1)))), (1, (AV.v (TV.one (At.vw 1 0 bn 1)))), (5, (AV.v (TV.one (At.int IntKind.i64 c0_)))), (14, (AV.v (TV.one (At.bool c1_))))] [(Blk.mk Bool.false (Body.fl FloatKind.f32 b0)), (Blk.mk Bool.false (Body.fl FloatKind.f32 b1))])) := by kernel_rfl
theorem zq6 (an : Nat) (bn : Nat) (b0 : List Nat) (b1 : List Nat) : ∀ (n : Nat) (i : Int), iter 168 4 2 (evC (R := Ex × St) Γ2 (evFn Γ2 8 8) 168 2 fi168.nt fi168.live fi168.nl 8 (findL 4 (loopsIn fi168.code))) n (St.mk [(0, (AV.v (TV.one (At.vw 0 0 an 1)))), (1, (AV.v (TV.one (At.vw 1 0 bn 1)))), (5, (AV.v (TV.one (At.int IntKind.i64 i))))] [(Blk.mk Bool.false (Body.fl FloatKind.f32 b0)), (Blk.mk Bool.false (Body.fl FloatKind.f32 b1))]) (fun e st => some (e, st)) = (zb7 an bn b0 b1) (z5y an bn b0 b1 n i) := by
  intro n
  induction n with
  | zero => intros; rfl
  | succ n ih =>
    intro i
    refine Eq.trans (iter_succ ..) (Eq.trans (zqp an bn i b0 b1 (nextK 168 4 2 (evC (R := Ex × St) Γ2 (evFn Γ2 8 8) 168 2 fi168.nt fi168.live fi168.nl 8 (findL 4 (loopsIn fi168.code))) n (fun e st => some (e, st)))) (Eq.trans ?_ (znf (zb7 an bn b0 b1) rfl an bn b0 b1 i (fun i' => z5y an bn b0 b1 n i') (fun _ => some (Sum.inl ())) (fun c0_ c1_ => some (Sum.inr (c0_, c1_))))))
    exact congrArg (fun kn_ => z7e an bn b0 b1 i kn_ (fun _ => (zb7 an bn b0 b1) (some (Sum.inl ()))) (fun c0_ c1_ => (zb7 an bn b0 b1) (some (Sum.inr (c0_, c1_))))) (funext fun i' => ih i')
theorem z1a : LoopOne Try.prog fnTab 168 4 z1g := lp_of (Γ := Γ2) tyTab_ok (FnL.ok fnTab_ok _ _) (LpL.ok lt2_ok) (SumL.ok tb2_ok _) mixed (fi := fi168) (by kernel_rfl) (by kernel_rfl) (by
  intro lo st out hp
  unfold z1g at hp
  split at hp
  · rename_i an bn i b0 b1
    injection hp with hp
    injection hp with h1 h2
    subst h2
    exact ⟨8, 8, big, Eq.trans (zq6 an bn b0 b1 big i) (zqn an bn b0 b1 (z5y an bn b0 b1 big i) h1)⟩
  · cases hp)
noncomputable def z14 : Nat → St → Option (Bool × LO)
  | 0, (St.mk [(4, (AV.v (TV.one (At.bool t4)))), (5, (AV.v (TV.one (At.flt FloatKind.f64 t5)))), (6, (AV.v (TV.one (At.flt FloatKind.f64 t6)))), (7, (AV.v (TV.one (At.flt FloatKind.f64 t7)))), (8, (AV.v (TV.one (At.int IntKind.i64 t8))))] []) => some ((z4z t6 t7 t8), (LO.one (Ex.exit 0) (St.mk [(4, (AV.v (TV.one (At.bool t4)))), (5, (AV.v (TV.one (At.flt FloatKind.f64 t5)))), (6, (AV.v (TV.one (At.flt FloatKind.f64 t6)))), (7, (AV.v (TV.one (At.flt FloatKind.f64 (z0z t6 t7 t8))))), (8, (AV.v (TV.one (At.int IntKind.i64 (ze2 t6 t7 t8))))), (44, (AV.v (TV.one (At.bool (zec t6 t7 t8)))))] [])))
  | _, _ => none
def zdb (t4 : Bool) (t5 : Nat) (t6 : Nat) : Option ((Nat × Int × Bool)) → Option (Ex × St)
  | none => none
  | some r => some ((Ex.exit 0), (St.mk [(4, (AV.v (TV.one (At.bool t4)))), (5, (AV.v (TV.one (At.flt FloatKind.f64 t5)))), (6, (AV.v (TV.one (At.flt FloatKind.f64 t6)))), (7, (AV.v (TV.one (At.flt FloatKind.f64 r.1)))), (8, (AV.v (TV.one (At.int IntKind.i64 r.2.1)))), (44, (AV.v (TV.one (At.bool r.2.2))))] []))
def znx (t4 : Bool) (t5 : Nat) (t6 : Nat) (x : Option ((Nat × Int × Bool))) : LO := (LO.one (Ex.exit 0) (St.mk [(4, (AV.v (TV.one (At.bool t4)))), (5, (AV.v (TV.one (At.flt FloatKind.f64 t5)))), (6, (AV.v (TV.one (At.flt FloatKind.f64 t6)))), (7, (AV.v (TV.one (At.flt FloatKind.f64 (x.getD default).1)))), (8, (AV.v (TV.one (At.int IntKind.i64 (x.getD default).2.1)))), (44, (AV.v (TV.one (At.bool (x.getD default).2.2))))] []))
theorem zop (t4 : Bool) (t5 : Nat) (t6 : Nat) : ∀ x : Option ((Nat × Int × Bool)), x.isSome = true → (zdb t4 t5 t6) x = some (pick (znx t4 t5 t6 x))
  | none, h => by cases h
  | some r, _ => rfl
theorem zou (t4 : Bool) (t5 : Nat) (t6 : Nat) (t7 : Nat) (t8 : Int) (K : Ex → St → Option (Ex × St)) : evC (R := Ex × St) Γ2 (evFn Γ2 8 8) 188 0 fi188.nt fi188.live fi188.nl 8 (findL 17 (loopsIn fi188.code)) (St.mk [(4, (AV.v (TV.one (At.bool t4)))), (5, (AV.v (TV.one (At.flt FloatKind.f64 t5)))), (6, (AV.v (TV.one (At.flt FloatKind.f64 t6)))), (7, (AV.v (TV.one (At.flt FloatKind.f64 t7)))), (8, (AV.v (TV.one (At.int IntKind.i64 t8))))] []) K = z6s t6 t7 t8 (fun t7' t8' => K .normal (St.mk [(4, (AV.v (TV.one (At.bool t4)))), (5, (AV.v (TV.one (At.flt FloatKind.f64 t5)))), (6, (AV.v (TV.one (At.flt FloatKind.f64 t6)))), (7, (AV.v (TV.one (At.flt FloatKind.f64 t7')))), (8, (AV.v (TV.one (At.int IntKind.i64 t8'))))] [])) (fun c0_ c1_ c2_ => K (Ex.exit 0) (St.mk [(4, (AV.v (TV.one (At.bool t4)))), (5, (AV.v (TV.one (At.flt FloatKind.f64 t5)))), (6, (AV.v (TV.one (At.flt FloatKind.f64 t6)))), (7, (AV.v (TV.one (At.flt FloatKind.f64 c0_)))), (8, (AV.v (TV.one (At.int IntKind.i64 c1_)))), (44, (AV.v (TV.one (At.bool c2_))))] [])) := by kernel_rfl
theorem zoh (t4 : Bool) (t5 : Nat) (t6 : Nat) : ∀ (n : Nat) (t7 : Nat) (t8 : Int), iter 188 17 0 (evC (R := Ex × St) Γ2 (evFn Γ2 8 8) 188 0 fi188.nt fi188.live fi188.nl 8 (findL 17 (loopsIn fi188.code))) n (St.mk [(4, (AV.v (TV.one (At.bool t4)))), (5, (AV.v (TV.one (At.flt FloatKind.f64 t5)))), (6, (AV.v (TV.one (At.flt FloatKind.f64 t6)))), (7, (AV.v (TV.one (At.flt FloatKind.f64 t7)))), (8, (AV.v (TV.one (At.int IntKind.i64 t8))))] []) (fun e st => some (e, st)) = (zdb t4 t5 t6) (z3g t6 n t7 t8) := by
  intro n
  induction n with
  | zero => intros; rfl
  | succ n ih =>
    intro t7 t8
    refine Eq.trans (iter_succ ..) (Eq.trans (zou t4 t5 t6 t7 t8 (nextK 188 17 0 (evC (R := Ex × St) Γ2 (evFn Γ2 8 8) 188 0 fi188.nt fi188.live fi188.nl 8 (findL 17 (loopsIn fi188.code))) n (fun e st => some (e, st)))) (Eq.trans ?_ (zmk (zdb t4 t5 t6) rfl t6 t7 t8 (fun t7' t8' => z3g t6 n t7' t8') (fun c0_ c1_ c2_ => some (c0_, c1_, c2_)))))
    exact congrArg (fun kn_ => z6s t6 t7 t8 kn_ (fun c0_ c1_ c2_ => (zdb t4 t5 t6) (some (c0_, c1_, c2_)))) (funext fun t7' => funext fun t8' => ih t7' t8')
theorem z12 : LoopOne Try.prog fnTab 188 17 z14 := lp_of (Γ := Γ2) tyTab_ok (FnL.ok fnTab_ok _ _) (LpL.ok lt2_ok) (SumL.ok tb2_ok _) mixed (fi := fi188) (by kernel_rfl) (by kernel_rfl) (by
  intro lo st out hp
  unfold z14 at hp
  split at hp
  · rename_i t4 t5 t6 t7 t8
    injection hp with hp
    injection hp with h1 h2
    subst h2
    exact ⟨8, 8, big, Eq.trans (zoh t4 t5 t6 big t7 t8) (zop t4 t5 t6 (z3g t6 big t7 t8) h1)⟩
  · cases hp)
noncomputable def tb3 : List (Nat × (List PT → Option (Bool × AV × List Blk))) := [(156, z0w), (181, z1d), (182, z21), (189, z22), (26, z2q), (55, z28), (84, z11), (89, z40), (102, z6a), (112, z1x), (115, z2b), (123, z2p), (126, z4t), (157, z69), (160, z1y), (162, z4p), (167, z2a), (175, z3z), (176, z1o), (187, z29), (74, z3n), (83, z10), (85, z4e), (90, z3o), (103, z4d), (111, z2l), (116, z32), (117, z4f), (138, z30), (148, z1v), (150, z1b), (169, z2m), (185, z31), (52, z41), (154, z2k), (158, z5u), (166, z2j)]
noncomputable def lt3 : List ((Nat × Nat) × (Nat → St → Option (Bool × LO))) := [((166, 3), z19), ((120, 3), z1i), ((168, 4), z1g), ((188, 17), z14)]
noncomputable def Γ3 : Ctx := ⟨tyTab, fnTab, tblSum tb3, tblLp lt3⟩
theorem tb3_ok : SumL Try.prog tb3 := SumL.cons z0r (SumL.cons z16 (SumL.cons z1l (SumL.cons z1n (SumL.cons z26 (SumL.cons z1t (SumL.cons z0x (SumL.cons z2y (SumL.cons z50 (SumL.cons z1j (SumL.cons z1u (SumL.cons z27 (SumL.cons z3f (SumL.cons z51 (SumL.cons z1h (SumL.cons z3h (SumL.cons z1r (SumL.cons z2z (SumL.cons z18 (SumL.cons z1s (SumL.cons z2v (SumL.cons z0y (SumL.cons z3a (SumL.cons z2u (SumL.cons z3b (SumL.cons z24 (SumL.cons z2g (SumL.cons z3c (SumL.cons z2i (SumL.cons z1f (SumL.cons z15 (SumL.cons z23 (SumL.cons z2f (SumL.cons z36 (SumL.cons z1z (SumL.cons z4c (SumL.cons z20 (SumL.nil)))))))))))))))))))))))))))))))))))))
theorem lt3_ok : LpL Try.prog fnTab lt3 := LpL.cons z17 (LpL.cons z1c (LpL.cons z1a (LpL.cons z12 (LpL.nil))))
noncomputable def z2w : List PT → Option (Bool × AV × List Blk)
  | [.one (.s (.flt .f64 q24))] => some ((zi5 q24), ((AV.v (TV.one (At.flt FloatKind.f64 (z13 q24)))), []))
  | _ => none
def zmw (q24 : Nat) : Option (Nat) → Option (AV × List Blk)
  | some r => some ((AV.v (TV.one (At.flt FloatKind.f64 r))), [])
  | none => none
theorem zth (q24 : Nat) : evFn Γ3 8 8 104 (impTs 0 [.one (.s (.flt .f64 q24))]).1 (impTs 0 [.one (.s (.flt .f64 q24))]).2 (expo (impTs 0 [.one (.s (.flt .f64 q24))]).2.length) = zbw q24 (fun c0_ => some ((AV.v (TV.one (At.flt FloatKind.f64 c0_))), [])) := by kernel_rfl
theorem z2d : SumOne Try.prog 104 z2w := sum_of (Γ := Γ3) (fuel := 8) (d := 8) tyTab_ok (FnL.ok fnTab_ok _ _) (LpL.ok lt3_ok) (SumL.ok tb3_ok _) mixed (by
  intro pts v news hp hc
  clear hc
  unfold z2w at hp
  split at hp
  · rename_i q24
    exact Eq.trans (Eq.trans (zth q24) (zpg (zmw q24) rfl q24 (fun c0_ => some c0_))) (fin_out (o := (zmw q24)) (x := zbx q24) (d := default) (V := fun r => ((AV.v (TV.one (At.flt FloatKind.f64 r))), [])) (fun r => rfl) hp)
  · cases hp)
noncomputable def z39 : List PT → Option (Bool × AV × List Blk)
  | [.agg [.row 1 q17 (.fl .f32 q1l), .row 1 q1c (.fl .f32 q1o), .row 1 q1d (.fl .f32 q1p)]] => some ((zja q17 q1l q1c q1o q1d q1p), ((AV.v (TV.agg [(At.sl 0 0 (zhq q17 q1l q1c q1o q1d q1p) 1), (At.sl 1 0 (zhv q17 q1l q1c q1o q1d q1p) 1), (At.sl 2 0 (zhz q17 q1l q1c q1o q1d q1p) 1)])), [(Blk.mk Bool.true (Body.fl FloatKind.f32 (zhu q17 q1l q1c q1o q1d q1p))), (Blk.mk Bool.true (Body.fl FloatKind.f32 (zi0 q17 q1l q1c q1o q1d q1p))), (Blk.mk Bool.true (Body.fl FloatKind.f32 (zi6 q17 q1l q1c q1o q1d q1p)))]))
  | _ => none
def zn6 (q17 : Nat) (q1l : List Nat) (q1c : Nat) (q1o : List Nat) (q1d : Nat) (q1p : List Nat) : Option (Nat × Nat × Nat × (List Nat) × (List Nat) × (List Nat)) → Option (AV × List Blk)
  | some r => some ((AV.v (TV.agg [(At.sl 0 0 r.1 1), (At.sl 1 0 r.2.1 1), (At.sl 2 0 r.2.2.1 1)])), [(Blk.mk Bool.true (Body.fl FloatKind.f32 r.2.2.2.1)), (Blk.mk Bool.true (Body.fl FloatKind.f32 r.2.2.2.2.1)), (Blk.mk Bool.true (Body.fl FloatKind.f32 r.2.2.2.2.2))])
  | none => none
theorem zud (q17 : Nat) (q1l : List Nat) (q1c : Nat) (q1o : List Nat) (q1d : Nat) (q1p : List Nat) : evFn Γ3 8 8 119 (impTs 0 [.agg [.row 1 q17 (.fl .f32 q1l), .row 1 q1c (.fl .f32 q1o), .row 1 q1d (.fl .f32 q1p)]]).1 (impTs 0 [.agg [.row 1 q17 (.fl .f32 q1l), .row 1 q1c (.fl .f32 q1o), .row 1 q1d (.fl .f32 q1p)]]).2 (expo (impTs 0 [.agg [.row 1 q17 (.fl .f32 q1l), .row 1 q1c (.fl .f32 q1o), .row 1 q1d (.fl .f32 q1p)]]).2.length) = zd7 q17 q1l q1c q1o q1d q1p (fun c0_ c1_ c2_ c3_ c4_ c5_ => some ((AV.v (TV.agg [(At.sl 0 0 c0_ 1), (At.sl 1 0 c1_ 1), (At.sl 2 0 c2_ 1)])), [(Blk.mk Bool.true (Body.fl FloatKind.f32 c3_)), (Blk.mk Bool.true (Body.fl FloatKind.f32 c4_)), (Blk.mk Bool.true (Body.fl FloatKind.f32 c5_))])) := by kernel_rfl
theorem z2n : SumOne Try.prog 119 z39 := sum_of (Γ := Γ3) (fuel := 8) (d := 8) tyTab_ok (FnL.ok fnTab_ok _ _) (LpL.ok lt3_ok) (SumL.ok tb3_ok _) mixed (by
  intro pts v news hp hc
  clear hc
  unfold z39 at hp
  split at hp
  · rename_i q17 q1l q1c q1o q1d q1p
    exact Eq.trans (Eq.trans (zud q17 q1l q1c q1o q1d q1p) (zqs (zn6 q17 q1l q1c q1o q1d q1p) rfl q17 q1l q1c q1o q1d q1p (fun c0_ c1_ c2_ c3_ c4_ c5_ => some (c0_, c1_, c2_, c3_, c4_, c5_)))) (fin_out (o := (zn6 q17 q1l q1c q1o q1d q1p)) (x := z7r q17 q1l q1c q1o q1d q1p) (d := default) (V := fun r => ((AV.v (TV.agg [(At.sl 0 0 r.1 1), (At.sl 1 0 r.2.1 1), (At.sl 2 0 r.2.2.1 1)])), [(Blk.mk Bool.true (Body.fl FloatKind.f32 r.2.2.2.1)), (Blk.mk Bool.true (Body.fl FloatKind.f32 r.2.2.2.2.1)), (Blk.mk Bool.true (Body.fl FloatKind.f32 r.2.2.2.2.2))])) (fun r => rfl) hp)
  · cases hp)
noncomputable def z2s : List PT → Option (Bool × AV × List Blk)
  | [.one (.row 3 a_n (.fl .f32 a))] => some ((zi4 a_n a), ((AV.v (TV.one (At.sl 0 0 (zgk a_n a) 3))), [(Blk.mk Bool.true (Body.fl FloatKind.f32 (zgi a_n a)))]))
  | _ => none
def zmv (a_n : Nat) (a : List Nat) : Option (Nat × (List Nat)) → Option (AV × List Blk)
  | some r => some ((AV.v (TV.one (At.sl 0 0 r.1 3))), [(Blk.mk Bool.true (Body.fl FloatKind.f32 r.2))])
  | none => none
theorem ztc (a_n : Nat) (a : List Nat) : evFn Γ3 8 8 120 (impTs 0 [.one (.row 3 a_n (.fl .f32 a))]).1 (impTs 0 [.one (.row 3 a_n (.fl .f32 a))]).2 (expo (impTs 0 [.one (.row 3 a_n (.fl .f32 a))]).2.length) = zc3 a_n a (fun c0_ c1_ => some ((AV.v (TV.one (At.sl 0 0 c0_ 3))), [(Blk.mk Bool.true (Body.fl FloatKind.f32 c1_))])) := by kernel_rfl
theorem z2e : SumOne Try.prog 120 z2s := sum_of (Γ := Γ3) (fuel := 8) (d := 8) tyTab_ok (FnL.ok fnTab_ok _ _) (LpL.ok lt3_ok) (SumL.ok tb3_ok _) mixed (by
  intro pts v news hp hc
  clear hc
  unfold z2s at hp
  split at hp
  · rename_i a_n a
    exact Eq.trans (Eq.trans (ztc a_n a) (zp1 (zmv a_n a) rfl a_n a (fun c0_ c1_ => some (c0_, c1_)))) (fin_out (o := (zmv a_n a)) (x := z9z a_n a) (d := default) (V := fun r => ((AV.v (TV.one (At.sl 0 0 r.1 3))), [(Blk.mk Bool.true (Body.fl FloatKind.f32 r.2))])) (fun r => rfl) hp)
  · cases hp)
noncomputable def z2x : List PT → Option (Bool × AV × List Blk)
  | [.one (.row 1 a_n (.fl .f32 a)), .one (.row 1 b_n (.fl .f32 b))] => some ((zbi a_n a b_n b), ((AV.v (TV.one (At.bool (zao a_n a b_n b)))), []))
  | _ => none
def zmz (a_n : Nat) (a : List Nat) (b_n : Nat) (b : List Nat) : Option (Bool) → Option (AV × List Blk)
  | some r => some ((AV.v (TV.one (At.bool r))), [])
  | none => none
theorem zsz (a_n : Nat) (a : List Nat) (b_n : Nat) (b : List Nat) : evFn Γ3 8 8 168 (impTs 0 [.one (.row 1 a_n (.fl .f32 a)), .one (.row 1 b_n (.fl .f32 b))]).1 (impTs 0 [.one (.row 1 a_n (.fl .f32 a)), .one (.row 1 b_n (.fl .f32 b))]).2 (expo (impTs 0 [.one (.row 1 a_n (.fl .f32 a)), .one (.row 1 b_n (.fl .f32 b))]).2.length) = zbn a_n a b_n b (fun c0_ => some ((AV.v (TV.one (At.bool c0_))), [])) := by kernel_rfl
theorem z2c : SumOne Try.prog 168 z2x := sum_of (Γ := Γ3) (fuel := 8) (d := 8) tyTab_ok (FnL.ok fnTab_ok _ _) (LpL.ok lt3_ok) (SumL.ok tb3_ok _) mixed (by
  intro pts v news hp hc
  clear hc
  unfold z2x at hp
  split at hp
  · rename_i a_n a b_n b
    exact Eq.trans (Eq.trans (zsz a_n a b_n b) (zp9 (zmz a_n a b_n b) rfl a_n a b_n b (fun c0_ => some c0_))) (fin_out (o := (zmz a_n a b_n b)) (x := zbf a_n a b_n b) (d := default) (V := fun r => ((AV.v (TV.one (At.bool r))), [])) (fun r => rfl) hp)
  · cases hp)
noncomputable def z2h : List PT → Option (Bool × AV × List Blk)
  | [.one (.s (.flt .f64 q16))] => some ((zgw q16), ((AV.v (TV.one (At.flt FloatKind.f64 (zcd q16)))), []))
  | _ => none
def zmf (q16 : Nat) : Option (Nat) → Option (AV × List Blk)
  | some r => some ((AV.v (TV.one (At.flt FloatKind.f64 r))), [])
  | none => none
theorem zs4 (q16 : Nat) : evFn Γ3 8 8 188 (impTs 0 [.one (.s (.flt .f64 q16))]).1 (impTs 0 [.one (.s (.flt .f64 q16))]).2 (expo (impTs 0 [.one (.s (.flt .f64 q16))]).2.length) = z8p q16 (fun c0_ => some ((AV.v (TV.one (At.flt FloatKind.f64 c0_))), [])) := by kernel_rfl
theorem z25 : SumOne Try.prog 188 z2h := sum_of (Γ := Γ3) (fuel := 8) (d := 8) tyTab_ok (FnL.ok fnTab_ok _ _) (LpL.ok lt3_ok) (SumL.ok tb3_ok _) mixed (by
  intro pts v news hp hc
  clear hc
  unfold z2h at hp
  split at hp
  · rename_i q16
    exact Eq.trans (Eq.trans (zs4 q16) (zor (zmf q16) rfl q16 (fun c0_ => some c0_))) (fin_out (o := (zmf q16)) (x := z8a q16) (d := default) (V := fun r => ((AV.v (TV.one (At.flt FloatKind.f64 r))), [])) (fun r => rfl) hp)
  · cases hp)
noncomputable def z1q : Nat → St → Option (Bool × LO)
  | 2, (St.mk [(0, (AV.v (TV.one (At.vw 0 0 an 3)))), (1, (AV.v (TV.one (At.vw 1 0 bn 3)))), (5, (AV.v (TV.one (At.int IntKind.i64 i))))] [(Blk.mk Bool.false (Body.fl FloatKind.f32 b0)), (Blk.mk Bool.false (Body.fl FloatKind.f32 b1))]) => some ((zbc an bn b0 b1 i), (LO.two (zb0 an bn b0 b1 i) (LO.one Ex.ret (St.mk [(4, (AV.v (TV.one (At.bool Bool.false))))] [(Blk.mk Bool.false (Body.fl FloatKind.f32 b0)), (Blk.mk Bool.false (Body.fl FloatKind.f32 b1))])) (LO.one (Ex.exit 0) (St.mk [(0, (AV.v (TV.one (At.vw 0 0 an 3)))), (1, (AV.v (TV.one (At.vw 1 0 bn 3)))), (5, (AV.v (TV.one (At.int IntKind.i64 (zfq an bn b0 b1 i))))), (14, (AV.v (TV.one (At.bool (zfl an bn b0 b1 i)))))] [(Blk.mk Bool.false (Body.fl FloatKind.f32 b0)), (Blk.mk Bool.false (Body.fl FloatKind.f32 b1))]))))
  | _, _ => none
def zb8 (an : Nat) (bn : Nat) (b0 : List Nat) (b1 : List Nat) : Option ((Unit) ⊕ (Int × Bool)) → Option (Ex × St)
  | none => none
  | some (Sum.inl r) => some (Ex.ret, (St.mk [(4, (AV.v (TV.one (At.bool Bool.false))))] [(Blk.mk Bool.false (Body.fl FloatKind.f32 b0)), (Blk.mk Bool.false (Body.fl FloatKind.f32 b1))]))
  | some (Sum.inr r) => some ((Ex.exit 0), (St.mk [(0, (AV.v (TV.one (At.vw 0 0 an 3)))), (1, (AV.v (TV.one (At.vw 1 0 bn 3)))), (5, (AV.v (TV.one (At.int IntKind.i64 r.1)))), (14, (AV.v (TV.one (At.bool r.2))))] [(Blk.mk Bool.false (Body.fl FloatKind.f32 b0)), (Blk.mk Bool.false (Body.fl FloatKind.f32 b1))]))
def zpw (an : Nat) (bn : Nat) (b0 : List Nat) (b1 : List Nat) (x : Option ((Unit) ⊕ (Int × Bool))) : LO := (LO.two (oL x) (LO.one Ex.ret (St.mk [(4, (AV.v (TV.one (At.bool Bool.false))))] [(Blk.mk Bool.false (Body.fl FloatKind.f32 b0)), (Blk.mk Bool.false (Body.fl FloatKind.f32 b1))])) (LO.one (Ex.exit 0) (St.mk [(0, (AV.v (TV.one (At.vw 0 0 an 3)))), (1, (AV.v (TV.one (At.vw 1 0 bn 3)))), (5, (AV.v (TV.one (At.int IntKind.i64 ((tR x).getD default).1)))), (14, (AV.v (TV.one (At.bool ((tR x).getD default).2))))] [(Blk.mk Bool.false (Body.fl FloatKind.f32 b0)), (Blk.mk Bool.false (Body.fl FloatKind.f32 b1))])))
theorem zq4 (an : Nat) (bn : Nat) (b0 : List Nat) (b1 : List Nat) : ∀ x : Option ((Unit) ⊕ (Int × Bool)), x.isSome = true → (zb8 an bn b0 b1) x = some (pick (zpw an bn b0 b1 x))
  | none, h => by cases h
  | some (Sum.inl r), _ => rfl
  | some (Sum.inr r), _ => rfl
theorem zqk (an : Nat) (bn : Nat) (i : Int) (b0 : List Nat) (b1 : List Nat) (K : Ex → St → Option (Ex × St)) : evC (R := Ex × St) Γ3 (evFn Γ3 8 8) 122 2 fi122.nt fi122.live fi122.nl 8 (findL 4 (loopsIn fi122.code)) (St.mk [(0, (AV.v (TV.one (At.vw 0 0 an 3)))), (1, (AV.v (TV.one (At.vw 1 0 bn 3)))), (5, (AV.v (TV.one (At.int IntKind.i64 i))))] [(Blk.mk Bool.false (Body.fl FloatKind.f32 b0)), (Blk.mk Bool.false (Body.fl FloatKind.f32 b1))]) K = z7j an bn b0 b1 i (fun i' => K .normal (St.mk [(0, (AV.v (TV.one (At.vw 0 0 an 3)))), (1, (AV.v (TV.one (At.vw 1 0 bn 3)))), (5, (AV.v (TV.one (At.int IntKind.i64 i'))))] [(Blk.mk Bool.false (Body.fl FloatKind.f32 b0)), (Blk.mk Bool.false (Body.fl FloatKind.f32 b1))])) (fun _ => K Ex.ret (St.mk [(4, (AV.v (TV.one (At.bool Bool.false))))] [(Blk.mk Bool.false (Body.fl FloatKind.f32 b0)), (Blk.mk Bool.false (Body.fl FloatKind.f32 b1))])) (fun c0_ c1_ => K (Ex.exit 0) (St.mk [(0, (AV.v (TV.one (At.vw 0 0 an 3)))), (1, (AV.v (TV.one (At.vw 1 0 bn 3)))), (5, (AV.v (TV.one (At.int IntKind.i64 c0_)))), (14, (AV.v (TV.one (At.bool c1_))))] [(Blk.mk Bool.false (Body.fl FloatKind.f32 b0)), (Blk.mk Bool.false (Body.fl FloatKind.f32 b1))])) := by kernel_rfl
theorem zqq (an : Nat) (bn : Nat) (b0 : List Nat) (b1 : List Nat) : ∀ (n : Nat) (i : Int), iter 122 4 2 (evC (R := Ex × St) Γ3 (evFn Γ3 8 8) 122 2 fi122.nt fi122.live fi122.nl 8 (findL 4 (loopsIn fi122.code))) n (St.mk [(0, (AV.v (TV.one (At.vw 0 0 an 3)))), (1, (AV.v (TV.one (At.vw 1 0 bn 3)))), (5, (AV.v (TV.one (At.int IntKind.i64 i))))] [(Blk.mk Bool.false (Body.fl FloatKind.f32 b0)), (Blk.mk Bool.false (Body.fl FloatKind.f32 b1))]) (fun e st => some (e, st)) = (zb8 an bn b0 b1) (z5w an bn b0 b1 n i) := by
  intro n
  induction n with
  | zero => intros; rfl
  | succ n ih =>
    intro i
    refine Eq.trans (iter_succ ..) (Eq.trans (zqk an bn i b0 b1 (nextK 122 4 2 (evC (R := Ex × St) Γ3 (evFn Γ3 8 8) 122 2 fi122.nt fi122.live fi122.nl 8 (findL 4 (loopsIn fi122.code))) n (fun e st => some (e, st)))) (Eq.trans ?_ (znn (zb8 an bn b0 b1) rfl an bn b0 b1 i (fun i' => z5w an bn b0 b1 n i') (fun _ => some (Sum.inl ())) (fun c0_ c1_ => some (Sum.inr (c0_, c1_))))))
    exact congrArg (fun kn_ => z7j an bn b0 b1 i kn_ (fun _ => (zb8 an bn b0 b1) (some (Sum.inl ()))) (fun c0_ c1_ => (zb8 an bn b0 b1) (some (Sum.inr (c0_, c1_))))) (funext fun i' => ih i')
theorem z1m : LoopOne Try.prog fnTab 122 4 z1q := lp_of (Γ := Γ3) tyTab_ok (FnL.ok fnTab_ok _ _) (LpL.ok lt3_ok) (SumL.ok tb3_ok _) mixed (fi := fi122) (by kernel_rfl) (by kernel_rfl) (by
  intro lo st out hp
  unfold z1q at hp
  split at hp
  · rename_i an bn i b0 b1
    injection hp with hp
    injection hp with h1 h2
    subst h2
    exact ⟨8, 8, big, Eq.trans (zqq an bn b0 b1 big i) (zq4 an bn b0 b1 (z5w an bn b0 b1 big i) h1)⟩
  · cases hp)
noncomputable def z04 : Nat → St → Option (Bool × LO)
  | 1, (St.mk [(0, (AV.v (TV.one (At.vw 0 0 sn 1)))), (1, (AV.v (TV.one (At.fn 148 [])))), (7, (AV.v (TV.one (At.int IntKind.i64 t7)))), (8, (AV.v (TV.one (At.int IntKind.i64 t8))))] [(Blk.mk Bool.false (Body.fl FloatKind.f32 b0))]) => some ((z4i sn t7 b0 t8), (LO.two (z4b sn t7 b0 t8) (LO.one Ex.ret (St.mk [(4, (AV.v (TV.one (At.int IntKind.i64 (z6n sn t7 b0 t8)))))] [(Blk.mk Bool.false (Body.fl FloatKind.f32 b0))])) (LO.one (Ex.exit 0) (St.mk [(0, (AV.v (TV.one (At.vw 0 0 sn 1)))), (1, (AV.v (TV.one (At.fn 148 [])))), (7, (AV.v (TV.one (At.int IntKind.i64 t7)))), (8, (AV.v (TV.one (At.int IntKind.i64 (z8b sn t7 b0 t8))))), (9, (AV.v (TV.one (At.bool (z88 sn t7 b0 t8)))))] [(Blk.mk Bool.false (Body.fl FloatKind.f32 b0))]))))
  | _, _ => none
def z64 (sn : Nat) (t7 : Int) (b0 : List Nat) : Option ((Int) ⊕ (Int × Bool)) → Option (Ex × St)
  | none => none
  | some (Sum.inl r) => some (Ex.ret, (St.mk [(4, (AV.v (TV.one (At.int IntKind.i64 r))))] [(Blk.mk Bool.false (Body.fl FloatKind.f32 b0))]))
  | some (Sum.inr r) => some ((Ex.exit 0), (St.mk [(0, (AV.v (TV.one (At.vw 0 0 sn 1)))), (1, (AV.v (TV.one (At.fn 148 [])))), (7, (AV.v (TV.one (At.int IntKind.i64 t7)))), (8, (AV.v (TV.one (At.int IntKind.i64 r.1)))), (9, (AV.v (TV.one (At.bool r.2))))] [(Blk.mk Bool.false (Body.fl FloatKind.f32 b0))]))
def zhj (sn : Nat) (t7 : Int) (b0 : List Nat) (x : Option ((Int) ⊕ (Int × Bool))) : LO := (LO.two (oL x) (LO.one Ex.ret (St.mk [(4, (AV.v (TV.one (At.int IntKind.i64 ((tL x).getD default)))))] [(Blk.mk Bool.false (Body.fl FloatKind.f32 b0))])) (LO.one (Ex.exit 0) (St.mk [(0, (AV.v (TV.one (At.vw 0 0 sn 1)))), (1, (AV.v (TV.one (At.fn 148 [])))), (7, (AV.v (TV.one (At.int IntKind.i64 t7)))), (8, (AV.v (TV.one (At.int IntKind.i64 ((tR x).getD default).1)))), (9, (AV.v (TV.one (At.bool ((tR x).getD default).2))))] [(Blk.mk Bool.false (Body.fl FloatKind.f32 b0))])))
theorem ziw (sn : Nat) (t7 : Int) (b0 : List Nat) : ∀ x : Option ((Int) ⊕ (Int × Bool)), x.isSome = true → (z64 sn t7 b0) x = some (pick (zhj sn t7 b0 x))
  | none, h => by cases h
  | some (Sum.inl r), _ => rfl
  | some (Sum.inr r), _ => rfl
theorem zic (sn : Nat) (t7 : Int) (t8 : Int) (b0 : List Nat) (K : Ex → St → Option (Ex × St)) : evC (R := Ex × St) Γ3 (evFn Γ3 8 8) 178 1 fi178.nt fi178.live fi178.nl 8 (findL 2 (loopsIn fi178.code)) (St.mk [(0, (AV.v (TV.one (At.vw 0 0 sn 1)))), (1, (AV.v (TV.one (At.fn 148 [])))), (7, (AV.v (TV.one (At.int IntKind.i64 t7)))), (8, (AV.v (TV.one (At.int IntKind.i64 t8))))] [(Blk.mk Bool.false (Body.fl FloatKind.f32 b0))]) K = z1p sn t7 b0 t8 (fun t8' => K .normal (St.mk [(0, (AV.v (TV.one (At.vw 0 0 sn 1)))), (1, (AV.v (TV.one (At.fn 148 [])))), (7, (AV.v (TV.one (At.int IntKind.i64 t7)))), (8, (AV.v (TV.one (At.int IntKind.i64 t8'))))] [(Blk.mk Bool.false (Body.fl FloatKind.f32 b0))])) (fun c0_ => K Ex.ret (St.mk [(4, (AV.v (TV.one (At.int IntKind.i64 c0_))))] [(Blk.mk Bool.false (Body.fl FloatKind.f32 b0))])) (fun c0_ c1_ => K (Ex.exit 0) (St.mk [(0, (AV.v (TV.one (At.vw 0 0 sn 1)))), (1, (AV.v (TV.one (At.fn 148 [])))), (7, (AV.v (TV.one (At.int IntKind.i64 t7)))), (8, (AV.v (TV.one (At.int IntKind.i64 c0_)))), (9, (AV.v (TV.one (At.bool c1_))))] [(Blk.mk Bool.false (Body.fl FloatKind.f32 b0))])) := by kernel_rfl
theorem zim (sn : Nat) (t7 : Int) (b0 : List Nat) : ∀ (n : Nat) (t8 : Int), iter 178 2 1 (evC (R := Ex × St) Γ3 (evFn Γ3 8 8) 178 1 fi178.nt fi178.live fi178.nl 8 (findL 2 (loopsIn fi178.code))) n (St.mk [(0, (AV.v (TV.one (At.vw 0 0 sn 1)))), (1, (AV.v (TV.one (At.fn 148 [])))), (7, (AV.v (TV.one (At.int IntKind.i64 t7)))), (8, (AV.v (TV.one (At.int IntKind.i64 t8))))] [(Blk.mk Bool.false (Body.fl FloatKind.f32 b0))]) (fun e st => some (e, st)) = (z64 sn t7 b0) (z0o sn t7 b0 n t8) := by
  intro n
  induction n with
  | zero => intros; rfl
  | succ n ih =>
    intro t8
    refine Eq.trans (iter_succ ..) (Eq.trans (zic sn t7 t8 b0 (nextK 178 2 1 (evC (R := Ex × St) Γ3 (evFn Γ3 8 8) 178 1 fi178.nt fi178.live fi178.nl 8 (findL 2 (loopsIn fi178.code))) n (fun e st => some (e, st)))) (Eq.trans ?_ (zfj (z64 sn t7 b0) rfl sn t7 b0 t8 (fun t8' => z0o sn t7 b0 n t8') (fun c0_ => some (Sum.inl c0_)) (fun c0_ c1_ => some (Sum.inr (c0_, c1_))))))
    exact congrArg (fun kn_ => z1p sn t7 b0 t8 kn_ (fun c0_ => (z64 sn t7 b0) (some (Sum.inl c0_))) (fun c0_ c1_ => (z64 sn t7 b0) (some (Sum.inr (c0_, c1_))))) (funext fun t8' => ih t8')
theorem z05 : LoopOne Try.prog fnTab 178 2 z04 := lp_of (Γ := Γ3) tyTab_ok (FnL.ok fnTab_ok _ _) (LpL.ok lt3_ok) (SumL.ok tb3_ok _) mixed (fi := fi178) (by kernel_rfl) (by kernel_rfl) (by
  intro lo st out hp
  unfold z04 at hp
  split at hp
  · rename_i sn t7 t8 b0
    injection hp with hp
    injection hp with h1 h2
    subst h2
    exact ⟨8, 8, big, Eq.trans (zim sn t7 b0 big t8) (ziw sn t7 b0 (z0o sn t7 b0 big t8) h1)⟩
  · cases hp)
noncomputable def z02 : Nat → St → Option (Bool × LO)
  | 1, (St.mk [(0, (AV.v (TV.one (At.vw 0 0 sn 1)))), (1, (AV.v (TV.one (At.fn 150 [])))), (7, (AV.v (TV.one (At.int IntKind.i64 t7)))), (8, (AV.v (TV.one (At.int IntKind.i64 t8))))] [(Blk.mk Bool.false (Body.fl FloatKind.f32 b0))]) => some ((z43 sn t7 b0 t8), (LO.two (z3y sn t7 b0 t8) (LO.one Ex.ret (St.mk [(4, (AV.v (TV.one (At.int IntKind.i64 (z6f sn t7 b0 t8)))))] [(Blk.mk Bool.false (Body.fl FloatKind.f32 b0))])) (LO.one (Ex.exit 0) (St.mk [(0, (AV.v (TV.one (At.vw 0 0 sn 1)))), (1, (AV.v (TV.one (At.fn 150 [])))), (7, (AV.v (TV.one (At.int IntKind.i64 t7)))), (8, (AV.v (TV.one (At.int IntKind.i64 (z7z sn t7 b0 t8))))), (9, (AV.v (TV.one (At.bool (z80 sn t7 b0 t8)))))] [(Blk.mk Bool.false (Body.fl FloatKind.f32 b0))]))))
  | _, _ => none
def z5t (sn : Nat) (t7 : Int) (b0 : List Nat) : Option ((Int) ⊕ (Int × Bool)) → Option (Ex × St)
  | none => none
  | some (Sum.inl r) => some (Ex.ret, (St.mk [(4, (AV.v (TV.one (At.int IntKind.i64 r))))] [(Blk.mk Bool.false (Body.fl FloatKind.f32 b0))]))
  | some (Sum.inr r) => some ((Ex.exit 0), (St.mk [(0, (AV.v (TV.one (At.vw 0 0 sn 1)))), (1, (AV.v (TV.one (At.fn 150 [])))), (7, (AV.v (TV.one (At.int IntKind.i64 t7)))), (8, (AV.v (TV.one (At.int IntKind.i64 r.1)))), (9, (AV.v (TV.one (At.bool r.2))))] [(Blk.mk Bool.false (Body.fl FloatKind.f32 b0))]))
def zgy (sn : Nat) (t7 : Int) (b0 : List Nat) (x : Option ((Int) ⊕ (Int × Bool))) : LO := (LO.two (oL x) (LO.one Ex.ret (St.mk [(4, (AV.v (TV.one (At.int IntKind.i64 ((tL x).getD default)))))] [(Blk.mk Bool.false (Body.fl FloatKind.f32 b0))])) (LO.one (Ex.exit 0) (St.mk [(0, (AV.v (TV.one (At.vw 0 0 sn 1)))), (1, (AV.v (TV.one (At.fn 150 [])))), (7, (AV.v (TV.one (At.int IntKind.i64 t7)))), (8, (AV.v (TV.one (At.int IntKind.i64 ((tR x).getD default).1)))), (9, (AV.v (TV.one (At.bool ((tR x).getD default).2))))] [(Blk.mk Bool.false (Body.fl FloatKind.f32 b0))])))
theorem zhe (sn : Nat) (t7 : Int) (b0 : List Nat) : ∀ x : Option ((Int) ⊕ (Int × Bool)), x.isSome = true → (z5t sn t7 b0) x = some (pick (zgy sn t7 b0 x))
  | none, h => by cases h
  | some (Sum.inl r), _ => rfl
  | some (Sum.inr r), _ => rfl
theorem zh8 (sn : Nat) (t7 : Int) (t8 : Int) (b0 : List Nat) (K : Ex → St → Option (Ex × St)) : evC (R := Ex × St) Γ3 (evFn Γ3 8 8) 178 1 fi178.nt fi178.live fi178.nl 8 (findL 2 (loopsIn fi178.code)) (St.mk [(0, (AV.v (TV.one (At.vw 0 0 sn 1)))), (1, (AV.v (TV.one (At.fn 150 [])))), (7, (AV.v (TV.one (At.int IntKind.i64 t7)))), (8, (AV.v (TV.one (At.int IntKind.i64 t8))))] [(Blk.mk Bool.false (Body.fl FloatKind.f32 b0))]) K = z1k sn t7 b0 t8 (fun t8' => K .normal (St.mk [(0, (AV.v (TV.one (At.vw 0 0 sn 1)))), (1, (AV.v (TV.one (At.fn 150 [])))), (7, (AV.v (TV.one (At.int IntKind.i64 t7)))), (8, (AV.v (TV.one (At.int IntKind.i64 t8'))))] [(Blk.mk Bool.false (Body.fl FloatKind.f32 b0))])) (fun c0_ => K Ex.ret (St.mk [(4, (AV.v (TV.one (At.int IntKind.i64 c0_))))] [(Blk.mk Bool.false (Body.fl FloatKind.f32 b0))])) (fun c0_ c1_ => K (Ex.exit 0) (St.mk [(0, (AV.v (TV.one (At.vw 0 0 sn 1)))), (1, (AV.v (TV.one (At.fn 150 [])))), (7, (AV.v (TV.one (At.int IntKind.i64 t7)))), (8, (AV.v (TV.one (At.int IntKind.i64 c0_)))), (9, (AV.v (TV.one (At.bool c1_))))] [(Blk.mk Bool.false (Body.fl FloatKind.f32 b0))])) := by kernel_rfl
theorem zhc (sn : Nat) (t7 : Int) (b0 : List Nat) : ∀ (n : Nat) (t8 : Int), iter 178 2 1 (evC (R := Ex × St) Γ3 (evFn Γ3 8 8) 178 1 fi178.nt fi178.live fi178.nl 8 (findL 2 (loopsIn fi178.code))) n (St.mk [(0, (AV.v (TV.one (At.vw 0 0 sn 1)))), (1, (AV.v (TV.one (At.fn 150 [])))), (7, (AV.v (TV.one (At.int IntKind.i64 t7)))), (8, (AV.v (TV.one (At.int IntKind.i64 t8))))] [(Blk.mk Bool.false (Body.fl FloatKind.f32 b0))]) (fun e st => some (e, st)) = (z5t sn t7 b0) (z0n sn t7 b0 n t8) := by
  intro n
  induction n with
  | zero => intros; rfl
  | succ n ih =>
    intro t8
    refine Eq.trans (iter_succ ..) (Eq.trans (zh8 sn t7 t8 b0 (nextK 178 2 1 (evC (R := Ex × St) Γ3 (evFn Γ3 8 8) 178 1 fi178.nt fi178.live fi178.nl 8 (findL 2 (loopsIn fi178.code))) n (fun e st => some (e, st)))) (Eq.trans ?_ (zf3 (z5t sn t7 b0) rfl sn t7 b0 t8 (fun t8' => z0n sn t7 b0 n t8') (fun c0_ => some (Sum.inl c0_)) (fun c0_ c1_ => some (Sum.inr (c0_, c1_))))))
    exact congrArg (fun kn_ => z1k sn t7 b0 t8 kn_ (fun c0_ => (z5t sn t7 b0) (some (Sum.inl c0_))) (fun c0_ c1_ => (z5t sn t7 b0) (some (Sum.inr (c0_, c1_))))) (funext fun t8' => ih t8')
theorem z03 : LoopOne Try.prog fnTab 178 2 z02 := lp_of (Γ := Γ3) tyTab_ok (FnL.ok fnTab_ok _ _) (LpL.ok lt3_ok) (SumL.ok tb3_ok _) mixed (fi := fi178) (by kernel_rfl) (by kernel_rfl) (by
  intro lo st out hp
  unfold z02 at hp
  split at hp
  · rename_i sn t7 t8 b0
    injection hp with hp
    injection hp with h1 h2
    subst h2
    exact ⟨8, 8, big, Eq.trans (zhc sn t7 b0 big t8) (zhe sn t7 b0 (z0n sn t7 b0 big t8) h1)⟩
  · cases hp)
noncomputable def z3r : Nat → St → Option (Bool × LO)
  | 4, (St.mk [(0, (AV.v (TV.one (At.ptr 3 0 3)))), (3, (AV.v (TV.one (At.int IntKind.i64 t3)))), (4, (AV.v (TV.one (At.int IntKind.i64 t4))))] [(Blk.mk Bool.false (Body.fl FloatKind.f32 b0)), (Blk.mk Bool.false (Body.fl FloatKind.f32 b1)), (Blk.mk Bool.false (Body.fl FloatKind.f32 b2)), (Blk.mk Bool.false (Body.cells [(At.vw 0 0 q1e 1), (At.vw 1 0 q1t 1), (At.vw 2 0 q1u 1)]))]) => some ((za3 t3 b0 b1 b2 q1e q1t q1u t4), (LO.two (z9k t3 b0 b1 b2 q1e q1t q1u t4) (LO.one Ex.ret (St.mk [(2, (AV.v (TV.one (At.bool Bool.false))))] [(Blk.mk Bool.false (Body.fl FloatKind.f32 b0)), (Blk.mk Bool.false (Body.fl FloatKind.f32 b1)), (Blk.mk Bool.false (Body.fl FloatKind.f32 b2)), (Blk.mk Bool.false (Body.cells [(At.vw 0 0 q1e 1), (At.vw 1 0 q1t 1), (At.vw 2 0 q1u 1)]))])) (LO.one (Ex.exit 0) (St.mk [(0, (AV.v (TV.one (At.ptr 3 0 3)))), (3, (AV.v (TV.one (At.int IntKind.i64 t3)))), (4, (AV.v (TV.one (At.int IntKind.i64 (zkk t3 b0 b1 b2 q1e q1t q1u t4))))), (36, (AV.v (TV.one (At.bool (zkl t3 b0 b1 b2 q1e q1t q1u t4)))))] [(Blk.mk Bool.false (Body.fl FloatKind.f32 b0)), (Blk.mk Bool.false (Body.fl FloatKind.f32 b1)), (Blk.mk Bool.false (Body.fl FloatKind.f32 b2)), (Blk.mk Bool.false (Body.cells [(At.vw 0 0 q1e 1), (At.vw 1 0 q1t 1), (At.vw 2 0 q1u 1)]))]))))
  | _, _ => none
def zgl (t3 : Int) (b0 : List Nat) (b1 : List Nat) (b2 : List Nat) (q1e : Nat) (q1t : Nat) (q1u : Nat) : Option ((Unit) ⊕ (Int × Bool)) → Option (Ex × St)
  | none => none
  | some (Sum.inl r) => some (Ex.ret, (St.mk [(2, (AV.v (TV.one (At.bool Bool.false))))] [(Blk.mk Bool.false (Body.fl FloatKind.f32 b0)), (Blk.mk Bool.false (Body.fl FloatKind.f32 b1)), (Blk.mk Bool.false (Body.fl FloatKind.f32 b2)), (Blk.mk Bool.false (Body.cells [(At.vw 0 0 q1e 1), (At.vw 1 0 q1t 1), (At.vw 2 0 q1u 1)]))]))
  | some (Sum.inr r) => some ((Ex.exit 0), (St.mk [(0, (AV.v (TV.one (At.ptr 3 0 3)))), (3, (AV.v (TV.one (At.int IntKind.i64 t3)))), (4, (AV.v (TV.one (At.int IntKind.i64 r.1)))), (36, (AV.v (TV.one (At.bool r.2))))] [(Blk.mk Bool.false (Body.fl FloatKind.f32 b0)), (Blk.mk Bool.false (Body.fl FloatKind.f32 b1)), (Blk.mk Bool.false (Body.fl FloatKind.f32 b2)), (Blk.mk Bool.false (Body.cells [(At.vw 0 0 q1e 1), (At.vw 1 0 q1t 1), (At.vw 2 0 q1u 1)]))]))
def zuc (t3 : Int) (b0 : List Nat) (b1 : List Nat) (b2 : List Nat) (q1e : Nat) (q1t : Nat) (q1u : Nat) (x : Option ((Unit) ⊕ (Int × Bool))) : LO := (LO.two (oL x) (LO.one Ex.ret (St.mk [(2, (AV.v (TV.one (At.bool Bool.false))))] [(Blk.mk Bool.false (Body.fl FloatKind.f32 b0)), (Blk.mk Bool.false (Body.fl FloatKind.f32 b1)), (Blk.mk Bool.false (Body.fl FloatKind.f32 b2)), (Blk.mk Bool.false (Body.cells [(At.vw 0 0 q1e 1), (At.vw 1 0 q1t 1), (At.vw 2 0 q1u 1)]))])) (LO.one (Ex.exit 0) (St.mk [(0, (AV.v (TV.one (At.ptr 3 0 3)))), (3, (AV.v (TV.one (At.int IntKind.i64 t3)))), (4, (AV.v (TV.one (At.int IntKind.i64 ((tR x).getD default).1)))), (36, (AV.v (TV.one (At.bool ((tR x).getD default).2))))] [(Blk.mk Bool.false (Body.fl FloatKind.f32 b0)), (Blk.mk Bool.false (Body.fl FloatKind.f32 b1)), (Blk.mk Bool.false (Body.fl FloatKind.f32 b2)), (Blk.mk Bool.false (Body.cells [(At.vw 0 0 q1e 1), (At.vw 1 0 q1t 1), (At.vw 2 0 q1u 1)]))])))
theorem zv8 (t3 : Int) (b0 : List Nat) (b1 : List Nat) (b2 : List Nat) (q1e : Nat) (q1t : Nat) (q1u : Nat) : ∀ x : Option ((Unit) ⊕ (Int × Bool)), x.isSome = true → (zgl t3 b0 b1 b2 q1e q1t q1u) x = some (pick (zuc t3 b0 b1 b2 q1e q1t q1u x))
  | none, h => by cases h
  | some (Sum.inl r), _ => rfl
  | some (Sum.inr r), _ => rfl
theorem zuz (t3 : Int) (t4 : Int) (b0 : List Nat) (b1 : List Nat) (b2 : List Nat) (q1e : Nat) (q1t : Nat) (q1u : Nat) (K : Ex → St → Option (Ex × St)) : evC (R := Ex × St) Γ3 (evFn Γ3 8 8) 184 4 fi184.nt fi184.live fi184.nl 8 (findL 5 (loopsIn fi184.code)) (St.mk [(0, (AV.v (TV.one (At.ptr 3 0 3)))), (3, (AV.v (TV.one (At.int IntKind.i64 t3)))), (4, (AV.v (TV.one (At.int IntKind.i64 t4))))] [(Blk.mk Bool.false (Body.fl FloatKind.f32 b0)), (Blk.mk Bool.false (Body.fl FloatKind.f32 b1)), (Blk.mk Bool.false (Body.fl FloatKind.f32 b2)), (Blk.mk Bool.false (Body.cells [(At.vw 0 0 q1e 1), (At.vw 1 0 q1t 1), (At.vw 2 0 q1u 1)]))]) K = z99 t3 b0 b1 b2 q1e q1t q1u t4 (fun t4' => K .normal (St.mk [(0, (AV.v (TV.one (At.ptr 3 0 3)))), (3, (AV.v (TV.one (At.int IntKind.i64 t3)))), (4, (AV.v (TV.one (At.int IntKind.i64 t4'))))] [(Blk.mk Bool.false (Body.fl FloatKind.f32 b0)), (Blk.mk Bool.false (Body.fl FloatKind.f32 b1)), (Blk.mk Bool.false (Body.fl FloatKind.f32 b2)), (Blk.mk Bool.false (Body.cells [(At.vw 0 0 q1e 1), (At.vw 1 0 q1t 1), (At.vw 2 0 q1u 1)]))])) (fun _ => K Ex.ret (St.mk [(2, (AV.v (TV.one (At.bool Bool.false))))] [(Blk.mk Bool.false (Body.fl FloatKind.f32 b0)), (Blk.mk Bool.false (Body.fl FloatKind.f32 b1)), (Blk.mk Bool.false (Body.fl FloatKind.f32 b2)), (Blk.mk Bool.false (Body.cells [(At.vw 0 0 q1e 1), (At.vw 1 0 q1t 1), (At.vw 2 0 q1u 1)]))])) (fun c0_ c1_ => K (Ex.exit 0) (St.mk [(0, (AV.v (TV.one (At.ptr 3 0 3)))), (3, (AV.v (TV.one (At.int IntKind.i64 t3)))), (4, (AV.v (TV.one (At.int IntKind.i64 c0_)))), (36, (AV.v (TV.one (At.bool c1_))))] [(Blk.mk Bool.false (Body.fl FloatKind.f32 b0)), (Blk.mk Bool.false (Body.fl FloatKind.f32 b1)), (Blk.mk Bool.false (Body.fl FloatKind.f32 b2)), (Blk.mk Bool.false (Body.cells [(At.vw 0 0 q1e 1), (At.vw 1 0 q1t 1), (At.vw 2 0 q1u 1)]))])) := by kernel_rfl
theorem zv0 (t3 : Int) (b0 : List Nat) (b1 : List Nat) (b2 : List Nat) (q1e : Nat) (q1t : Nat) (q1u : Nat) : ∀ (n : Nat) (t4 : Int), iter 184 5 4 (evC (R := Ex × St) Γ3 (evFn Γ3 8 8) 184 4 fi184.nt fi184.live fi184.nl 8 (findL 5 (loopsIn fi184.code))) n (St.mk [(0, (AV.v (TV.one (At.ptr 3 0 3)))), (3, (AV.v (TV.one (At.int IntKind.i64 t3)))), (4, (AV.v (TV.one (At.int IntKind.i64 t4))))] [(Blk.mk Bool.false (Body.fl FloatKind.f32 b0)), (Blk.mk Bool.false (Body.fl FloatKind.f32 b1)), (Blk.mk Bool.false (Body.fl FloatKind.f32 b2)), (Blk.mk Bool.false (Body.cells [(At.vw 0 0 q1e 1), (At.vw 1 0 q1t 1), (At.vw 2 0 q1u 1)]))]) (fun e st => some (e, st)) = (zgl t3 b0 b1 b2 q1e q1t q1u) (z6z t3 b0 b1 b2 q1e q1t q1u n t4) := by
  intro n
  induction n with
  | zero => intros; rfl
  | succ n ih =>
    intro t4
    refine Eq.trans (iter_succ ..) (Eq.trans (zuz t3 t4 b0 b1 b2 q1e q1t q1u (nextK 184 5 4 (evC (R := Ex × St) Γ3 (evFn Γ3 8 8) 184 4 fi184.nt fi184.live fi184.nl 8 (findL 5 (loopsIn fi184.code))) n (fun e st => some (e, st)))) (Eq.trans ?_ (zre (zgl t3 b0 b1 b2 q1e q1t q1u) rfl t3 b0 b1 b2 q1e q1t q1u t4 (fun t4' => z6z t3 b0 b1 b2 q1e q1t q1u n t4') (fun _ => some (Sum.inl ())) (fun c0_ c1_ => some (Sum.inr (c0_, c1_))))))
    exact congrArg (fun kn_ => z99 t3 b0 b1 b2 q1e q1t q1u t4 kn_ (fun _ => (zgl t3 b0 b1 b2 q1e q1t q1u) (some (Sum.inl ()))) (fun c0_ c1_ => (zgl t3 b0 b1 b2 q1e q1t q1u) (some (Sum.inr (c0_, c1_))))) (funext fun t4' => ih t4')
theorem z34 : LoopOne Try.prog fnTab 184 5 z3r := lp_of (Γ := Γ3) tyTab_ok (FnL.ok fnTab_ok _ _) (LpL.ok lt3_ok) (SumL.ok tb3_ok _) mixed (fi := fi184) (by kernel_rfl) (by kernel_rfl) (by
  intro lo st out hp
  unfold z3r at hp
  split at hp
  · rename_i t3 t4 b0 b1 b2 q1e q1t q1u
    injection hp with hp
    injection hp with h1 h2
    subst h2
    exact ⟨8, 8, big, Eq.trans (zv0 t3 b0 b1 b2 q1e q1t q1u big t4) (zv8 t3 b0 b1 b2 q1e q1t q1u (z6z t3 b0 b1 b2 q1e q1t q1u big t4) h1)⟩
  · cases hp)
noncomputable def tb4 : List (Nat × (List PT → Option (Bool × AV × List Blk))) := [(156, z0w), (181, z1d), (182, z21), (189, z22), (26, z2q), (55, z28), (84, z11), (89, z40), (102, z6a), (112, z1x), (115, z2b), (123, z2p), (126, z4t), (157, z69), (160, z1y), (162, z4p), (167, z2a), (175, z3z), (176, z1o), (187, z29), (74, z3n), (83, z10), (85, z4e), (90, z3o), (103, z4d), (111, z2l), (116, z32), (117, z4f), (138, z30), (148, z1v), (150, z1b), (169, z2m), (185, z31), (52, z41), (154, z2k), (158, z5u), (166, z2j), (104, z2w), (119, z39), (120, z2s), (168, z2x), (188, z2h)]
noncomputable def lt4 : List ((Nat × Nat) × (Nat → St → Option (Bool × LO))) := [((166, 3), z19), ((120, 3), z1i), ((168, 4), z1g), ((188, 17), z14), ((122, 4), z1q), ((178, 2), z04), ((178, 2), z02), ((184, 5), z3r)]
noncomputable def Γ4 : Ctx := ⟨tyTab, fnTab, tblSum tb4, tblLp lt4⟩
theorem tb4_ok : SumL Try.prog tb4 := SumL.cons z0r (SumL.cons z16 (SumL.cons z1l (SumL.cons z1n (SumL.cons z26 (SumL.cons z1t (SumL.cons z0x (SumL.cons z2y (SumL.cons z50 (SumL.cons z1j (SumL.cons z1u (SumL.cons z27 (SumL.cons z3f (SumL.cons z51 (SumL.cons z1h (SumL.cons z3h (SumL.cons z1r (SumL.cons z2z (SumL.cons z18 (SumL.cons z1s (SumL.cons z2v (SumL.cons z0y (SumL.cons z3a (SumL.cons z2u (SumL.cons z3b (SumL.cons z24 (SumL.cons z2g (SumL.cons z3c (SumL.cons z2i (SumL.cons z1f (SumL.cons z15 (SumL.cons z23 (SumL.cons z2f (SumL.cons z36 (SumL.cons z1z (SumL.cons z4c (SumL.cons z20 (SumL.cons z2d (SumL.cons z2n (SumL.cons z2e (SumL.cons z2c (SumL.cons z25 (SumL.nil))))))))))))))))))))))))))))))))))))))))))
theorem lt4_ok : LpL Try.prog fnTab lt4 := LpL.cons z17 (LpL.cons z1c (LpL.cons z1a (LpL.cons z12 (LpL.cons z1m (LpL.cons z05 (LpL.cons z03 (LpL.cons z34 (LpL.nil))))))))
noncomputable def z58 : List PT → Option (Bool × AV × List Blk)
  | [.agg [.row 1 q0p (.fl .f32 q0v), .row 1 q0r (.fl .f32 q0y), .row 1 q0s (.fl .f32 q0x), .row 3 q14 (.fl .f32 q19), .s (.int .i64 q1n), .s (.flt .f32 q1w), .s (.flt .f32 q1x)]] => some ((zci q0p q0v q0r q0y q0s q0x q14 q19 q1n q1w q1x), ((AV.v (TV.agg [(At.sl 0 0 (z0t q0p q0v q0r q0y q0s q0x q14 q19 q1n q1w q1x) 1), (At.sl 1 0 (z0v q0p q0v q0r q0y q0s q0x q14 q19 q1n q1w q1x) 1), (At.sl 2 0 (z0u q0p q0v q0r q0y q0s q0x q14 q19 q1n q1w q1x) 1), (At.sl 3 0 (z0s q0p q0v q0r q0y q0s q0x q14 q19 q1n q1w q1x) 3), (At.int IntKind.i64 q1n), (At.flt FloatKind.f32 q1w), (At.flt FloatKind.f32 q1x)])), [(Blk.mk Bool.true (Body.fl FloatKind.f32 (z3w q0p q0v q0r q0y q0s q0x q14 q19 q1n q1w q1x))), (Blk.mk Bool.true (Body.fl FloatKind.f32 (z3v q0p q0v q0r q0y q0s q0x q14 q19 q1n q1w q1x))), (Blk.mk Bool.true (Body.fl FloatKind.f32 (z3s q0p q0v q0r q0y q0s q0x q14 q19 q1n q1w q1x))), (Blk.mk Bool.true (Body.fl FloatKind.f32 (z3u q0p q0v q0r q0y q0s q0x q14 q19 q1n q1w q1x)))]))
  | _ => none
def zpo (q0p : Nat) (q0v : List Nat) (q0r : Nat) (q0y : List Nat) (q0s : Nat) (q0x : List Nat) (q14 : Nat) (q19 : List Nat) (q1n : Int) (q1w : Nat) (q1x : Nat) : Option (Nat × Nat × Nat × Nat × (List Nat) × (List Nat) × (List Nat) × (List Nat)) → Option (AV × List Blk)
  | some r => some ((AV.v (TV.agg [(At.sl 0 0 r.1 1), (At.sl 1 0 r.2.1 1), (At.sl 2 0 r.2.2.1 1), (At.sl 3 0 r.2.2.2.1 3), (At.int IntKind.i64 q1n), (At.flt FloatKind.f32 q1w), (At.flt FloatKind.f32 q1x)])), [(Blk.mk Bool.true (Body.fl FloatKind.f32 r.2.2.2.2.1)), (Blk.mk Bool.true (Body.fl FloatKind.f32 r.2.2.2.2.2.1)), (Blk.mk Bool.true (Body.fl FloatKind.f32 r.2.2.2.2.2.2.1)), (Blk.mk Bool.true (Body.fl FloatKind.f32 r.2.2.2.2.2.2.2))])
  | none => none
theorem zvo (q0p : Nat) (q0v : List Nat) (q0r : Nat) (q0y : List Nat) (q0s : Nat) (q0x : List Nat) (q14 : Nat) (q19 : List Nat) (q1n : Int) (q1w : Nat) (q1x : Nat) : evFn Γ4 8 8 54 (impTs 0 [.agg [.row 1 q0p (.fl .f32 q0v), .row 1 q0r (.fl .f32 q0y), .row 1 q0s (.fl .f32 q0x), .row 3 q14 (.fl .f32 q19), .s (.int .i64 q1n), .s (.flt .f32 q1w), .s (.flt .f32 q1x)]]).1 (impTs 0 [.agg [.row 1 q0p (.fl .f32 q0v), .row 1 q0r (.fl .f32 q0y), .row 1 q0s (.fl .f32 q0x), .row 3 q14 (.fl .f32 q19), .s (.int .i64 q1n), .s (.flt .f32 q1w), .s (.flt .f32 q1x)]]).2 (expo (impTs 0 [.agg [.row 1 q0p (.fl .f32 q0v), .row 1 q0r (.fl .f32 q0y), .row 1 q0s (.fl .f32 q0x), .row 3 q14 (.fl .f32 q19), .s (.int .i64 q1n), .s (.flt .f32 q1w), .s (.flt .f32 q1x)]]).2.length) = zek q0p q0v q0r q0y q0s q0x q14 q19 q1n q1w q1x (fun c0_ c1_ c2_ c3_ c4_ c5_ c6_ c7_ => some ((AV.v (TV.agg [(At.sl 0 0 c0_ 1), (At.sl 1 0 c1_ 1), (At.sl 2 0 c2_ 1), (At.sl 3 0 c3_ 3), (At.int IntKind.i64 q1n), (At.flt FloatKind.f32 q1w), (At.flt FloatKind.f32 q1x)])), [(Blk.mk Bool.true (Body.fl FloatKind.f32 c4_)), (Blk.mk Bool.true (Body.fl FloatKind.f32 c5_)), (Blk.mk Bool.true (Body.fl FloatKind.f32 c6_)), (Blk.mk Bool.true (Body.fl FloatKind.f32 c7_))])) := by kernel_rfl
theorem z48 : SumOne Try.prog 54 z58 := sum_of (Γ := Γ4) (fuel := 8) (d := 8) tyTab_ok (FnL.ok fnTab_ok _ _) (LpL.ok lt4_ok) (SumL.ok tb4_ok _) mixed (by
  intro pts v news hp hc
  clear hc
  unfold z58 at hp
  split at hp
  · rename_i q0p q0v q0r q0y q0s q0x q14 q19 q1n q1w q1x
    exact Eq.trans (Eq.trans (zvo q0p q0v q0r q0y q0s q0x q14 q19 q1n q1w q1x) (zsi (zpo q0p q0v q0r q0y q0s q0x q14 q19 q1n q1w q1x) rfl q0p q0v q0r q0y q0s q0x q14 q19 q1n q1w q1x (fun c0_ c1_ c2_ c3_ c4_ c5_ c6_ c7_ => some (c0_, c1_, c2_, c3_, c4_, c5_, c6_, c7_)))) (fin_out (o := (zpo q0p q0v q0r q0y q0s q0x q14 q19 q1n q1w q1x)) (x := z7l q0p q0v q0r q0y q0s q0x q14 q19 q1n q1w q1x) (d := default) (V := fun r => ((AV.v (TV.agg [(At.sl 0 0 r.1 1), (At.sl 1 0 r.2.1 1), (At.sl 2 0 r.2.2.1 1), (At.sl 3 0 r.2.2.2.1 3), (At.int IntKind.i64 q1n), (At.flt FloatKind.f32 q1w), (At.flt FloatKind.f32 q1x)])), [(Blk.mk Bool.true (Body.fl FloatKind.f32 r.2.2.2.2.1)), (Blk.mk Bool.true (Body.fl FloatKind.f32 r.2.2.2.2.2.1)), (Blk.mk Bool.true (Body.fl FloatKind.f32 r.2.2.2.2.2.2.1)), (Blk.mk Bool.true (Body.fl FloatKind.f32 r.2.2.2.2.2.2.2))])) (fun r => rfl) hp)
  · cases hp)
noncomputable def z3p : List PT → Option (Bool × AV × List Blk)
  | [.agg [.row 1 q17 (.fl .f32 q1l), .row 1 q1c (.fl .f32 q1o), .row 1 q1d (.fl .f32 q1p)], .agg [.row 1 q2b (.fl .f32 q2i), .row 1 q2e (.fl .f32 q2l), .row 1 q2d (.fl .f32 q2m)]] => some ((zjd q17 q1l q1c q1o q1d q1p q2b q2i q2e q2l q2d q2m), ((AV.v (TV.one (At.bool (zhm q17 q1l q1c q1o q1d q1p q2b q2i q2e q2l q2d q2m)))), []))
  | _ => none
def znh (q17 : Nat) (q1l : List Nat) (q1c : Nat) (q1o : List Nat) (q1d : Nat) (q1p : List Nat) (q2b : Nat) (q2i : List Nat) (q2e : Nat) (q2l : List Nat) (q2d : Nat) (q2m : List Nat) : Option (Bool) → Option (AV × List Blk)
  | some r => some ((AV.v (TV.one (At.bool r))), [])
  | none => none
theorem zua (q17 : Nat) (q1l : List Nat) (q1c : Nat) (q1o : List Nat) (q1d : Nat) (q1p : List Nat) (q2b : Nat) (q2i : List Nat) (q2e : Nat) (q2l : List Nat) (q2d : Nat) (q2m : List Nat) : evFn Γ4 8 8 121 (impTs 0 [.agg [.row 1 q17 (.fl .f32 q1l), .row 1 q1c (.fl .f32 q1o), .row 1 q1d (.fl .f32 q1p)], .agg [.row 1 q2b (.fl .f32 q2i), .row 1 q2e (.fl .f32 q2l), .row 1 q2d (.fl .f32 q2m)]]).1 (impTs 0 [.agg [.row 1 q17 (.fl .f32 q1l), .row 1 q1c (.fl .f32 q1o), .row 1 q1d (.fl .f32 q1p)], .agg [.row 1 q2b (.fl .f32 q2i), .row 1 q2e (.fl .f32 q2l), .row 1 q2d (.fl .f32 q2m)]]).2 (expo (impTs 0 [.agg [.row 1 q17 (.fl .f32 q1l), .row 1 q1c (.fl .f32 q1o), .row 1 q1d (.fl .f32 q1p)], .agg [.row 1 q2b (.fl .f32 q2i), .row 1 q2e (.fl .f32 q2l), .row 1 q2d (.fl .f32 q2m)]]).2.length) = zcj q17 q1l q1c q1o q1d q1p q2b q2i q2e q2l q2d q2m (fun c0_ => some ((AV.v (TV.one (At.bool c0_))), [])) := by kernel_rfl
theorem z35 : SumOne Try.prog 121 z3p := sum_of (Γ := Γ4) (fuel := 8) (d := 8) tyTab_ok (FnL.ok fnTab_ok _ _) (LpL.ok lt4_ok) (SumL.ok tb4_ok _) mixed (by
  intro pts v news hp hc
  clear hc
  unfold z3p at hp
  split at hp
  · rename_i q17 q1l q1c q1o q1d q1p q2b q2i q2e q2l q2d q2m
    exact Eq.trans (Eq.trans (zua q17 q1l q1c q1o q1d q1p q2b q2i q2e q2l q2d q2m) (zqv (znh q17 q1l q1c q1o q1d q1p q2b q2i q2e q2l q2d q2m) rfl q17 q1l q1c q1o q1d q1p q2b q2i q2e q2l q2d q2m (fun c0_ => some c0_))) (fin_out (o := (znh q17 q1l q1c q1o q1d q1p q2b q2i q2e q2l q2d q2m)) (x := zd1 q17 q1l q1c q1o q1d q1p q2b q2i q2e q2l q2d q2m) (d := default) (V := fun r => ((AV.v (TV.one (At.bool r))), [])) (fun r => rfl) hp)
  · cases hp)
noncomputable def z38 : List PT → Option (Bool × AV × List Blk)
  | [.one (.row 3 a_n (.fl .f32 a)), .one (.row 3 b_n (.fl .f32 b))] => some ((zht a_n a b_n b), ((AV.v (TV.one (At.bool (zh6 a_n a b_n b)))), []))
  | _ => none
def zmu (a_n : Nat) (a : List Nat) (b_n : Nat) (b : List Nat) : Option (Bool) → Option (AV × List Blk)
  | some r => some ((AV.v (TV.one (At.bool r))), [])
  | none => none
theorem ztt (a_n : Nat) (a : List Nat) (b_n : Nat) (b : List Nat) : evFn Γ4 8 8 122 (impTs 0 [.one (.row 3 a_n (.fl .f32 a)), .one (.row 3 b_n (.fl .f32 b))]).1 (impTs 0 [.one (.row 3 a_n (.fl .f32 a)), .one (.row 3 b_n (.fl .f32 b))]).2 (expo (impTs 0 [.one (.row 3 a_n (.fl .f32 a)), .one (.row 3 b_n (.fl .f32 b))]).2.length) = zbl a_n a b_n b (fun c0_ => some ((AV.v (TV.one (At.bool c0_))), [])) := by kernel_rfl
theorem z2o : SumOne Try.prog 122 z38 := sum_of (Γ := Γ4) (fuel := 8) (d := 8) tyTab_ok (FnL.ok fnTab_ok _ _) (LpL.ok lt4_ok) (SumL.ok tb4_ok _) mixed (by
  intro pts v news hp hc
  clear hc
  unfold z38 at hp
  split at hp
  · rename_i a_n a b_n b
    exact Eq.trans (Eq.trans (ztt a_n a b_n b) (zpy (zmu a_n a b_n b) rfl a_n a b_n b (fun c0_ => some c0_))) (fin_out (o := (zmu a_n a b_n b)) (x := zbt a_n a b_n b) (d := default) (V := fun r => ((AV.v (TV.one (At.bool r))), [])) (fun r => rfl) hp)
  · cases hp)
noncomputable def z56 : List PT → Option (Bool × AV × List Blk)
  | [.one (.s (.flt .f32 x))] => some ((z9p x), ((AV.v (TV.one (At.flt FloatKind.f32 (z61 x)))), []))
  | _ => none
def zpj (x : Nat) : Option (Nat) → Option (AV × List Blk)
  | some r => some ((AV.v (TV.one (At.flt FloatKind.f32 r))), [])
  | none => none
theorem zve (x : Nat) : evFn Γ4 8 8 165 (impTs 0 [.one (.s (.flt .f32 x))]).1 (impTs 0 [.one (.s (.flt .f32 x))]).2 (expo (impTs 0 [.one (.s (.flt .f32 x))]).2.length) = zet x (fun c0_ => some ((AV.v (TV.one (At.flt FloatKind.f32 c0_))), [])) := by kernel_rfl
theorem z46 : SumOne Try.prog 165 z56 := sum_of (Γ := Γ4) (fuel := 8) (d := 8) tyTab_ok (FnL.ok fnTab_ok _ _) (LpL.ok lt4_ok) (SumL.ok tb4_ok _) mixed (by
  intro pts v news hp hc
  clear hc
  unfold z56 at hp
  split at hp
  · rename_i x
    exact Eq.trans (Eq.trans (zve x) (zru (zpj x) rfl x (fun c0_ => some c0_))) (fin_out (o := (zpj x)) (x := zcq x) (d := default) (V := fun r => ((AV.v (TV.one (At.flt FloatKind.f32 r))), [])) (fun r => rfl) hp)
  · cases hp)
noncomputable def z0b : List PT → Option (Bool × AV × List Blk)
  | [.one (.row 1 s_n (.fl .f32 s)), .fn 148 []] => some ((z7q s_n s), ((AV.v (TV.one (At.int IntKind.i64 (z7h s_n s)))), []))
  | _ => none
def zc6 (s_n : Nat) (s : List Nat) : Option (Int) → Option (AV × List Blk)
  | some r => some ((AV.v (TV.one (At.int IntKind.i64 r))), [])
  | none => none
theorem zjm (s_n : Nat) (s : List Nat) : evFn Γ4 8 8 178 (impTs 0 [.one (.row 1 s_n (.fl .f32 s)), .fn 148 []]).1 (impTs 0 [.one (.row 1 s_n (.fl .f32 s)), .fn 148 []]).2 (expo (impTs 0 [.one (.row 1 s_n (.fl .f32 s)), .fn 148 []]).2.length) = z59 s_n s (fun c0_ => some ((AV.v (TV.one (At.int IntKind.i64 c0_))), [])) := by kernel_rfl
theorem z0e : SumOne Try.prog 178 z0b := sum_of (Γ := Γ4) (fuel := 8) (d := 8) tyTab_ok (FnL.ok fnTab_ok _ _) (LpL.ok lt4_ok) (SumL.ok tb4_ok _) mixed (by
  intro pts v news hp hc
  clear hc
  unfold z0b at hp
  split at hp
  · rename_i s_n s
    exact Eq.trans (Eq.trans (zjm s_n s) (zhi (zc6 s_n s) rfl s_n s (fun c0_ => some c0_))) (fin_out (o := (zc6 s_n s)) (x := z5a s_n s) (d := default) (V := fun r => ((AV.v (TV.one (At.int IntKind.i64 r))), [])) (fun r => rfl) hp)
  · cases hp)
noncomputable def z07 : List PT → Option (Bool × AV × List Blk)
  | [.one (.row 1 s_n (.fl .f32 s)), .fn 150 []] => some ((z79 s_n s), ((AV.v (TV.one (At.int IntKind.i64 (z75 s_n s)))), []))
  | _ => none
def zb3 (s_n : Nat) (s : List Nat) : Option (Int) → Option (AV × List Blk)
  | some r => some ((AV.v (TV.one (At.int IntKind.i64 r))), [])
  | none => none
theorem zj3 (s_n : Nat) (s : List Nat) : evFn Γ4 8 8 178 (impTs 0 [.one (.row 1 s_n (.fl .f32 s)), .fn 150 []]).1 (impTs 0 [.one (.row 1 s_n (.fl .f32 s)), .fn 150 []]).2 (expo (impTs 0 [.one (.row 1 s_n (.fl .f32 s)), .fn 150 []]).2.length) = z4v s_n s (fun c0_ => some ((AV.v (TV.one (At.int IntKind.i64 c0_))), [])) := by kernel_rfl
theorem z08 : SumOne Try.prog 178 z07 := sum_of (Γ := Γ4) (fuel := 8) (d := 8) tyTab_ok (FnL.ok fnTab_ok _ _) (LpL.ok lt4_ok) (SumL.ok tb4_ok _) mixed (by
  intro pts v news hp hc
  clear hc
  unfold z07 at hp
  split at hp
  · rename_i s_n s
    exact Eq.trans (Eq.trans (zj3 s_n s) (zgh (zb3 s_n s) rfl s_n s (fun c0_ => some c0_))) (fin_out (o := (zb3 s_n s)) (x := z4x s_n s) (d := default) (V := fun r => ((AV.v (TV.one (At.int IntKind.i64 r))), [])) (fun r => rfl) hp)
  · cases hp)
noncomputable def z6b : List PT → Option (Bool × AV × List Blk)
  | [.ptr [.row 1 q0c (.fl .f32 q0g), .row 1 q0u (.fl .f32 q0z), .row 1 q0t (.fl .f32 q10)]] => some ((zlz q0c q0g q0u q0z q0t q10), ((AV.v (TV.one (At.bool (zle q0c q0g q0u q0z q0t q10)))), []))
  | _ => none
def zsr (q0c : Nat) (q0g : List Nat) (q0u : Nat) (q0z : List Nat) (q0t : Nat) (q10 : List Nat) : Option (Bool) → Option (AV × List Blk)
  | some r => some ((AV.v (TV.one (At.bool r))), [])
  | none => none
theorem zwg (q0c : Nat) (q0g : List Nat) (q0u : Nat) (q0z : List Nat) (q0t : Nat) (q10 : List Nat) : evFn Γ4 8 8 184 (impTs 0 [.ptr [.row 1 q0c (.fl .f32 q0g), .row 1 q0u (.fl .f32 q0z), .row 1 q0t (.fl .f32 q10)]]).1 (impTs 0 [.ptr [.row 1 q0c (.fl .f32 q0g), .row 1 q0u (.fl .f32 q0z), .row 1 q0t (.fl .f32 q10)]]).2 (expo (impTs 0 [.ptr [.row 1 q0c (.fl .f32 q0g), .row 1 q0u (.fl .f32 q0z), .row 1 q0t (.fl .f32 q10)]]).2.length) = zip q0c q0g q0u q0z q0t q10 (fun c0_ => some ((AV.v (TV.one (At.bool c0_))), [])) := by kernel_rfl
theorem z5i : SumOne Try.prog 184 z6b := sum_of (Γ := Γ4) (fuel := 8) (d := 8) tyTab_ok (FnL.ok fnTab_ok _ _) (LpL.ok lt4_ok) (SumL.ok tb4_ok _) mixed (by
  intro pts v news hp hc
  clear hc
  unfold z6b at hp
  split at hp
  · rename_i q0c q0g q0u q0z q0t q10
    exact Eq.trans (Eq.trans (zwg q0c q0g q0u q0z q0t q10) (zuj (zsr q0c q0g q0u q0z q0t q10) rfl q0c q0g q0u q0z q0t q10 (fun c0_ => some c0_))) (fin_out (o := (zsr q0c q0g q0u q0z q0t q10)) (x := zid q0c q0g q0u q0z q0t q10) (d := default) (V := fun r => ((AV.v (TV.one (At.bool r))), [])) (fun r => rfl) hp)
  · cases hp)
noncomputable def z06 : Nat → St → Option (Bool × LO)
  | 1, (St.mk [(0, (AV.v (TV.one (At.vw 0 0 sn 1)))), (1, (AV.v (TV.one (At.fn 154 [])))), (7, (AV.v (TV.one (At.int IntKind.i64 t7)))), (8, (AV.v (TV.one (At.int IntKind.i64 t8))))] [(Blk.mk Bool.false (Body.fl FloatKind.f32 b0))]) => some ((z4w sn t7 b0 t8), (LO.two (z4g sn t7 b0 t8) (LO.one Ex.ret (St.mk [(4, (AV.v (TV.one (At.int IntKind.i64 (z6w sn t7 b0 t8)))))] [(Blk.mk Bool.false (Body.fl FloatKind.f32 b0))])) (LO.one (Ex.exit 0) (St.mk [(0, (AV.v (TV.one (At.vw 0 0 sn 1)))), (1, (AV.v (TV.one (At.fn 154 [])))), (7, (AV.v (TV.one (At.int IntKind.i64 t7)))), (8, (AV.v (TV.one (At.int IntKind.i64 (z8d sn t7 b0 t8))))), (9, (AV.v (TV.one (At.bool (z8f sn t7 b0 t8)))))] [(Blk.mk Bool.false (Body.fl FloatKind.f32 b0))]))))
  | _, _ => none
def z67 (sn : Nat) (t7 : Int) (b0 : List Nat) : Option ((Int) ⊕ (Int × Bool)) → Option (Ex × St)
  | none => none
  | some (Sum.inl r) => some (Ex.ret, (St.mk [(4, (AV.v (TV.one (At.int IntKind.i64 r))))] [(Blk.mk Bool.false (Body.fl FloatKind.f32 b0))]))
  | some (Sum.inr r) => some ((Ex.exit 0), (St.mk [(0, (AV.v (TV.one (At.vw 0 0 sn 1)))), (1, (AV.v (TV.one (At.fn 154 [])))), (7, (AV.v (TV.one (At.int IntKind.i64 t7)))), (8, (AV.v (TV.one (At.int IntKind.i64 r.1)))), (9, (AV.v (TV.one (At.bool r.2))))] [(Blk.mk Bool.false (Body.fl FloatKind.f32 b0))]))
def zig (sn : Nat) (t7 : Int) (b0 : List Nat) (x : Option ((Int) ⊕ (Int × Bool))) : LO := (LO.two (oL x) (LO.one Ex.ret (St.mk [(4, (AV.v (TV.one (At.int IntKind.i64 ((tL x).getD default)))))] [(Blk.mk Bool.false (Body.fl FloatKind.f32 b0))])) (LO.one (Ex.exit 0) (St.mk [(0, (AV.v (TV.one (At.vw 0 0 sn 1)))), (1, (AV.v (TV.one (At.fn 154 [])))), (7, (AV.v (TV.one (At.int IntKind.i64 t7)))), (8, (AV.v (TV.one (At.int IntKind.i64 ((tR x).getD default).1)))), (9, (AV.v (TV.one (At.bool ((tR x).getD default).2))))] [(Blk.mk Bool.false (Body.fl FloatKind.f32 b0))])))
theorem zj0 (sn : Nat) (t7 : Int) (b0 : List Nat) : ∀ x : Option ((Int) ⊕ (Int × Bool)), x.isSome = true → (z67 sn t7 b0) x = some (pick (zig sn t7 b0 x))
  | none, h => by cases h
  | some (Sum.inl r), _ => rfl
  | some (Sum.inr r), _ => rfl
theorem zj4 (sn : Nat) (t7 : Int) (t8 : Int) (b0 : List Nat) (K : Ex → St → Option (Ex × St)) : evC (R := Ex × St) Γ4 (evFn Γ4 8 8) 178 1 fi178.nt fi178.live fi178.nl 8 (findL 2 (loopsIn fi178.code)) (St.mk [(0, (AV.v (TV.one (At.vw 0 0 sn 1)))), (1, (AV.v (TV.one (At.fn 154 [])))), (7, (AV.v (TV.one (At.int IntKind.i64 t7)))), (8, (AV.v (TV.one (At.int IntKind.i64 t8))))] [(Blk.mk Bool.false (Body.fl FloatKind.f32 b0))]) K = z1w sn t7 b0 t8 (fun t8' => K .normal (St.mk [(0, (AV.v (TV.one (At.vw 0 0 sn 1)))), (1, (AV.v (TV.one (At.fn 154 [])))), (7, (AV.v (TV.one (At.int IntKind.i64 t7)))), (8, (AV.v (TV.one (At.int IntKind.i64 t8'))))] [(Blk.mk Bool.false (Body.fl FloatKind.f32 b0))])) (fun c0_ => K Ex.ret (St.mk [(4, (AV.v (TV.one (At.int IntKind.i64 c0_))))] [(Blk.mk Bool.false (Body.fl FloatKind.f32 b0))])) (fun c0_ c1_ => K (Ex.exit 0) (St.mk [(0, (AV.v (TV.one (At.vw 0 0 sn 1)))), (1, (AV.v (TV.one (At.fn 154 [])))), (7, (AV.v (TV.one (At.int IntKind.i64 t7)))), (8, (AV.v (TV.one (At.int IntKind.i64 c0_)))), (9, (AV.v (TV.one (At.bool c1_))))] [(Blk.mk Bool.false (Body.fl FloatKind.f32 b0))])) := by kernel_rfl
theorem zj1 (sn : Nat) (t7 : Int) (b0 : List Nat) : ∀ (n : Nat) (t8 : Int), iter 178 2 1 (evC (R := Ex × St) Γ4 (evFn Γ4 8 8) 178 1 fi178.nt fi178.live fi178.nl 8 (findL 2 (loopsIn fi178.code))) n (St.mk [(0, (AV.v (TV.one (At.vw 0 0 sn 1)))), (1, (AV.v (TV.one (At.fn 154 [])))), (7, (AV.v (TV.one (At.int IntKind.i64 t7)))), (8, (AV.v (TV.one (At.int IntKind.i64 t8))))] [(Blk.mk Bool.false (Body.fl FloatKind.f32 b0))]) (fun e st => some (e, st)) = (z67 sn t7 b0) (z0p sn t7 b0 n t8) := by
  intro n
  induction n with
  | zero => intros; rfl
  | succ n ih =>
    intro t8
    refine Eq.trans (iter_succ ..) (Eq.trans (zj4 sn t7 t8 b0 (nextK 178 2 1 (evC (R := Ex × St) Γ4 (evFn Γ4 8 8) 178 1 fi178.nt fi178.live fi178.nl 8 (findL 2 (loopsIn fi178.code))) n (fun e st => some (e, st)))) (Eq.trans ?_ (zgn (z67 sn t7 b0) rfl sn t7 b0 t8 (fun t8' => z0p sn t7 b0 n t8') (fun c0_ => some (Sum.inl c0_)) (fun c0_ c1_ => some (Sum.inr (c0_, c1_))))))
    exact congrArg (fun kn_ => z1w sn t7 b0 t8 kn_ (fun c0_ => (z67 sn t7 b0) (some (Sum.inl c0_))) (fun c0_ c1_ => (z67 sn t7 b0) (some (Sum.inr (c0_, c1_))))) (funext fun t8' => ih t8')
theorem z09 : LoopOne Try.prog fnTab 178 2 z06 := lp_of (Γ := Γ4) tyTab_ok (FnL.ok fnTab_ok _ _) (LpL.ok lt4_ok) (SumL.ok tb4_ok _) mixed (fi := fi178) (by kernel_rfl) (by kernel_rfl) (by
  intro lo st out hp
  unfold z06 at hp
  split at hp
  · rename_i sn t7 t8 b0
    injection hp with hp
    injection hp with h1 h2
    subst h2
    exact ⟨8, 8, big, Eq.trans (zj1 sn t7 b0 big t8) (zj0 sn t7 b0 (z0p sn t7 b0 big t8) h1)⟩
  · cases hp)
noncomputable def tb5 : List (Nat × (List PT → Option (Bool × AV × List Blk))) := [(156, z0w), (181, z1d), (182, z21), (189, z22), (26, z2q), (55, z28), (84, z11), (89, z40), (102, z6a), (112, z1x), (115, z2b), (123, z2p), (126, z4t), (157, z69), (160, z1y), (162, z4p), (167, z2a), (175, z3z), (176, z1o), (187, z29), (74, z3n), (83, z10), (85, z4e), (90, z3o), (103, z4d), (111, z2l), (116, z32), (117, z4f), (138, z30), (148, z1v), (150, z1b), (169, z2m), (185, z31), (52, z41), (154, z2k), (158, z5u), (166, z2j), (104, z2w), (119, z39), (120, z2s), (168, z2x), (188, z2h), (54, z58), (121, z3p), (122, z38), (165, z56), (178, z0b), (178, z07), (184, z6b)]
noncomputable def lt5 : List ((Nat × Nat) × (Nat → St → Option (Bool × LO))) := [((166, 3), z19), ((120, 3), z1i), ((168, 4), z1g), ((188, 17), z14), ((122, 4), z1q), ((178, 2), z04), ((178, 2), z02), ((184, 5), z3r), ((178, 2), z06)]
noncomputable def Γ5 : Ctx := ⟨tyTab, fnTab, tblSum tb5, tblLp lt5⟩
theorem tb5_ok : SumL Try.prog tb5 := SumL.cons z0r (SumL.cons z16 (SumL.cons z1l (SumL.cons z1n (SumL.cons z26 (SumL.cons z1t (SumL.cons z0x (SumL.cons z2y (SumL.cons z50 (SumL.cons z1j (SumL.cons z1u (SumL.cons z27 (SumL.cons z3f (SumL.cons z51 (SumL.cons z1h (SumL.cons z3h (SumL.cons z1r (SumL.cons z2z (SumL.cons z18 (SumL.cons z1s (SumL.cons z2v (SumL.cons z0y (SumL.cons z3a (SumL.cons z2u (SumL.cons z3b (SumL.cons z24 (SumL.cons z2g (SumL.cons z3c (SumL.cons z2i (SumL.cons z1f (SumL.cons z15 (SumL.cons z23 (SumL.cons z2f (SumL.cons z36 (SumL.cons z1z (SumL.cons z4c (SumL.cons z20 (SumL.cons z2d (SumL.cons z2n (SumL.cons z2e (SumL.cons z2c (SumL.cons z25 (SumL.cons z48 (SumL.cons z35 (SumL.cons z2o (SumL.cons z46 (SumL.cons z0e (SumL.cons z08 (SumL.cons z5i (SumL.nil)))))))))))))))))))))))))))))))))))))))))))))))))
theorem lt5_ok : LpL Try.prog fnTab lt5 := LpL.cons z17 (LpL.cons z1c (LpL.cons z1a (LpL.cons z12 (LpL.cons z1m (LpL.cons z05 (LpL.cons z03 (LpL.cons z34 (LpL.cons z09 (LpL.nil)))))))))
noncomputable def z5n : List PT → Option (Bool × AV × List Blk)
  | [.agg [.row 1 q0p (.fl .f32 q0v), .row 1 q0r (.fl .f32 q0y), .row 1 q0s (.fl .f32 q0x), .row 3 q14 (.fl .f32 q19), .s (.int .i64 q1n), .s (.flt .f32 q1w), .s (.flt .f32 q1x)], .agg [.row 1 q1y (.fl .f32 q22), .row 1 q1z (.fl .f32 q25), .row 1 q20 (.fl .f32 q23), .row 3 q2a (.fl .f32 q2c), .s (.int .i64 q2n), .s (.flt .f32 q2o), .s (.flt .f32 q2p)]] => some ((zif q0p q0v q0r q0y q0s q0x q14 q19 q1n q1w q1x q1y q22 q1z q25 q20 q23 q2a q2c q2n q2o q2p), ((AV.v (TV.one (At.bool (zgg q0p q0v q0r q0y q0s q0x q14 q19 q1n q1w q1x q1y q22 q1z q25 q20 q23 q2a q2c q2n q2o q2p)))), []))
  | _ => none
def zpq (q0p : Nat) (q0v : List Nat) (q0r : Nat) (q0y : List Nat) (q0s : Nat) (q0x : List Nat) (q14 : Nat) (q19 : List Nat) (q1n : Int) (q1w : Nat) (q1x : Nat) (q1y : Nat) (q22 : List Nat) (q1z : Nat) (q25 : List Nat) (q20 : Nat) (q23 : List Nat) (q2a : Nat) (q2c : List Nat) (q2n : Int) (q2o : Nat) (q2p : Nat) : Option (Bool) → Option (AV × List Blk)
  | some r => some ((AV.v (TV.one (At.bool r))), [])
  | none => none
theorem zvy (q0p : Nat) (q0v : List Nat) (q0r : Nat) (q0y : List Nat) (q0s : Nat) (q0x : List Nat) (q14 : Nat) (q19 : List Nat) (q1n : Int) (q1w : Nat) (q1x : Nat) (q1y : Nat) (q22 : List Nat) (q1z : Nat) (q25 : List Nat) (q20 : Nat) (q23 : List Nat) (q2a : Nat) (q2c : List Nat) (q2n : Int) (q2o : Nat) (q2p : Nat) : evFn Γ5 8 8 56 (impTs 0 [.agg [.row 1 q0p (.fl .f32 q0v), .row 1 q0r (.fl .f32 q0y), .row 1 q0s (.fl .f32 q0x), .row 3 q14 (.fl .f32 q19), .s (.int .i64 q1n), .s (.flt .f32 q1w), .s (.flt .f32 q1x)], .agg [.row 1 q1y (.fl .f32 q22), .row 1 q1z (.fl .f32 q25), .row 1 q20 (.fl .f32 q23), .row 3 q2a (.fl .f32 q2c), .s (.int .i64 q2n), .s (.flt .f32 q2o), .s (.flt .f32 q2p)]]).1 (impTs 0 [.agg [.row 1 q0p (.fl .f32 q0v), .row 1 q0r (.fl .f32 q0y), .row 1 q0s (.fl .f32 q0x), .row 3 q14 (.fl .f32 q19), .s (.int .i64 q1n), .s (.flt .f32 q1w), .s (.flt .f32 q1x)], .agg [.row 1 q1y (.fl .f32 q22), .row 1 q1z (.fl .f32 q25), .row 1 q20 (.fl .f32 q23), .row 3 q2a (.fl .f32 q2c), .s (.int .i64 q2n), .s (.flt .f32 q2o), .s (.flt .f32 q2p)]]).2 (expo (impTs 0 [.agg [.row 1 q0p (.fl .f32 q0v), .row 1 q0r (.fl .f32 q0y), .row 1 q0s (.fl .f32 q0x), .row 3 q14 (.fl .f32 q19), .s (.int .i64 q1n), .s (.flt .f32 q1w), .s (.flt .f32 q1x)], .agg [.row 1 q1y (.fl .f32 q22), .row 1 q1z (.fl .f32 q25), .row 1 q20 (.fl .f32 q23), .row 3 q2a (.fl .f32 q2c), .s (.int .i64 q2n), .s (.flt .f32 q2o), .s (.flt .f32 q2p)]]).2.length) = zev q0p q0v q0r q0y q0s q0x q14 q19 q1n q1w q1x q1y q22 q1z q25 q20 q23 q2a q2c q2n q2o q2p (fun c0_ => some ((AV.v (TV.one (At.bool c0_))), [])) := by kernel_rfl
theorem z4l : SumOne Try.prog 56 z5n := sum_of (Γ := Γ5) (fuel := 8) (d := 8) tyTab_ok (FnL.ok fnTab_ok _ _) (LpL.ok lt5_ok) (SumL.ok tb5_ok _) mixed (by
  intro pts v news hp hc
  clear hc
  unfold z5n at hp
  split at hp
  · rename_i q0p q0v q0r q0y q0s q0x q14 q19 q1n q1w q1x q1y q22 q1z q25 q20 q23 q2a q2c q2n q2o q2p
    exact Eq.trans (Eq.trans (zvy q0p q0v q0r q0y q0s q0x q14 q19 q1n q1w q1x q1y q22 q1z q25 q20 q23 q2a q2c q2n q2o q2p) (zs6 (zpq q0p q0v q0r q0y q0s q0x q14 q19 q1n q1w q1x q1y q22 q1z q25 q20 q23 q2a q2c q2n q2o q2p) rfl q0p q0v q0r q0y q0s q0x q14 q19 q1n q1w q1x q1y q22 q1z q25 q20 q23 q2a q2c q2n q2o q2p (fun c0_ => some c0_))) (fin_out (o := (zpq q0p q0v q0r q0y q0s q0x q14 q19 q1n q1w q1x q1y q22 q1z q25 q20 q23 q2a q2c q2n q2o q2p)) (x := zem q0p q0v q0r q0y q0s q0x q14 q19 q1n q1w q1x q1y q22 q1z q25 q20 q23 q2a q2c q2n q2o q2p) (d := default) (V := fun r => ((AV.v (TV.one (At.bool r))), [])) (fun r => rfl) hp)
  · cases hp)
noncomputable def z6k : List PT → Option (Bool × AV × List Blk)
  | [.one (.s (.flt .f64 x))] => some ((zkm x), ((AV.v (TV.one (At.flt FloatKind.f64 (zah x)))), []))
  | _ => none
def zrv (x : Nat) : Option (Nat) → Option (AV × List Blk)
  | some r => some ((AV.v (TV.one (At.flt FloatKind.f64 r))), [])
  | none => none
theorem zwe (x : Nat) : evFn Γ5 8 8 170 (impTs 0 [.one (.s (.flt .f64 x))]).1 (impTs 0 [.one (.s (.flt .f64 x))]).2 (expo (impTs 0 [.one (.s (.flt .f64 x))]).2.length) = ziv x (fun c0_ => some ((AV.v (TV.one (At.flt FloatKind.f64 c0_))), [])) := by kernel_rfl
theorem z60 : SumOne Try.prog 170 z6k := sum_of (Γ := Γ5) (fuel := 8) (d := 8) tyTab_ok (FnL.ok fnTab_ok _ _) (LpL.ok lt5_ok) (SumL.ok tb5_ok _) mixed (by
  intro pts v news hp hc
  clear hc
  unfold z6k at hp
  split at hp
  · rename_i x
    exact Eq.trans (Eq.trans (zwe x) (zuf (zrv x) rfl x (fun c0_ => some c0_))) (fin_out (o := (zrv x)) (x := ziz x) (d := default) (V := fun r => ((AV.v (TV.one (At.flt FloatKind.f64 r))), [])) (fun r => rfl) hp)
  · cases hp)
noncomputable def z0h : List PT → Option (Bool × AV × List Blk)
  | [.one (.row 1 s_n (.fl .f32 s)), .fn 154 []] => some ((z7w s_n s), ((AV.v (TV.one (At.int IntKind.i64 (z7p s_n s)))), []))
  | _ => none
def zcc (s_n : Nat) (s : List Nat) : Option (Int) → Option (AV × List Blk)
  | some r => some ((AV.v (TV.one (At.int IntKind.i64 r))), [])
  | none => none
theorem zjt (s_n : Nat) (s : List Nat) : evFn Γ5 8 8 178 (impTs 0 [.one (.row 1 s_n (.fl .f32 s)), .fn 154 []]).1 (impTs 0 [.one (.row 1 s_n (.fl .f32 s)), .fn 154 []]).2 (expo (impTs 0 [.one (.row 1 s_n (.fl .f32 s)), .fn 154 []]).2.length) = z5q s_n s (fun c0_ => some ((AV.v (TV.one (At.int IntKind.i64 c0_))), [])) := by kernel_rfl
theorem z0l : SumOne Try.prog 178 z0h := sum_of (Γ := Γ5) (fuel := 8) (d := 8) tyTab_ok (FnL.ok fnTab_ok _ _) (LpL.ok lt5_ok) (SumL.ok tb5_ok _) mixed (by
  intro pts v news hp hc
  clear hc
  unfold z0h at hp
  split at hp
  · rename_i s_n s
    exact Eq.trans (Eq.trans (zjt s_n s) (zio (zcc s_n s) rfl s_n s (fun c0_ => some c0_))) (fin_out (o := (zcc s_n s)) (x := z5o s_n s) (d := default) (V := fun r => ((AV.v (TV.one (At.int IntKind.i64 r))), [])) (fun r => rfl) hp)
  · cases hp)
noncomputable def z5m : Nat → St → Option (Bool × LO)
  | 0, (St.mk [(4, (AV.v (TV.one (At.bool q2s)))), (5, (AV.v (TV.one (At.flt FloatKind.f64 z)))), (6, (AV.v (TV.one (At.flt FloatKind.f64 u)))), (7, (AV.v (TV.one (At.flt FloatKind.f64 p)))), (8, (AV.v (TV.one (At.flt FloatKind.f64 k))))] []) => some ((zay u p k), (LO.one (Ex.exit 0) (St.mk [(4, (AV.v (TV.one (At.bool q2s)))), (5, (AV.v (TV.one (At.flt FloatKind.f64 z)))), (6, (AV.v (TV.one (At.flt FloatKind.f64 u)))), (7, (AV.v (TV.one (At.flt FloatKind.f64 (z95 u p k))))), (8, (AV.v (TV.one (At.flt FloatKind.f64 (zl6 u p k))))), (25, (AV.v (TV.one (At.bool (zl5 u p k)))))] [])))
  | _, _ => none
def zl1 (q2s : Bool) (z : Nat) (u : Nat) : Option ((Nat × Nat × Bool)) → Option (Ex × St)
  | none => none
  | some r => some ((Ex.exit 0), (St.mk [(4, (AV.v (TV.one (At.bool q2s)))), (5, (AV.v (TV.one (At.flt FloatKind.f64 z)))), (6, (AV.v (TV.one (At.flt FloatKind.f64 u)))), (7, (AV.v (TV.one (At.flt FloatKind.f64 r.1)))), (8, (AV.v (TV.one (At.flt FloatKind.f64 r.2.1)))), (25, (AV.v (TV.one (At.bool r.2.2))))] []))
def zux (q2s : Bool) (z : Nat) (u : Nat) (x : Option ((Nat × Nat × Bool))) : LO := (LO.one (Ex.exit 0) (St.mk [(4, (AV.v (TV.one (At.bool q2s)))), (5, (AV.v (TV.one (At.flt FloatKind.f64 z)))), (6, (AV.v (TV.one (At.flt FloatKind.f64 u)))), (7, (AV.v (TV.one (At.flt FloatKind.f64 (x.getD default).1)))), (8, (AV.v (TV.one (At.flt FloatKind.f64 (x.getD default).2.1)))), (25, (AV.v (TV.one (At.bool (x.getD default).2.2))))] []))
theorem zvq (q2s : Bool) (z : Nat) (u : Nat) : ∀ x : Option ((Nat × Nat × Bool)), x.isSome = true → (zl1 q2s z u) x = some (pick (zux q2s z u x))
  | none, h => by cases h
  | some r, _ => rfl
theorem zvi (q2s : Bool) (z : Nat) (u : Nat) (p : Nat) (k : Nat) (K : Ex → St → Option (Ex × St)) : evC (R := Ex × St) Γ5 (evFn Γ5 8 8) 105 0 fi105.nt fi105.live fi105.nl 8 (findL 9 (loopsIn fi105.code)) (St.mk [(4, (AV.v (TV.one (At.bool q2s)))), (5, (AV.v (TV.one (At.flt FloatKind.f64 z)))), (6, (AV.v (TV.one (At.flt FloatKind.f64 u)))), (7, (AV.v (TV.one (At.flt FloatKind.f64 p)))), (8, (AV.v (TV.one (At.flt FloatKind.f64 k))))] []) K = z9u u p k (fun p' k' => K .normal (St.mk [(4, (AV.v (TV.one (At.bool q2s)))), (5, (AV.v (TV.one (At.flt FloatKind.f64 z)))), (6, (AV.v (TV.one (At.flt FloatKind.f64 u)))), (7, (AV.v (TV.one (At.flt FloatKind.f64 p')))), (8, (AV.v (TV.one (At.flt FloatKind.f64 k'))))] [])) (fun c0_ c1_ c2_ => K (Ex.exit 0) (St.mk [(4, (AV.v (TV.one (At.bool q2s)))), (5, (AV.v (TV.one (At.flt FloatKind.f64 z)))), (6, (AV.v (TV.one (At.flt FloatKind.f64 u)))), (7, (AV.v (TV.one (At.flt FloatKind.f64 c0_)))), (8, (AV.v (TV.one (At.flt FloatKind.f64 c1_)))), (25, (AV.v (TV.one (At.bool c2_))))] [])) := by kernel_rfl
theorem zvg (q2s : Bool) (z : Nat) (u : Nat) : ∀ (n : Nat) (p : Nat) (k : Nat), iter 105 9 0 (evC (R := Ex × St) Γ5 (evFn Γ5 8 8) 105 0 fi105.nt fi105.live fi105.nl 8 (findL 9 (loopsIn fi105.code))) n (St.mk [(4, (AV.v (TV.one (At.bool q2s)))), (5, (AV.v (TV.one (At.flt FloatKind.f64 z)))), (6, (AV.v (TV.one (At.flt FloatKind.f64 u)))), (7, (AV.v (TV.one (At.flt FloatKind.f64 p)))), (8, (AV.v (TV.one (At.flt FloatKind.f64 k))))] []) (fun e st => some (e, st)) = (zl1 q2s z u) (z73 u n p k) := by
  intro n
  induction n with
  | zero => intros; rfl
  | succ n ih =>
    intro p k
    refine Eq.trans (iter_succ ..) (Eq.trans (zvi q2s z u p k (nextK 105 9 0 (evC (R := Ex × St) Γ5 (evFn Γ5 8 8) 105 0 fi105.nt fi105.live fi105.nl 8 (findL 9 (loopsIn fi105.code))) n (fun e st => some (e, st)))) (Eq.trans ?_ (zsb (zl1 q2s z u) rfl u p k (fun p' k' => z73 u n p' k') (fun c0_ c1_ c2_ => some (c0_, c1_, c2_)))))
    exact congrArg (fun kn_ => z9u u p k kn_ (fun c0_ c1_ c2_ => (zl1 q2s z u) (some (c0_, c1_, c2_)))) (funext fun p' => funext fun k' => ih p' k')
theorem z4m : LoopOne Try.prog fnTab 105 9 z5m := lp_of (Γ := Γ5) tyTab_ok (FnL.ok fnTab_ok _ _) (LpL.ok lt5_ok) (SumL.ok tb5_ok _) mixed (fi := fi105) (by kernel_rfl) (by kernel_rfl) (by
  intro lo st out hp
  unfold z5m at hp
  split at hp
  · rename_i q2s z u p k
    injection hp with hp
    injection hp with h1 h2
    subst h2
    exact ⟨8, 8, big, Eq.trans (zvg q2s z u big p k) (zvq q2s z u (z73 u big p k) h1)⟩
  · cases hp)
noncomputable def tb6 : List (Nat × (List PT → Option (Bool × AV × List Blk))) := [(156, z0w), (181, z1d), (182, z21), (189, z22), (26, z2q), (55, z28), (84, z11), (89, z40), (102, z6a), (112, z1x), (115, z2b), (123, z2p), (126, z4t), (157, z69), (160, z1y), (162, z4p), (167, z2a), (175, z3z), (176, z1o), (187, z29), (74, z3n), (83, z10), (85, z4e), (90, z3o), (103, z4d), (111, z2l), (116, z32), (117, z4f), (138, z30), (148, z1v), (150, z1b), (169, z2m), (185, z31), (52, z41), (154, z2k), (158, z5u), (166, z2j), (104, z2w), (119, z39), (120, z2s), (168, z2x), (188, z2h), (54, z58), (121, z3p), (122, z38), (165, z56), (178, z0b), (178, z07), (184, z6b), (56, z5n), (170, z6k), (178, z0h)]
noncomputable def lt6 : List ((Nat × Nat) × (Nat → St → Option (Bool × LO))) := [((166, 3), z19), ((120, 3), z1i), ((168, 4), z1g), ((188, 17), z14), ((122, 4), z1q), ((178, 2), z04), ((178, 2), z02), ((184, 5), z3r), ((178, 2), z06), ((105, 9), z5m)]
noncomputable def Γ6 : Ctx := ⟨tyTab, fnTab, tblSum tb6, tblLp lt6⟩
theorem tb6_ok : SumL Try.prog tb6 := SumL.cons z0r (SumL.cons z16 (SumL.cons z1l (SumL.cons z1n (SumL.cons z26 (SumL.cons z1t (SumL.cons z0x (SumL.cons z2y (SumL.cons z50 (SumL.cons z1j (SumL.cons z1u (SumL.cons z27 (SumL.cons z3f (SumL.cons z51 (SumL.cons z1h (SumL.cons z3h (SumL.cons z1r (SumL.cons z2z (SumL.cons z18 (SumL.cons z1s (SumL.cons z2v (SumL.cons z0y (SumL.cons z3a (SumL.cons z2u (SumL.cons z3b (SumL.cons z24 (SumL.cons z2g (SumL.cons z3c (SumL.cons z2i (SumL.cons z1f (SumL.cons z15 (SumL.cons z23 (SumL.cons z2f (SumL.cons z36 (SumL.cons z1z (SumL.cons z4c (SumL.cons z20 (SumL.cons z2d (SumL.cons z2n (SumL.cons z2e (SumL.cons z2c (SumL.cons z25 (SumL.cons z48 (SumL.cons z35 (SumL.cons z2o (SumL.cons z46 (SumL.cons z0e (SumL.cons z08 (SumL.cons z5i (SumL.cons z4l (SumL.cons z60 (SumL.cons z0l (SumL.nil))))))))))))))))))))))))))))))))))))))))))))))))))))
theorem lt6_ok : LpL Try.prog fnTab lt6 := LpL.cons z17 (LpL.cons z1c (LpL.cons z1a (LpL.cons z12 (LpL.cons z1m (LpL.cons z05 (LpL.cons z03 (LpL.cons z34 (LpL.cons z09 (LpL.cons z4m (LpL.nil))))))))))
noncomputable def z7k : List PT → Option (Bool × AV × List Blk)
  | [.one (.s (.flt .f64 q24))] => some ((zm8 q24), ((AV.v (TV.one (At.flt FloatKind.f64 (zka q24)))), []))
  | _ => none
def ztw (q24 : Nat) : Option (Nat) → Option (AV × List Blk)
  | some r => some ((AV.v (TV.one (At.flt FloatKind.f64 r))), [])
  | none => none
theorem zwk (q24 : Nat) : evFn Γ6 8 8 105 (impTs 0 [.one (.s (.flt .f64 q24))]).1 (impTs 0 [.one (.s (.flt .f64 q24))]).2 (expo (impTs 0 [.one (.s (.flt .f64 q24))]).2.length) = zjq q24 (fun c0_ => some ((AV.v (TV.one (At.flt FloatKind.f64 c0_))), [])) := by kernel_rfl
theorem z6o : SumOne Try.prog 105 z7k := sum_of (Γ := Γ6) (fuel := 8) (d := 8) tyTab_ok (FnL.ok fnTab_ok _ _) (LpL.ok lt6_ok) (SumL.ok tb6_ok _) mixed (by
  intro pts v news hp hc
  clear hc
  unfold z7k at hp
  split at hp
  · rename_i q24
    exact Eq.trans (Eq.trans (zwk q24) (zvd (ztw q24) rfl q24 (fun c0_ => some c0_))) (fin_out (o := (ztw q24)) (x := zjr q24) (d := default) (V := fun r => ((AV.v (TV.one (At.flt FloatKind.f64 r))), [])) (fun r => rfl) hp)
  · cases hp)
noncomputable def z4s : List PT → Option (Bool × AV × List Blk)
  | [.one (.s (.flt .f32 x))] => some ((zj7 x), ((AV.v (TV.one (At.flt FloatKind.f32 (z37 x)))), []))
  | _ => none
def zn8 (x : Nat) : Option (Nat) → Option (AV × List Blk)
  | some r => some ((AV.v (TV.one (At.flt FloatKind.f32 r))), [])
  | none => none
theorem zup (x : Nat) : evFn Γ6 8 8 124 (impTs 0 [.one (.s (.flt .f32 x))]).1 (impTs 0 [.one (.s (.flt .f32 x))]).2 (expo (impTs 0 [.one (.s (.flt .f32 x))]).2.length) = zct x (fun c0_ => some ((AV.v (TV.one (At.flt FloatKind.f32 c0_))), [])) := by kernel_rfl
theorem z4a : SumOne Try.prog 124 z4s := sum_of (Γ := Γ6) (fuel := 8) (d := 8) tyTab_ok (FnL.ok fnTab_ok _ _) (LpL.ok lt6_ok) (SumL.ok tb6_ok _) mixed (by
  intro pts v news hp hc
  clear hc
  unfold z4s at hp
  split at hp
  · rename_i x
    exact Eq.trans (Eq.trans (zup x) (zq7 (zn8 x) rfl x (fun c0_ => some c0_))) (fin_out (o := (zn8 x)) (x := zcp x) (d := default) (V := fun r => ((AV.v (TV.one (At.flt FloatKind.f32 r))), [])) (fun r => rfl) hp)
  · cases hp)
noncomputable def z0d : List PT → Option (Bool × AV × List Blk)
  | [.one (.row 1 s_n (.fl .f32 s)), .fn 148 []] => some ((z74 s_n s), ((AV.v (TV.one (At.bool (z6y s_n s)))), []))
  | _ => none
def zb1 (s_n : Nat) (s : List Nat) : Option (Bool) → Option (AV × List Blk)
  | some r => some ((AV.v (TV.one (At.bool r))), [])
  | none => none
theorem zi9 (s_n : Nat) (s : List Nat) : evFn Γ6 8 8 147 (impTs 0 [.one (.row 1 s_n (.fl .f32 s)), .fn 148 []]).1 (impTs 0 [.one (.row 1 s_n (.fl .f32 s)), .fn 148 []]).2 (expo (impTs 0 [.one (.row 1 s_n (.fl .f32 s)), .fn 148 []]).2.length) = z4h s_n s (fun c0_ => some ((AV.v (TV.one (At.bool c0_))), [])) := by kernel_rfl
theorem z0j : SumOne Try.prog 147 z0d := sum_of (Γ := Γ6) (fuel := 8) (d := 8) tyTab_ok (FnL.ok fnTab_ok _ _) (LpL.ok lt6_ok) (SumL.ok tb6_ok _) mixed (by
  intro pts v news hp hc
  clear hc
  unfold z0d at hp
  split at hp
  · rename_i s_n s
    exact Eq.trans (Eq.trans (zi9 s_n s) (zfk (zb1 s_n s) rfl s_n s (fun c0_ => some c0_))) (fin_out (o := (zb1 s_n s)) (x := z4j s_n s) (d := default) (V := fun r => ((AV.v (TV.one (At.bool r))), [])) (fun r => rfl) hp)
  · cases hp)
noncomputable def z0a : List PT → Option (Bool × AV × List Blk)
  | [.one (.row 1 s_n (.fl .f32 s)), .fn 150 []] => some ((z6t s_n s), ((AV.v (TV.one (At.bool (z6m s_n s)))), []))
  | _ => none
def zaf (s_n : Nat) (s : List Nat) : Option (Bool) → Option (AV × List Blk)
  | some r => some ((AV.v (TV.one (At.bool r))), [])
  | none => none
theorem zhb (s_n : Nat) (s : List Nat) : evFn Γ6 8 8 147 (impTs 0 [.one (.row 1 s_n (.fl .f32 s)), .fn 150 []]).1 (impTs 0 [.one (.row 1 s_n (.fl .f32 s)), .fn 150 []]).2 (expo (impTs 0 [.one (.row 1 s_n (.fl .f32 s)), .fn 150 []]).2.length) = z42 s_n s (fun c0_ => some ((AV.v (TV.one (At.bool c0_))), [])) := by kernel_rfl
theorem z0f : SumOne Try.prog 147 z0a := sum_of (Γ := Γ6) (fuel := 8) (d := 8) tyTab_ok (FnL.ok fnTab_ok _ _) (LpL.ok lt6_ok) (SumL.ok tb6_ok _) mixed (by
  intro pts v news hp hc
  clear hc
  unfold z0a at hp
  split at hp
  · rename_i s_n s
    exact Eq.trans (Eq.trans (zhb s_n s) (zex (zaf s_n s) rfl s_n s (fun c0_ => some c0_))) (fin_out (o := (zaf s_n s)) (x := z45 s_n s) (d := default) (V := fun r => ((AV.v (TV.one (At.bool r))), [])) (fun r => rfl) hp)
  · cases hp)
noncomputable def z0g : List PT → Option (Bool × AV × List Blk)
  | [.one (.row 1 s_n (.fl .f32 s)), .fn 154 []] => some ((z7a s_n s), ((AV.v (TV.one (At.bool (z70 s_n s)))), []))
  | _ => none
def zb4 (s_n : Nat) (s : List Nat) : Option (Bool) → Option (AV × List Blk)
  | some r => some ((AV.v (TV.one (At.bool r))), [])
  | none => none
theorem zj2 (s_n : Nat) (s : List Nat) : evFn Γ6 8 8 147 (impTs 0 [.one (.row 1 s_n (.fl .f32 s)), .fn 154 []]).1 (impTs 0 [.one (.row 1 s_n (.fl .f32 s)), .fn 154 []]).2 (expo (impTs 0 [.one (.row 1 s_n (.fl .f32 s)), .fn 154 []]).2.length) = z4u s_n s (fun c0_ => some ((AV.v (TV.one (At.bool c0_))), [])) := by kernel_rfl
theorem z0k : SumOne Try.prog 147 z0g := sum_of (Γ := Γ6) (fuel := 8) (d := 8) tyTab_ok (FnL.ok fnTab_ok _ _) (LpL.ok lt6_ok) (SumL.ok tb6_ok _) mixed (by
  intro pts v news hp hc
  clear hc
  unfold z0g at hp
  split at hp
  · rename_i s_n s
    exact Eq.trans (Eq.trans (zj2 s_n s) (zgf (zb4 s_n s) rfl s_n s (fun c0_ => some c0_))) (fin_out (o := (zb4 s_n s)) (x := z4y s_n s) (d := default) (V := fun r => ((AV.v (TV.one (At.bool r))), [])) (fun r => rfl) hp)
  · cases hp)
noncomputable def z65 : List PT → Option (Bool × AV × List Blk)
  | [.one (.s (.flt .f32 x))] => some ((zkq x), ((AV.v (TV.one (At.flt FloatKind.f32 (z01 x)))), []))
  | _ => none
def zpt (x : Nat) : Option (Nat) → Option (AV × List Blk)
  | some r => some ((AV.v (TV.one (At.flt FloatKind.f32 r))), [])
  | none => none
theorem zvu (x : Nat) : evFn Γ6 8 8 198 (impTs 0 [.one (.s (.flt .f32 x))]).1 (impTs 0 [.one (.s (.flt .f32 x))]).2 (expo (impTs 0 [.one (.s (.flt .f32 x))]).2.length) = zeg x (fun c0_ => some ((AV.v (TV.one (At.flt FloatKind.f32 c0_))), [])) := by kernel_rfl
theorem z5g : SumOne Try.prog 198 z65 := sum_of (Γ := Γ6) (fuel := 8) (d := 8) tyTab_ok (FnL.ok fnTab_ok _ _) (LpL.ok lt6_ok) (SumL.ok tb6_ok _) mixed (by
  intro pts v news hp hc
  clear hc
  unfold z65 at hp
  split at hp
  · rename_i x
    exact Eq.trans (Eq.trans (zvu x) (zs1 (zpt x) rfl x (fun c0_ => some c0_))) (fin_out (o := (zpt x)) (x := zeo x) (d := default) (V := fun r => ((AV.v (TV.one (At.flt FloatKind.f32 r))), [])) (fun r => rfl) hp)
  · cases hp)
noncomputable def z5l : Nat → St → Option (Bool × LO)
  | 5, (St.mk [(0, (AV.v (TV.one (At.ptr 4 0 7)))), (4, (AV.v (TV.one (At.flt FloatKind.f32 t4)))), (57, (AV.v (TV.one (At.int IntKind.i64 t57)))), (58, (AV.v (TV.one (At.int IntKind.i64 t58))))] [(Blk.mk Bool.false (Body.fl FloatKind.f32 b0)), (Blk.mk Bool.false (Body.fl FloatKind.f32 b1)), (Blk.mk Bool.false (Body.fl FloatKind.f32 b2)), (Blk.mk Bool.false (Body.fl FloatKind.f32 b3)), (Blk.mk Bool.false (Body.cells [(At.vw 0 0 q1j 1), (At.vw 1 0 q1i 1), (At.vw 2 0 q1h 1), (At.vw 3 0 q18 3), (At.int IntKind.i64 q1q), (At.flt FloatKind.f32 q1r), (At.flt FloatKind.f32 q1b)]))]) => some ((zb5 t57 b3 q18 q1b t4 t58), (LO.two (zai t57 b3 q18 q1b t4 t58) (LO.one Ex.ret (St.mk [(2, (AV.v (TV.one (At.bool Bool.false))))] [(Blk.mk Bool.false (Body.fl FloatKind.f32 b0)), (Blk.mk Bool.false (Body.fl FloatKind.f32 b1)), (Blk.mk Bool.false (Body.fl FloatKind.f32 b2)), (Blk.mk Bool.false (Body.fl FloatKind.f32 b3)), (Blk.mk Bool.false (Body.cells [(At.vw 0 0 q1j 1), (At.vw 1 0 q1i 1), (At.vw 2 0 q1h 1), (At.vw 3 0 q18 3), (At.int IntKind.i64 q1q), (At.flt FloatKind.f32 q1r), (At.flt FloatKind.f32 q1b)]))])) (LO.one (Ex.exit 0) (St.mk [(0, (AV.v (TV.one (At.ptr 4 0 7)))), (4, (AV.v (TV.one (At.flt FloatKind.f32 (zkj t57 b3 q18 q1b t4 t58))))), (57, (AV.v (TV.one (At.int IntKind.i64 t57)))), (58, (AV.v (TV.one (At.int IntKind.i64 (zkc t57 b3 q18 q1b t4 t58))))), (59, (AV.v (TV.one (At.bool (zkh t57 b3 q18 q1b t4 t58)))))] [(Blk.mk Bool.false (Body.fl FloatKind.f32 b0)), (Blk.mk Bool.false (Body.fl FloatKind.f32 b1)), (Blk.mk Bool.false (Body.fl FloatKind.f32 b2)), (Blk.mk Bool.false (Body.fl FloatKind.f32 b3)), (Blk.mk Bool.false (Body.cells [(At.vw 0 0 q1j 1), (At.vw 1 0 q1i 1), (At.vw 2 0 q1h 1), (At.vw 3 0 q18 3), (At.int IntKind.i64 q1q), (At.flt FloatKind.f32 q1r), (At.flt FloatKind.f32 q1b)]))]))))
  | _, _ => none
def zh2 (t57 : Int) (b0 : List Nat) (b1 : List Nat) (b2 : List Nat) (b3 : List Nat) (q1j : Nat) (q1i : Nat) (q1h : Nat) (q18 : Nat) (q1q : Int) (q1r : Nat) (q1b : Nat) : Option ((Unit) ⊕ (Nat × Int × Bool)) → Option (Ex × St)
  | none => none
  | some (Sum.inl r) => some (Ex.ret, (St.mk [(2, (AV.v (TV.one (At.bool Bool.false))))] [(Blk.mk Bool.false (Body.fl FloatKind.f32 b0)), (Blk.mk Bool.false (Body.fl FloatKind.f32 b1)), (Blk.mk Bool.false (Body.fl FloatKind.f32 b2)), (Blk.mk Bool.false (Body.fl FloatKind.f32 b3)), (Blk.mk Bool.false (Body.cells [(At.vw 0 0 q1j 1), (At.vw 1 0 q1i 1), (At.vw 2 0 q1h 1), (At.vw 3 0 q18 3), (At.int IntKind.i64 q1q), (At.flt FloatKind.f32 q1r), (At.flt FloatKind.f32 q1b)]))]))
  | some (Sum.inr r) => some ((Ex.exit 0), (St.mk [(0, (AV.v (TV.one (At.ptr 4 0 7)))), (4, (AV.v (TV.one (At.flt FloatKind.f32 r.1)))), (57, (AV.v (TV.one (At.int IntKind.i64 t57)))), (58, (AV.v (TV.one (At.int IntKind.i64 r.2.1)))), (59, (AV.v (TV.one (At.bool r.2.2))))] [(Blk.mk Bool.false (Body.fl FloatKind.f32 b0)), (Blk.mk Bool.false (Body.fl FloatKind.f32 b1)), (Blk.mk Bool.false (Body.fl FloatKind.f32 b2)), (Blk.mk Bool.false (Body.fl FloatKind.f32 b3)), (Blk.mk Bool.false (Body.cells [(At.vw 0 0 q1j 1), (At.vw 1 0 q1i 1), (At.vw 2 0 q1h 1), (At.vw 3 0 q18 3), (At.int IntKind.i64 q1q), (At.flt FloatKind.f32 q1r), (At.flt FloatKind.f32 q1b)]))]))
def zul (t57 : Int) (b0 : List Nat) (b1 : List Nat) (b2 : List Nat) (b3 : List Nat) (q1j : Nat) (q1i : Nat) (q1h : Nat) (q18 : Nat) (q1q : Int) (q1r : Nat) (q1b : Nat) (x : Option ((Unit) ⊕ (Nat × Int × Bool))) : LO := (LO.two (oL x) (LO.one Ex.ret (St.mk [(2, (AV.v (TV.one (At.bool Bool.false))))] [(Blk.mk Bool.false (Body.fl FloatKind.f32 b0)), (Blk.mk Bool.false (Body.fl FloatKind.f32 b1)), (Blk.mk Bool.false (Body.fl FloatKind.f32 b2)), (Blk.mk Bool.false (Body.fl FloatKind.f32 b3)), (Blk.mk Bool.false (Body.cells [(At.vw 0 0 q1j 1), (At.vw 1 0 q1i 1), (At.vw 2 0 q1h 1), (At.vw 3 0 q18 3), (At.int IntKind.i64 q1q), (At.flt FloatKind.f32 q1r), (At.flt FloatKind.f32 q1b)]))])) (LO.one (Ex.exit 0) (St.mk [(0, (AV.v (TV.one (At.ptr 4 0 7)))), (4, (AV.v (TV.one (At.flt FloatKind.f32 ((tR x).getD default).1)))), (57, (AV.v (TV.one (At.int IntKind.i64 t57)))), (58, (AV.v (TV.one (At.int IntKind.i64 ((tR x).getD default).2.1)))), (59, (AV.v (TV.one (At.bool ((tR x).getD default).2.2))))] [(Blk.mk Bool.false (Body.fl FloatKind.f32 b0)), (Blk.mk Bool.false (Body.fl FloatKind.f32 b1)), (Blk.mk Bool.false (Body.fl FloatKind.f32 b2)), (Blk.mk Bool.false (Body.fl FloatKind.f32 b3)), (Blk.mk Bool.false (Body.cells [(At.vw 0 0 q1j 1), (At.vw 1 0 q1i 1), (At.vw 2 0 q1h 1), (At.vw 3 0 q18 3), (At.int IntKind.i64 q1q), (At.flt FloatKind.f32 q1r), (At.flt FloatKind.f32 q1b)]))])))
theorem zv2 (t57 : Int) (b0 : List Nat) (b1 : List Nat) (b2 : List Nat) (b3 : List Nat) (q1j : Nat) (q1i : Nat) (q1h : Nat) (q18 : Nat) (q1q : Int) (q1r : Nat) (q1b : Nat) : ∀ x : Option ((Unit) ⊕ (Nat × Int × Bool)), x.isSome = true → (zh2 t57 b0 b1 b2 b3 q1j q1i q1h q18 q1q q1r q1b) x = some (pick (zul t57 b0 b1 b2 b3 q1j q1i q1h q18 q1q q1r q1b x))
  | none, h => by cases h
  | some (Sum.inl r), _ => rfl
  | some (Sum.inr r), _ => rfl
theorem zuy (t4 : Nat) (t57 : Int) (t58 : Int) (b0 : List Nat) (b1 : List Nat) (b2 : List Nat) (b3 : List Nat) (q1j : Nat) (q1i : Nat) (q1h : Nat) (q18 : Nat) (q1q : Int) (q1r : Nat) (q1b : Nat) (K : Ex → St → Option (Ex × St)) : evC (R := Ex × St) Γ6 (evFn Γ6 8 8) 161 5 fi161.nt fi161.live fi161.nl 8 (findL 6 (loopsIn fi161.code)) (St.mk [(0, (AV.v (TV.one (At.ptr 4 0 7)))), (4, (AV.v (TV.one (At.flt FloatKind.f32 t4)))), (57, (AV.v (TV.one (At.int IntKind.i64 t57)))), (58, (AV.v (TV.one (At.int IntKind.i64 t58))))] [(Blk.mk Bool.false (Body.fl FloatKind.f32 b0)), (Blk.mk Bool.false (Body.fl FloatKind.f32 b1)), (Blk.mk Bool.false (Body.fl FloatKind.f32 b2)), (Blk.mk Bool.false (Body.fl FloatKind.f32 b3)), (Blk.mk Bool.false (Body.cells [(At.vw 0 0 q1j 1), (At.vw 1 0 q1i 1), (At.vw 2 0 q1h 1), (At.vw 3 0 q18 3), (At.int IntKind.i64 q1q), (At.flt FloatKind.f32 q1r), (At.flt FloatKind.f32 q1b)]))]) K = z9b t57 b3 q18 q1b t4 t58 (fun t4' t58' => K .normal (St.mk [(0, (AV.v (TV.one (At.ptr 4 0 7)))), (4, (AV.v (TV.one (At.flt FloatKind.f32 t4')))), (57, (AV.v (TV.one (At.int IntKind.i64 t57)))), (58, (AV.v (TV.one (At.int IntKind.i64 t58'))))] [(Blk.mk Bool.false (Body.fl FloatKind.f32 b0)), (Blk.mk Bool.false (Body.fl FloatKind.f32 b1)), (Blk.mk Bool.false (Body.fl FloatKind.f32 b2)), (Blk.mk Bool.false (Body.fl FloatKind.f32 b3)), (Blk.mk Bool.false (Body.cells [(At.vw 0 0 q1j 1), (At.vw 1 0 q1i 1), (At.vw 2 0 q1h 1), (At.vw 3 0 q18 3), (At.int IntKind.i64 q1q), (At.flt FloatKind.f32 q1r), (At.flt FloatKind.f32 q1b)]))])) (fun _ => K Ex.ret (St.mk [(2, (AV.v (TV.one (At.bool Bool.false))))] [(Blk.mk Bool.false (Body.fl FloatKind.f32 b0)), (Blk.mk Bool.false (Body.fl FloatKind.f32 b1)), (Blk.mk Bool.false (Body.fl FloatKind.f32 b2)), (Blk.mk Bool.false (Body.fl FloatKind.f32 b3)), (Blk.mk Bool.false (Body.cells [(At.vw 0 0 q1j 1), (At.vw 1 0 q1i 1), (At.vw 2 0 q1h 1), (At.vw 3 0 q18 3), (At.int IntKind.i64 q1q), (At.flt FloatKind.f32 q1r), (At.flt FloatKind.f32 q1b)]))])) (fun c0_ c1_ c2_ => K (Ex.exit 0) (St.mk [(0, (AV.v (TV.one (At.ptr 4 0 7)))), (4, (AV.v (TV.one (At.flt FloatKind.f32 c0_)))), (57, (AV.v (TV.one (At.int IntKind.i64 t57)))), (58, (AV.v (TV.one (At.int IntKind.i64 c1_)))), (59, (AV.v (TV.one (At.bool c2_))))] [(Blk.mk Bool.false (Body.fl FloatKind.f32 b0)), (Blk.mk Bool.false (Body.fl FloatKind.f32 b1)), (Blk.mk Bool.false (Body.fl FloatKind.f32 b2)), (Blk.mk Bool.false (Body.fl FloatKind.f32 b3)), (Blk.mk Bool.false (Body.cells [(At.vw 0 0 q1j 1), (At.vw 1 0 q1i 1), (At.vw 2 0 q1h 1), (At.vw 3 0 q18 3), (At.int IntKind.i64 q1q), (At.flt FloatKind.f32 q1r), (At.flt FloatKind.f32 q1b)]))])) := by kernel_rfl
theorem zv9 (t57 : Int) (b0 : List Nat) (b1 : List Nat) (b2 : List Nat) (b3 : List Nat) (q1j : Nat) (q1i : Nat) (q1h : Nat) (q18 : Nat) (q1q : Int) (q1r : Nat) (q1b : Nat) : ∀ (n : Nat) (t4 : Nat) (t58 : Int), iter 161 6 5 (evC (R := Ex × St) Γ6 (evFn Γ6 8 8) 161 5 fi161.nt fi161.live fi161.nl 8 (findL 6 (loopsIn fi161.code))) n (St.mk [(0, (AV.v (TV.one (At.ptr 4 0 7)))), (4, (AV.v (TV.one (At.flt FloatKind.f32 t4)))), (57, (AV.v (TV.one (At.int IntKind.i64 t57)))), (58, (AV.v (TV.one (At.int IntKind.i64 t58))))] [(Blk.mk Bool.false (Body.fl FloatKind.f32 b0)), (Blk.mk Bool.false (Body.fl FloatKind.f32 b1)), (Blk.mk Bool.false (Body.fl FloatKind.f32 b2)), (Blk.mk Bool.false (Body.fl FloatKind.f32 b3)), (Blk.mk Bool.false (Body.cells [(At.vw 0 0 q1j 1), (At.vw 1 0 q1i 1), (At.vw 2 0 q1h 1), (At.vw 3 0 q18 3), (At.int IntKind.i64 q1q), (At.flt FloatKind.f32 q1r), (At.flt FloatKind.f32 q1b)]))]) (fun e st => some (e, st)) = (zh2 t57 b0 b1 b2 b3 q1j q1i q1h q18 q1q q1r q1b) (z5j t57 b3 q18 q1b n t4 t58) := by
  intro n
  induction n with
  | zero => intros; rfl
  | succ n ih =>
    intro t4 t58
    refine Eq.trans (iter_succ ..) (Eq.trans (zuy t4 t57 t58 b0 b1 b2 b3 q1j q1i q1h q18 q1q q1r q1b (nextK 161 6 5 (evC (R := Ex × St) Γ6 (evFn Γ6 8 8) 161 5 fi161.nt fi161.live fi161.nl 8 (findL 6 (loopsIn fi161.code))) n (fun e st => some (e, st)))) (Eq.trans ?_ (zrr (zh2 t57 b0 b1 b2 b3 q1j q1i q1h q18 q1q q1r q1b) rfl t57 b3 q18 q1b t4 t58 (fun t4' t58' => z5j t57 b3 q18 q1b n t4' t58') (fun _ => some (Sum.inl ())) (fun c0_ c1_ c2_ => some (Sum.inr (c0_, c1_, c2_))))))
    exact congrArg (fun kn_ => z9b t57 b3 q18 q1b t4 t58 kn_ (fun _ => (zh2 t57 b0 b1 b2 b3 q1j q1i q1h q18 q1q q1r q1b) (some (Sum.inl ()))) (fun c0_ c1_ c2_ => (zh2 t57 b0 b1 b2 b3 q1j q1i q1h q18 q1q q1r q1b) (some (Sum.inr (c0_, c1_, c2_))))) (funext fun t4' => funext fun t58' => ih t4' t58')
theorem z4n : LoopOne Try.prog fnTab 161 6 z5l := lp_of (Γ := Γ6) tyTab_ok (FnL.ok fnTab_ok _ _) (LpL.ok lt6_ok) (SumL.ok tb6_ok _) mixed (fi := fi161) (by kernel_rfl) (by kernel_rfl) (by
  intro lo st out hp
  unfold z5l at hp
  split at hp
  · rename_i t4 t57 t58 b0 b1 b2 b3 q1j q1i q1h q18 q1q q1r q1b
    injection hp with hp
    injection hp with h1 h2
    subst h2
    exact ⟨8, 8, big, Eq.trans (zv9 t57 b0 b1 b2 b3 q1j q1i q1h q18 q1q q1r q1b big t4 t58) (zv2 t57 b0 b1 b2 b3 q1j q1i q1h q18 q1q q1r q1b (z5j t57 b3 q18 q1b big t4 t58) h1)⟩
  · cases hp)
noncomputable def tb7 : List (Nat × (List PT → Option (Bool × AV × List Blk))) := [(156, z0w), (181, z1d), (182, z21), (189, z22), (26, z2q), (55, z28), (84, z11), (89, z40), (102, z6a), (112, z1x), (115, z2b), (123, z2p), (126, z4t), (157, z69), (160, z1y), (162, z4p), (167, z2a), (175, z3z), (176, z1o), (187, z29), (74, z3n), (83, z10), (85, z4e), (90, z3o), (103, z4d), (111, z2l), (116, z32), (117, z4f), (138, z30), (148, z1v), (150, z1b), (169, z2m), (185, z31), (52, z41), (154, z2k), (158, z5u), (166, z2j), (104, z2w), (119, z39), (120, z2s), (168, z2x), (188, z2h), (54, z58), (121, z3p), (122, z38), (165, z56), (178, z0b), (178, z07), (184, z6b), (56, z5n), (170, z6k), (178, z0h), (105, z7k), (124, z4s), (147, z0d), (147, z0a), (147, z0g), (198, z65)]
noncomputable def lt7 : List ((Nat × Nat) × (Nat → St → Option (Bool × LO))) := [((166, 3), z19), ((120, 3), z1i), ((168, 4), z1g), ((188, 17), z14), ((122, 4), z1q), ((178, 2), z04), ((178, 2), z02), ((184, 5), z3r), ((178, 2), z06), ((105, 9), z5m), ((161, 6), z5l)]
noncomputable def Γ7 : Ctx := ⟨tyTab, fnTab, tblSum tb7, tblLp lt7⟩
theorem tb7_ok : SumL Try.prog tb7 := SumL.cons z0r (SumL.cons z16 (SumL.cons z1l (SumL.cons z1n (SumL.cons z26 (SumL.cons z1t (SumL.cons z0x (SumL.cons z2y (SumL.cons z50 (SumL.cons z1j (SumL.cons z1u (SumL.cons z27 (SumL.cons z3f (SumL.cons z51 (SumL.cons z1h (SumL.cons z3h (SumL.cons z1r (SumL.cons z2z (SumL.cons z18 (SumL.cons z1s (SumL.cons z2v (SumL.cons z0y (SumL.cons z3a (SumL.cons z2u (SumL.cons z3b (SumL.cons z24 (SumL.cons z2g (SumL.cons z3c (SumL.cons z2i (SumL.cons z1f (SumL.cons z15 (SumL.cons z23 (SumL.cons z2f (SumL.cons z36 (SumL.cons z1z (SumL.cons z4c (SumL.cons z20 (SumL.cons z2d (SumL.cons z2n (SumL.cons z2e (SumL.cons z2c (SumL.cons z25 (SumL.cons z48 (SumL.cons z35 (SumL.cons z2o (SumL.cons z46 (SumL.cons z0e (SumL.cons z08 (SumL.cons z5i (SumL.cons z4l (SumL.cons z60 (SumL.cons z0l (SumL.cons z6o (SumL.cons z4a (SumL.cons z0j (SumL.cons z0f (SumL.cons z0k (SumL.cons z5g (SumL.nil))))))))))))))))))))))))))))))))))))))))))))))))))))))))))
theorem lt7_ok : LpL Try.prog fnTab lt7 := LpL.cons z17 (LpL.cons z1c (LpL.cons z1a (LpL.cons z12 (LpL.cons z1m (LpL.cons z05 (LpL.cons z03 (LpL.cons z34 (LpL.cons z09 (LpL.cons z4m (LpL.cons z4n (LpL.nil)))))))))))
noncomputable def z5e : List PT → Option (Bool × AV × List Blk)
  | [.one (.row 1 q1k (.fl .f32 q1v))] => some ((zez q1k q1v), ((AV.v (TV.one (At.bool (zdx q1k q1v)))), []))
  | _ => none
def znm (q1k : Nat) (q1v : List Nat) : Option (Bool) → Option (AV × List Blk)
  | some r => some ((AV.v (TV.one (At.bool r))), [])
  | none => none
theorem zu9 (q1k : Nat) (q1v : List Nat) : evFn Γ7 8 8 77 (impTs 0 [.one (.row 1 q1k (.fl .f32 q1v))]).1 (impTs 0 [.one (.row 1 q1k (.fl .f32 q1v))]).2 (expo (impTs 0 [.one (.row 1 q1k (.fl .f32 q1v))]).2.length) = zd2 q1k q1v (fun c0_ => some ((AV.v (TV.one (At.bool c0_))), [])) := by kernel_rfl
theorem z53 : SumOne Try.prog 77 z5e := sum_of (Γ := Γ7) (fuel := 8) (d := 8) tyTab_ok (FnL.ok fnTab_ok _ _) (LpL.ok lt7_ok) (SumL.ok tb7_ok _) mixed (by
  intro pts v news hp hc
  clear hc
  unfold z5e at hp
  split at hp
  · rename_i q1k q1v
    exact Eq.trans (Eq.trans (zu9 q1k q1v) (zqt (znm q1k q1v) rfl q1k q1v (fun c0_ => some c0_))) (fin_out (o := (znm q1k q1v)) (x := zak q1k q1v) (d := default) (V := fun r => ((AV.v (TV.one (At.bool r))), [])) (fun r => rfl) hp)
  · cases hp)
noncomputable def z47 : List PT → Option (Bool × AV × List Blk)
  | [.one (.row 1 q1k (.fl .f32 q1v))] => some ((zas q1k q1v), ((AV.v (TV.one (At.bool (za7 q1k q1v)))), []))
  | _ => none
def zmc (q1k : Nat) (q1v : List Nat) : Option (Bool) → Option (AV × List Blk)
  | some r => some ((AV.v (TV.one (At.bool r))), [])
  | none => none
theorem zsk (q1k : Nat) (q1v : List Nat) : evFn Γ7 8 8 88 (impTs 0 [.one (.row 1 q1k (.fl .f32 q1v))]).1 (impTs 0 [.one (.row 1 q1k (.fl .f32 q1v))]).2 (expo (impTs 0 [.one (.row 1 q1k (.fl .f32 q1v))]).2.length) = zaw q1k q1v (fun c0_ => some ((AV.v (TV.one (At.bool c0_))), [])) := by kernel_rfl
theorem z3t : SumOne Try.prog 88 z47 := sum_of (Γ := Γ7) (fuel := 8) (d := 8) tyTab_ok (FnL.ok fnTab_ok _ _) (LpL.ok lt7_ok) (SumL.ok tb7_ok _) mixed (by
  intro pts v news hp hc
  clear hc
  unfold z47 at hp
  split at hp
  · rename_i q1k q1v
    exact Eq.trans (Eq.trans (zsk q1k q1v) (zoi (zmc q1k q1v) rfl q1k q1v (fun c0_ => some c0_))) (fin_out (o := (zmc q1k q1v)) (x := z8r q1k q1v) (d := default) (V := fun r => ((AV.v (TV.one (At.bool r))), [])) (fun r => rfl) hp)
  · cases hp)
noncomputable def z63 : List PT → Option (Bool × AV × List Blk)
  | [.one (.row 1 q1k (.fl .f32 q1v))] => some ((zk3 q1k q1v), ((AV.v (TV.one (At.bool (zjb q1k q1v)))), []))
  | _ => none
def zo7 (q1k : Nat) (q1v : List Nat) : Option (Bool) → Option (AV × List Blk)
  | some r => some ((AV.v (TV.one (At.bool r))), [])
  | none => none
theorem zut (q1k : Nat) (q1v : List Nat) : evFn Γ7 8 8 97 (impTs 0 [.one (.row 1 q1k (.fl .f32 q1v))]).1 (impTs 0 [.one (.row 1 q1k (.fl .f32 q1v))]).2 (expo (impTs 0 [.one (.row 1 q1k (.fl .f32 q1v))]).2.length) = zds q1k q1v (fun c0_ => some ((AV.v (TV.one (At.bool c0_))), [])) := by kernel_rfl
theorem z5k : SumOne Try.prog 97 z63 := sum_of (Γ := Γ7) (fuel := 8) (d := 8) tyTab_ok (FnL.ok fnTab_ok _ _) (LpL.ok lt7_ok) (SumL.ok tb7_ok _) mixed (by
  intro pts v news hp hc
  clear hc
  unfold z63 at hp
  split at hp
  · rename_i q1k q1v
    exact Eq.trans (Eq.trans (zut q1k q1v) (zrd (zo7 q1k q1v) rfl q1k q1v (fun c0_ => some c0_))) (fin_out (o := (zo7 q1k q1v)) (x := zdh q1k q1v) (d := default) (V := fun r => ((AV.v (TV.one (At.bool r))), [])) (fun r => rfl) hp)
  · cases hp)
noncomputable def z5d : List PT → Option (Bool × AV × List Blk)
  | [.one (.s (.flt .f32 x))] => some ((z8g x), ((AV.v (TV.one (At.flt FloatKind.f32 (z62 x)))), []))
  | _ => none
def zno (x : Nat) : Option (Nat) → Option (AV × List Blk)
  | some r => some ((AV.v (TV.one (At.flt FloatKind.f32 r))), [])
  | none => none
theorem zug (x : Nat) : evFn Γ7 8 8 109 (impTs 0 [.one (.s (.flt .f32 x))]).1 (impTs 0 [.one (.s (.flt .f32 x))]).2 (expo (impTs 0 [.one (.s (.flt .f32 x))]).2.length) = zck x (fun c0_ => some ((AV.v (TV.one (At.flt FloatKind.f32 c0_))), [])) := by kernel_rfl
theorem z52 : SumOne Try.prog 109 z5d := sum_of (Γ := Γ7) (fuel := 8) (d := 8) tyTab_ok (FnL.ok fnTab_ok _ _) (LpL.ok lt7_ok) (SumL.ok tb7_ok _) mixed (by
  intro pts v news hp hc
  clear hc
  unfold z5d at hp
  split at hp
  · rename_i x
    exact Eq.trans (Eq.trans (zug x) (zq9 (zno x) rfl x (fun c0_ => some c0_))) (fin_out (o := (zno x)) (x := zcn x) (d := default) (V := fun r => ((AV.v (TV.one (At.flt FloatKind.f32 r))), [])) (fun r => rfl) hp)
  · cases hp)
noncomputable def z7d : List PT → Option (Bool × AV × List Blk)
  | [.ptr [.row 1 q04 (.fl .f32 q0d), .row 1 q07 (.fl .f32 q0f), .row 1 q08 (.fl .f32 q0e), .row 3 q0a (.fl .f32 q0i), .s (.int .i64 q0j), .s (.flt .f32 q0o), .s (.flt .f32 q0n)]] => some ((zm0 q04 q0d q07 q0f q08 q0e q0a q0i q0j q0o q0n), ((AV.v (TV.one (At.bool (zlc q04 q0d q07 q0f q08 q0e q0a q0i q0j q0o q0n)))), []))
  | _ => none
def zs0 (q04 : Nat) (q0d : List Nat) (q07 : Nat) (q0f : List Nat) (q08 : Nat) (q0e : List Nat) (q0a : Nat) (q0i : List Nat) (q0j : Int) (q0o : Nat) (q0n : Nat) : Option (Bool) → Option (AV × List Blk)
  | some r => some ((AV.v (TV.one (At.bool r))), [])
  | none => none
theorem zwi (q04 : Nat) (q0d : List Nat) (q07 : Nat) (q0f : List Nat) (q08 : Nat) (q0e : List Nat) (q0a : Nat) (q0i : List Nat) (q0j : Int) (q0o : Nat) (q0n : Nat) : evFn Γ7 8 8 161 (impTs 0 [.ptr [.row 1 q04 (.fl .f32 q0d), .row 1 q07 (.fl .f32 q0f), .row 1 q08 (.fl .f32 q0e), .row 3 q0a (.fl .f32 q0i), .s (.int .i64 q0j), .s (.flt .f32 q0o), .s (.flt .f32 q0n)]]).1 (impTs 0 [.ptr [.row 1 q04 (.fl .f32 q0d), .row 1 q07 (.fl .f32 q0f), .row 1 q08 (.fl .f32 q0e), .row 3 q0a (.fl .f32 q0i), .s (.int .i64 q0j), .s (.flt .f32 q0o), .s (.flt .f32 q0n)]]).2 (expo (impTs 0 [.ptr [.row 1 q04 (.fl .f32 q0d), .row 1 q07 (.fl .f32 q0f), .row 1 q08 (.fl .f32 q0e), .row 3 q0a (.fl .f32 q0i), .s (.int .i64 q0j), .s (.flt .f32 q0o), .s (.flt .f32 q0n)]]).2.length) = zit q04 q0d q07 q0f q08 q0e q0a q0i q0j q0o q0n (fun c0_ => some ((AV.v (TV.one (At.bool c0_))), [])) := by kernel_rfl
theorem z6l : SumOne Try.prog 161 z7d := sum_of (Γ := Γ7) (fuel := 8) (d := 8) tyTab_ok (FnL.ok fnTab_ok _ _) (LpL.ok lt7_ok) (SumL.ok tb7_ok _) mixed (by
  intro pts v news hp hc
  clear hc
  unfold z7d at hp
  split at hp
  · rename_i q04 q0d q07 q0f q08 q0e q0a q0i q0j q0o q0n
    exact Eq.trans (Eq.trans (zwi q04 q0d q07 q0f q08 q0e q0a q0i q0j q0o q0n) (zui (zs0 q04 q0d q07 q0f q08 q0e q0a q0i q0j q0o q0n) rfl q04 q0d q07 q0f q08 q0e q0a q0i q0j q0o q0n (fun c0_ => some c0_))) (fin_out (o := (zs0 q04 q0d q07 q0f q08 q0e q0a q0i q0j q0o q0n)) (x := zij q04 q0d q07 q0f q08 q0e q0a q0i q0j q0o q0n) (d := default) (V := fun r => ((AV.v (TV.one (At.bool r))), [])) (fun r => rfl) hp)
  · cases hp)
noncomputable def tb8 : List (Nat × (List PT → Option (Bool × AV × List Blk))) := [(156, z0w), (181, z1d), (182, z21), (189, z22), (26, z2q), (55, z28), (84, z11), (89, z40), (102, z6a), (112, z1x), (115, z2b), (123, z2p), (126, z4t), (157, z69), (160, z1y), (162, z4p), (167, z2a), (175, z3z), (176, z1o), (187, z29), (74, z3n), (83, z10), (85, z4e), (90, z3o), (103, z4d), (111, z2l), (116, z32), (117, z4f), (138, z30), (148, z1v), (150, z1b), (169, z2m), (185, z31), (52, z41), (154, z2k), (158, z5u), (166, z2j), (104, z2w), (119, z39), (120, z2s), (168, z2x), (188, z2h), (54, z58), (121, z3p), (122, z38), (165, z56), (178, z0b), (178, z07), (184, z6b), (56, z5n), (170, z6k), (178, z0h), (105, z7k), (124, z4s), (147, z0d), (147, z0a), (147, z0g), (198, z65), (77, z5e), (88, z47), (97, z63), (109, z5d), (161, z7d)]
noncomputable def lt8 : List ((Nat × Nat) × (Nat → St → Option (Bool × LO))) := [((166, 3), z19), ((120, 3), z1i), ((168, 4), z1g), ((188, 17), z14), ((122, 4), z1q), ((178, 2), z04), ((178, 2), z02), ((184, 5), z3r), ((178, 2), z06), ((105, 9), z5m), ((161, 6), z5l)]
noncomputable def Γ8 : Ctx := ⟨tyTab, fnTab, tblSum tb8, tblLp lt8⟩
theorem tb8_ok : SumL Try.prog tb8 := SumL.cons z0r (SumL.cons z16 (SumL.cons z1l (SumL.cons z1n (SumL.cons z26 (SumL.cons z1t (SumL.cons z0x (SumL.cons z2y (SumL.cons z50 (SumL.cons z1j (SumL.cons z1u (SumL.cons z27 (SumL.cons z3f (SumL.cons z51 (SumL.cons z1h (SumL.cons z3h (SumL.cons z1r (SumL.cons z2z (SumL.cons z18 (SumL.cons z1s (SumL.cons z2v (SumL.cons z0y (SumL.cons z3a (SumL.cons z2u (SumL.cons z3b (SumL.cons z24 (SumL.cons z2g (SumL.cons z3c (SumL.cons z2i (SumL.cons z1f (SumL.cons z15 (SumL.cons z23 (SumL.cons z2f (SumL.cons z36 (SumL.cons z1z (SumL.cons z4c (SumL.cons z20 (SumL.cons z2d (SumL.cons z2n (SumL.cons z2e (SumL.cons z2c (SumL.cons z25 (SumL.cons z48 (SumL.cons z35 (SumL.cons z2o (SumL.cons z46 (SumL.cons z0e (SumL.cons z08 (SumL.cons z5i (SumL.cons z4l (SumL.cons z60 (SumL.cons z0l (SumL.cons z6o (SumL.cons z4a (SumL.cons z0j (SumL.cons z0f (SumL.cons z0k (SumL.cons z5g (SumL.cons z53 (SumL.cons z3t (SumL.cons z5k (SumL.cons z52 (SumL.cons z6l (SumL.nil)))))))))))))))))))))))))))))))))))))))))))))))))))))))))))))))
theorem lt8_ok : LpL Try.prog fnTab lt8 := LpL.cons z17 (LpL.cons z1c (LpL.cons z1a (LpL.cons z12 (LpL.cons z1m (LpL.cons z05 (LpL.cons z03 (LpL.cons z34 (LpL.cons z09 (LpL.cons z4m (LpL.cons z4n (LpL.nil)))))))))))
noncomputable def z5b : List PT → Option (Bool × AV × List Blk)
  | [.one (.s (.flt .f32 x)), .one (.s (.flt .f32 y))] => some ((zhw x y), ((AV.tup [(TV.one (At.flt FloatKind.f32 (zgz x y))), (TV.one (At.flt FloatKind.f32 (zgj x y))), (TV.one (At.bool (zgv x y)))]), []))
  | _ => none
def zms (x : Nat) (y : Nat) : Option (Nat × Nat × Bool) → Option (AV × List Blk)
  | some r => some ((AV.tup [(TV.one (At.flt FloatKind.f32 r.1)), (TV.one (At.flt FloatKind.f32 r.2.1)), (TV.one (At.bool r.2.2))]), [])
  | none => none
theorem zte (x : Nat) (y : Nat) : evFn Γ8 8 8 79 (impTs 0 [.one (.s (.flt .f32 x)), .one (.s (.flt .f32 y))]).1 (impTs 0 [.one (.s (.flt .f32 x)), .one (.s (.flt .f32 y))]).2 (expo (impTs 0 [.one (.s (.flt .f32 x)), .one (.s (.flt .f32 y))]).2.length) = zbk x y (fun c0_ c1_ c2_ => some ((AV.tup [(TV.one (At.flt FloatKind.f32 c0_)), (TV.one (At.flt FloatKind.f32 c1_)), (TV.one (At.bool c2_))]), [])) := by kernel_rfl
theorem z55 : SumOne Try.prog 79 z5b := sum_of (Γ := Γ8) (fuel := 8) (d := 8) tyTab_ok (FnL.ok fnTab_ok _ _) (LpL.ok lt8_ok) (SumL.ok tb8_ok _) mixed (by
  intro pts v news hp hc
  clear hc
  unfold z5b at hp
  split at hp
  · rename_i x y
    exact Eq.trans (Eq.trans (zte x y) (zpz (zms x y) rfl x y (fun c0_ c1_ c2_ => some (c0_, c1_, c2_)))) (fin_out (o := (zms x y)) (x := z94 x y) (d := default) (V := fun r => ((AV.tup [(TV.one (At.flt FloatKind.f32 r.1)), (TV.one (At.flt FloatKind.f32 r.2.1)), (TV.one (At.bool r.2.2))]), [])) (fun r => rfl) hp)
  · cases hp)
noncomputable def z3e : List PT → Option (Bool × AV × List Blk)
  | [.agg [.row 1 q00 (.fl .f32 q03), .row 1 q02 (.fl .f32 q06), .row 1 q01 (.fl .f32 q05), .row 3 q09 (.fl .f32 q0b), .s (.int .i64 q0h), .s (.flt .f32 q0l), .s (.flt .f32 q0k)], .one (.s (.int .i64 i)), .one (.s (.flt .f32 q15))] => some ((zdr q00 q03 q02 q06 q01 q05 q09 q0b q0h q0l q0k i q15), ((AV.v (TV.one (At.flt FloatKind.f32 (zac q00 q03 q02 q06 q01 q05 q09 q0b q0h q0l q0k i q15)))), []))
  | _ => none
def zlo (q00 : Nat) (q03 : List Nat) (q02 : Nat) (q06 : List Nat) (q01 : Nat) (q05 : List Nat) (q09 : Nat) (q0b : List Nat) (q0h : Int) (q0l : Nat) (q0k : Nat) (i : Int) (q15 : Nat) : Option (Nat) → Option (AV × List Blk)
  | some r => some ((AV.v (TV.one (At.flt FloatKind.f32 r))), [])
  | none => none
theorem zp2 (q00 : Nat) (q03 : List Nat) (q02 : Nat) (q06 : List Nat) (q01 : Nat) (q05 : List Nat) (q09 : Nat) (q0b : List Nat) (q0h : Int) (q0l : Nat) (q0k : Nat) (i : Int) (q15 : Nat) : evFn Γ8 8 8 86 (impTs 0 [.agg [.row 1 q00 (.fl .f32 q03), .row 1 q02 (.fl .f32 q06), .row 1 q01 (.fl .f32 q05), .row 3 q09 (.fl .f32 q0b), .s (.int .i64 q0h), .s (.flt .f32 q0l), .s (.flt .f32 q0k)], .one (.s (.int .i64 i)), .one (.s (.flt .f32 q15))]).1 (impTs 0 [.agg [.row 1 q00 (.fl .f32 q03), .row 1 q02 (.fl .f32 q06), .row 1 q01 (.fl .f32 q05), .row 3 q09 (.fl .f32 q0b), .s (.int .i64 q0h), .s (.flt .f32 q0l), .s (.flt .f32 q0k)], .one (.s (.int .i64 i)), .one (.s (.flt .f32 q15))]).2 (expo (impTs 0 [.agg [.row 1 q00 (.fl .f32 q03), .row 1 q02 (.fl .f32 q06), .row 1 q01 (.fl .f32 q05), .row 3 q09 (.fl .f32 q0b), .s (.int .i64 q0h), .s (.flt .f32 q0l), .s (.flt .f32 q0k)], .one (.s (.int .i64 i)), .one (.s (.flt .f32 q15))]).2.length) = z9g q00 q03 q02 q06 q01 q05 q09 q0b q0h q0l q0k i q15 (fun c0_ => some ((AV.v (TV.one (At.flt FloatKind.f32 c0_))), [])) := by kernel_rfl
theorem z3d : SumOne Try.prog 86 z3e := sum_of (Γ := Γ8) (fuel := 8) (d := 8) tyTab_ok (FnL.ok fnTab_ok _ _) (LpL.ok lt8_ok) (SumL.ok tb8_ok _) mixed (by
  intro pts v news hp hc
  clear hc
  unfold z3e at hp
  split at hp
  · rename_i q00 q03 q02 q06 q01 q05 q09 q0b q0h q0l q0k i q15
    exact Eq.trans (Eq.trans (zp2 q00 q03 q02 q06 q01 q05 q09 q0b q0h q0l q0k i q15) (zn2 (zlo q00 q03 q02 q06 q01 q05 q09 q0b q0h q0l q0k i q15) rfl q00 q03 q02 q06 q01 q05 q09 q0b q0h q0l q0k i q15 (fun c0_ => some c0_))) (fin_out (o := (zlo q00 q03 q02 q06 q01 q05 q09 q0b q0h q0l q0k i q15)) (x := z9c q00 q03 q02 q06 q01 q05 q09 q0b q0h q0l q0k i q15) (d := default) (V := fun r => ((AV.v (TV.one (At.flt FloatKind.f32 r))), [])) (fun r => rfl) hp)
  · cases hp)
noncomputable def z5c : List PT → Option (Bool × AV × List Blk)
  | [.ptr [.row 1 q00 (.fl .f32 q03), .row 1 q02 (.fl .f32 q06), .row 1 q01 (.fl .f32 q05), .row 3 q09 (.fl .f32 q0b), .s (.int .i64 q0h), .s (.flt .f32 q0l), .s (.flt .f32 q0k)], .one (.s (.int .i64 i))] => some ((zhn q00 q03 q02 q06 q01 q05 q09 q0b q0h q0l q0k i), ((AV.v (TV.one (At.bool (zh3 q00 q03 q02 q06 q01 q05 q09 q0b q0h q0l q0k i)))), []))
  | _ => none
def zmn (q00 : Nat) (q03 : List Nat) (q02 : Nat) (q06 : List Nat) (q01 : Nat) (q05 : List Nat) (q09 : Nat) (q0b : List Nat) (q0h : Int) (q0l : Nat) (q0k : Nat) (i : Int) : Option (Bool) → Option (AV × List Blk)
  | some r => some ((AV.v (TV.one (At.bool r))), [])
  | none => none
theorem zt7 (q00 : Nat) (q03 : List Nat) (q02 : Nat) (q06 : List Nat) (q01 : Nat) (q05 : List Nat) (q09 : Nat) (q0b : List Nat) (q0h : Int) (q0l : Nat) (q0k : Nat) (i : Int) : evFn Γ8 8 8 113 (impTs 0 [.ptr [.row 1 q00 (.fl .f32 q03), .row 1 q02 (.fl .f32 q06), .row 1 q01 (.fl .f32 q05), .row 3 q09 (.fl .f32 q0b), .s (.int .i64 q0h), .s (.flt .f32 q0l), .s (.flt .f32 q0k)], .one (.s (.int .i64 i))]).1 (impTs 0 [.ptr [.row 1 q00 (.fl .f32 q03), .row 1 q02 (.fl .f32 q06), .row 1 q01 (.fl .f32 q05), .row 3 q09 (.fl .f32 q0b), .s (.int .i64 q0h), .s (.flt .f32 q0l), .s (.flt .f32 q0k)], .one (.s (.int .i64 i))]).2 (expo (impTs 0 [.ptr [.row 1 q00 (.fl .f32 q03), .row 1 q02 (.fl .f32 q06), .row 1 q01 (.fl .f32 q05), .row 3 q09 (.fl .f32 q0b), .s (.int .i64 q0h), .s (.flt .f32 q0l), .s (.flt .f32 q0k)], .one (.s (.int .i64 i))]).2.length) = zbp q00 q03 q02 q06 q01 q05 q09 q0b q0h q0l q0k i (fun c0_ => some ((AV.v (TV.one (At.bool c0_))), [])) := by kernel_rfl
theorem z54 : SumOne Try.prog 113 z5c := sum_of (Γ := Γ8) (fuel := 8) (d := 8) tyTab_ok (FnL.ok fnTab_ok _ _) (LpL.ok lt8_ok) (SumL.ok tb8_ok _) mixed (by
  intro pts v news hp hc
  clear hc
  unfold z5c at hp
  split at hp
  · rename_i q00 q03 q02 q06 q01 q05 q09 q0b q0h q0l q0k i
    exact Eq.trans (Eq.trans (zt7 q00 q03 q02 q06 q01 q05 q09 q0b q0h q0l q0k i) (zp5 (zmn q00 q03 q02 q06 q01 q05 q09 q0b q0h q0l q0k i) rfl q00 q03 q02 q06 q01 q05 q09 q0b q0h q0l q0k i (fun c0_ => some c0_))) (fin_out (o := (zmn q00 q03 q02 q06 q01 q05 q09 q0b q0h q0l q0k i)) (x := zby q00 q03 q02 q06 q01 q05 q09 q0b q0h q0l q0k i) (d := default) (V := fun r => ((AV.v (TV.one (At.bool r))), [])) (fun r => rfl) hp)
  · cases hp)
noncomputable def z0i : Nat → St → Option (Bool × LO)
  | 5, (St.mk [(0, (AV.v (TV.one (At.vw 0 0 sn 1)))), (1, (AV.v (TV.one (At.fn 179 [(At.ptr 4 0 1)])))), (7, (AV.v (TV.one (At.int IntKind.i64 t7)))), (8, (AV.v (TV.one (At.int IntKind.i64 t8))))] [(Blk.mk Bool.false (Body.fl FloatKind.f32 b0)), (Blk.mk Bool.false (Body.fl FloatKind.f32 b1)), (Blk.mk Bool.false (Body.fl FloatKind.f32 b2)), (Blk.mk Bool.true (Body.cells [(At.vw 0 0 q1e 1), (At.vw 1 0 q1t 1), (At.vw 2 0 q1u 1)])), (Blk.mk Bool.true (Body.cells [(At.flt FloatKind.f32 b4)]))]) => some ((z3x sn t7 b0 b4 t8), (LO.two (z3m sn t7 b0 b4 t8) (LO.one Ex.ret (St.mk [(4, (AV.v (TV.one (At.int IntKind.i64 (z0q sn t7 b0 b4 t8)))))] [(Blk.mk Bool.false (Body.fl FloatKind.f32 b0)), (Blk.mk Bool.false (Body.fl FloatKind.f32 b1)), (Blk.mk Bool.false (Body.fl FloatKind.f32 b2)), (Blk.mk Bool.true (Body.cells [(At.vw 0 0 q1e 1), (At.vw 1 0 q1t 1), (At.vw 2 0 q1u 1)])), (Blk.mk Bool.true (Body.cells [(At.flt FloatKind.f32 b4)]))])) (LO.one (Ex.exit 0) (St.mk [(0, (AV.v (TV.one (At.vw 0 0 sn 1)))), (1, (AV.v (TV.one (At.fn 179 [(At.ptr 4 0 1)])))), (7, (AV.v (TV.one (At.int IntKind.i64 t7)))), (8, (AV.v (TV.one (At.int IntKind.i64 (z7u sn t7 b0 b4 t8))))), (9, (AV.v (TV.one (At.bool (z7s sn t7 b0 b4 t8)))))] [(Blk.mk Bool.false (Body.fl FloatKind.f32 b0)), (Blk.mk Bool.false (Body.fl FloatKind.f32 b1)), (Blk.mk Bool.false (Body.fl FloatKind.f32 b2)), (Blk.mk Bool.true (Body.cells [(At.vw 0 0 q1e 1), (At.vw 1 0 q1t 1), (At.vw 2 0 q1u 1)])), (Blk.mk Bool.true (Body.cells [(At.flt FloatKind.f32 b4)]))]))))
  | _, _ => none
def z5h (sn : Nat) (t7 : Int) (b0 : List Nat) (b1 : List Nat) (b2 : List Nat) (q1e : Nat) (q1t : Nat) (q1u : Nat) (b4 : Nat) : Option ((Int) ⊕ (Int × Bool)) → Option (Ex × St)
  | none => none
  | some (Sum.inl r) => some (Ex.ret, (St.mk [(4, (AV.v (TV.one (At.int IntKind.i64 r))))] [(Blk.mk Bool.false (Body.fl FloatKind.f32 b0)), (Blk.mk Bool.false (Body.fl FloatKind.f32 b1)), (Blk.mk Bool.false (Body.fl FloatKind.f32 b2)), (Blk.mk Bool.true (Body.cells [(At.vw 0 0 q1e 1), (At.vw 1 0 q1t 1), (At.vw 2 0 q1u 1)])), (Blk.mk Bool.true (Body.cells [(At.flt FloatKind.f32 b4)]))]))
  | some (Sum.inr r) => some ((Ex.exit 0), (St.mk [(0, (AV.v (TV.one (At.vw 0 0 sn 1)))), (1, (AV.v (TV.one (At.fn 179 [(At.ptr 4 0 1)])))), (7, (AV.v (TV.one (At.int IntKind.i64 t7)))), (8, (AV.v (TV.one (At.int IntKind.i64 r.1)))), (9, (AV.v (TV.one (At.bool r.2))))] [(Blk.mk Bool.false (Body.fl FloatKind.f32 b0)), (Blk.mk Bool.false (Body.fl FloatKind.f32 b1)), (Blk.mk Bool.false (Body.fl FloatKind.f32 b2)), (Blk.mk Bool.true (Body.cells [(At.vw 0 0 q1e 1), (At.vw 1 0 q1t 1), (At.vw 2 0 q1u 1)])), (Blk.mk Bool.true (Body.cells [(At.flt FloatKind.f32 b4)]))]))
def zfu (sn : Nat) (t7 : Int) (b0 : List Nat) (b1 : List Nat) (b2 : List Nat) (q1e : Nat) (q1t : Nat) (q1u : Nat) (b4 : Nat) (x : Option ((Int) ⊕ (Int × Bool))) : LO := (LO.two (oL x) (LO.one Ex.ret (St.mk [(4, (AV.v (TV.one (At.int IntKind.i64 ((tL x).getD default)))))] [(Blk.mk Bool.false (Body.fl FloatKind.f32 b0)), (Blk.mk Bool.false (Body.fl FloatKind.f32 b1)), (Blk.mk Bool.false (Body.fl FloatKind.f32 b2)), (Blk.mk Bool.true (Body.cells [(At.vw 0 0 q1e 1), (At.vw 1 0 q1t 1), (At.vw 2 0 q1u 1)])), (Blk.mk Bool.true (Body.cells [(At.flt FloatKind.f32 b4)]))])) (LO.one (Ex.exit 0) (St.mk [(0, (AV.v (TV.one (At.vw 0 0 sn 1)))), (1, (AV.v (TV.one (At.fn 179 [(At.ptr 4 0 1)])))), (7, (AV.v (TV.one (At.int IntKind.i64 t7)))), (8, (AV.v (TV.one (At.int IntKind.i64 ((tR x).getD default).1)))), (9, (AV.v (TV.one (At.bool ((tR x).getD default).2))))] [(Blk.mk Bool.false (Body.fl FloatKind.f32 b0)), (Blk.mk Bool.false (Body.fl FloatKind.f32 b1)), (Blk.mk Bool.false (Body.fl FloatKind.f32 b2)), (Blk.mk Bool.true (Body.cells [(At.vw 0 0 q1e 1), (At.vw 1 0 q1t 1), (At.vw 2 0 q1u 1)])), (Blk.mk Bool.true (Body.cells [(At.flt FloatKind.f32 b4)]))])))
theorem zge (sn : Nat) (t7 : Int) (b0 : List Nat) (b1 : List Nat) (b2 : List Nat) (q1e : Nat) (q1t : Nat) (q1u : Nat) (b4 : Nat) : ∀ x : Option ((Int) ⊕ (Int × Bool)), x.isSome = true → (z5h sn t7 b0 b1 b2 q1e q1t q1u b4) x = some (pick (zfu sn t7 b0 b1 b2 q1e q1t q1u b4 x))
  | none, h => by cases h
  | some (Sum.inl r), _ => rfl
  | some (Sum.inr r), _ => rfl
theorem zgd (sn : Nat) (t7 : Int) (t8 : Int) (b0 : List Nat) (b1 : List Nat) (b2 : List Nat) (q1e : Nat) (q1t : Nat) (q1u : Nat) (b4 : Nat) (K : Ex → St → Option (Ex × St)) : evC (R := Ex × St) Γ8 (evFn Γ8 8 8) 178 5 fi178.nt fi178.live fi178.nl 8 (findL 2 (loopsIn fi178.code)) (St.mk [(0, (AV.v (TV.one (At.vw 0 0 sn 1)))), (1, (AV.v (TV.one (At.fn 179 [(At.ptr 4 0 1)])))), (7, (AV.v (TV.one (At.int IntKind.i64 t7)))), (8, (AV.v (TV.one (At.int IntKind.i64 t8))))] [(Blk.mk Bool.false (Body.fl FloatKind.f32 b0)), (Blk.mk Bool.false (Body.fl FloatKind.f32 b1)), (Blk.mk Bool.false (Body.fl FloatKind.f32 b2)), (Blk.mk Bool.true (Body.cells [(At.vw 0 0 q1e 1), (At.vw 1 0 q1t 1), (At.vw 2 0 q1u 1)])), (Blk.mk Bool.true (Body.cells [(At.flt FloatKind.f32 b4)]))]) K = z1e sn t7 b0 b4 t8 (fun t8' => K .normal (St.mk [(0, (AV.v (TV.one (At.vw 0 0 sn 1)))), (1, (AV.v (TV.one (At.fn 179 [(At.ptr 4 0 1)])))), (7, (AV.v (TV.one (At.int IntKind.i64 t7)))), (8, (AV.v (TV.one (At.int IntKind.i64 t8'))))] [(Blk.mk Bool.false (Body.fl FloatKind.f32 b0)), (Blk.mk Bool.false (Body.fl FloatKind.f32 b1)), (Blk.mk Bool.false (Body.fl FloatKind.f32 b2)), (Blk.mk Bool.true (Body.cells [(At.vw 0 0 q1e 1), (At.vw 1 0 q1t 1), (At.vw 2 0 q1u 1)])), (Blk.mk Bool.true (Body.cells [(At.flt FloatKind.f32 b4)]))])) (fun c0_ => K Ex.ret (St.mk [(4, (AV.v (TV.one (At.int IntKind.i64 c0_))))] [(Blk.mk Bool.false (Body.fl FloatKind.f32 b0)), (Blk.mk Bool.false (Body.fl FloatKind.f32 b1)), (Blk.mk Bool.false (Body.fl FloatKind.f32 b2)), (Blk.mk Bool.true (Body.cells [(At.vw 0 0 q1e 1), (At.vw 1 0 q1t 1), (At.vw 2 0 q1u 1)])), (Blk.mk Bool.true (Body.cells [(At.flt FloatKind.f32 b4)]))])) (fun c0_ c1_ => K (Ex.exit 0) (St.mk [(0, (AV.v (TV.one (At.vw 0 0 sn 1)))), (1, (AV.v (TV.one (At.fn 179 [(At.ptr 4 0 1)])))), (7, (AV.v (TV.one (At.int IntKind.i64 t7)))), (8, (AV.v (TV.one (At.int IntKind.i64 c0_)))), (9, (AV.v (TV.one (At.bool c1_))))] [(Blk.mk Bool.false (Body.fl FloatKind.f32 b0)), (Blk.mk Bool.false (Body.fl FloatKind.f32 b1)), (Blk.mk Bool.false (Body.fl FloatKind.f32 b2)), (Blk.mk Bool.true (Body.cells [(At.vw 0 0 q1e 1), (At.vw 1 0 q1t 1), (At.vw 2 0 q1u 1)])), (Blk.mk Bool.true (Body.cells [(At.flt FloatKind.f32 b4)]))])) := by kernel_rfl
theorem zgc (sn : Nat) (t7 : Int) (b0 : List Nat) (b1 : List Nat) (b2 : List Nat) (q1e : Nat) (q1t : Nat) (q1u : Nat) (b4 : Nat) : ∀ (n : Nat) (t8 : Int), iter 178 2 5 (evC (R := Ex × St) Γ8 (evFn Γ8 8 8) 178 5 fi178.nt fi178.live fi178.nl 8 (findL 2 (loopsIn fi178.code))) n (St.mk [(0, (AV.v (TV.one (At.vw 0 0 sn 1)))), (1, (AV.v (TV.one (At.fn 179 [(At.ptr 4 0 1)])))), (7, (AV.v (TV.one (At.int IntKind.i64 t7)))), (8, (AV.v (TV.one (At.int IntKind.i64 t8))))] [(Blk.mk Bool.false (Body.fl FloatKind.f32 b0)), (Blk.mk Bool.false (Body.fl FloatKind.f32 b1)), (Blk.mk Bool.false (Body.fl FloatKind.f32 b2)), (Blk.mk Bool.true (Body.cells [(At.vw 0 0 q1e 1), (At.vw 1 0 q1t 1), (At.vw 2 0 q1u 1)])), (Blk.mk Bool.true (Body.cells [(At.flt FloatKind.f32 b4)]))]) (fun e st => some (e, st)) = (z5h sn t7 b0 b1 b2 q1e q1t q1u b4) (z0c sn t7 b0 b4 n t8) := by
  intro n
  induction n with
  | zero => intros; rfl
  | succ n ih =>
    intro t8
    refine Eq.trans (iter_succ ..) (Eq.trans (zgd sn t7 t8 b0 b1 b2 q1e q1t q1u b4 (nextK 178 2 5 (evC (R := Ex × St) Γ8 (evFn Γ8 8 8) 178 5 fi178.nt fi178.live fi178.nl 8 (findL 2 (loopsIn fi178.code))) n (fun e st => some (e, st)))) (Eq.trans ?_ (zes (z5h sn t7 b0 b1 b2 q1e q1t q1u b4) rfl sn t7 b0 b4 t8 (fun t8' => z0c sn t7 b0 b4 n t8') (fun c0_ => some (Sum.inl c0_)) (fun c0_ c1_ => some (Sum.inr (c0_, c1_))))))
    exact congrArg (fun kn_ => z1e sn t7 b0 b4 t8 kn_ (fun c0_ => (z5h sn t7 b0 b1 b2 q1e q1t q1u b4) (some (Sum.inl c0_))) (fun c0_ c1_ => (z5h sn t7 b0 b1 b2 q1e q1t q1u b4) (some (Sum.inr (c0_, c1_))))) (funext fun t8' => ih t8')
theorem z0m : LoopOne Try.prog fnTab 178 2 z0i := lp_of (Γ := Γ8) tyTab_ok (FnL.ok fnTab_ok _ _) (LpL.ok lt8_ok) (SumL.ok tb8_ok _) mixed (fi := fi178) (by kernel_rfl) (by kernel_rfl) (by
  intro lo st out hp
  unfold z0i at hp
  split at hp
  · rename_i sn t7 t8 b0 b1 b2 q1e q1t q1u b4
    injection hp with hp
    injection hp with h1 h2
    subst h2
    exact ⟨8, 8, big, Eq.trans (zgc sn t7 b0 b1 b2 q1e q1t q1u b4 big t8) (zge sn t7 b0 b1 b2 q1e q1t q1u b4 (z0c sn t7 b0 b4 big t8) h1)⟩
  · cases hp)
noncomputable def z5f : Nat → St → Option (Bool × LO)
  | 4, (St.mk [(0, (AV.v (TV.one (At.ptr 3 0 3)))), (8, (AV.v (TV.one (At.flt FloatKind.f32 t8)))), (9, (AV.v (TV.one (At.int IntKind.i64 t9)))), (10, (AV.v (TV.one (At.int IntKind.i64 t10))))] [(Blk.mk Bool.false (Body.fl FloatKind.f32 b0)), (Blk.mk Bool.false (Body.fl FloatKind.f32 b1)), (Blk.mk Bool.false (Body.fl FloatKind.f32 b2)), (Blk.mk Bool.false (Body.cells [(At.vw 0 0 q1e 1), (At.vw 1 0 q1t 1), (At.vw 2 0 q1u 1)]))]) => some ((zhr t8 b0 q1e t10), (LO.one (Ex.exit 0) (St.mk [(0, (AV.v (TV.one (At.ptr 3 0 3)))), (8, (AV.v (TV.one (At.flt FloatKind.f32 t8)))), (9, (AV.v (TV.one (At.int IntKind.i64 t9)))), (10, (AV.v (TV.one (At.int IntKind.i64 (z00 t8 b0 q1e t10))))), (36, (AV.v (TV.one (At.bool (zje t8 b0 q1e t10)))))] [(Blk.mk Bool.false (Body.fl FloatKind.f32 b0)), (Blk.mk Bool.false (Body.fl FloatKind.f32 b1)), (Blk.mk Bool.false (Body.fl FloatKind.f32 b2)), (Blk.mk Bool.false (Body.cells [(At.vw 0 0 q1e 1), (At.vw 1 0 q1t 1), (At.vw 2 0 q1u 1)]))])))
  | _, _ => none
def zhy (t8 : Nat) (t9 : Int) (b0 : List Nat) (b1 : List Nat) (b2 : List Nat) (q1e : Nat) (q1t : Nat) (q1u : Nat) : Option ((Int × Bool)) → Option (Ex × St)
  | none => none
  | some r => some ((Ex.exit 0), (St.mk [(0, (AV.v (TV.one (At.ptr 3 0 3)))), (8, (AV.v (TV.one (At.flt FloatKind.f32 t8)))), (9, (AV.v (TV.one (At.int IntKind.i64 t9)))), (10, (AV.v (TV.one (At.int IntKind.i64 r.1)))), (36, (AV.v (TV.one (At.bool r.2))))] [(Blk.mk Bool.false (Body.fl FloatKind.f32 b0)), (Blk.mk Bool.false (Body.fl FloatKind.f32 b1)), (Blk.mk Bool.false (Body.fl FloatKind.f32 b2)), (Blk.mk Bool.false (Body.cells [(At.vw 0 0 q1e 1), (At.vw 1 0 q1t 1), (At.vw 2 0 q1u 1)]))]))
def zsf (t8 : Nat) (t9 : Int) (b0 : List Nat) (b1 : List Nat) (b2 : List Nat) (q1e : Nat) (q1t : Nat) (q1u : Nat) (x : Option ((Int × Bool))) : LO := (LO.one (Ex.exit 0) (St.mk [(0, (AV.v (TV.one (At.ptr 3 0 3)))), (8, (AV.v (TV.one (At.flt FloatKind.f32 t8)))), (9, (AV.v (TV.one (At.int IntKind.i64 t9)))), (10, (AV.v (TV.one (At.int IntKind.i64 (x.getD default).1)))), (36, (AV.v (TV.one (At.bool (x.getD default).2))))] [(Blk.mk Bool.false (Body.fl FloatKind.f32 b0)), (Blk.mk Bool.false (Body.fl FloatKind.f32 b1)), (Blk.mk Bool.false (Body.fl FloatKind.f32 b2)), (Blk.mk Bool.false (Body.cells [(At.vw 0 0 q1e 1), (At.vw 1 0 q1t 1), (At.vw 2 0 q1u 1)]))]))
theorem zti (t8 : Nat) (t9 : Int) (b0 : List Nat) (b1 : List Nat) (b2 : List Nat) (q1e : Nat) (q1t : Nat) (q1u : Nat) : ∀ x : Option ((Int × Bool)), x.isSome = true → (zhy t8 t9 b0 b1 b2 q1e q1t q1u) x = some (pick (zsf t8 t9 b0 b1 b2 q1e q1t q1u x))
  | none, h => by cases h
  | some r, _ => rfl
theorem zt2 (t8 : Nat) (t9 : Int) (t10 : Int) (b0 : List Nat) (b1 : List Nat) (b2 : List Nat) (q1e : Nat) (q1t : Nat) (q1u : Nat) (K : Ex → St → Option (Ex × St)) : evC (R := Ex × St) Γ8 (evFn Γ8 8 8) 193 4 fi193.nt fi193.live fi193.nl 8 (findL 4 (loopsIn fi193.code)) (St.mk [(0, (AV.v (TV.one (At.ptr 3 0 3)))), (8, (AV.v (TV.one (At.flt FloatKind.f32 t8)))), (9, (AV.v (TV.one (At.int IntKind.i64 t9)))), (10, (AV.v (TV.one (At.int IntKind.i64 t10))))] [(Blk.mk Bool.false (Body.fl FloatKind.f32 b0)), (Blk.mk Bool.false (Body.fl FloatKind.f32 b1)), (Blk.mk Bool.false (Body.fl FloatKind.f32 b2)), (Blk.mk Bool.false (Body.cells [(At.vw 0 0 q1e 1), (At.vw 1 0 q1t 1), (At.vw 2 0 q1u 1)]))]) K = z8k t8 b0 q1e t10 (fun t10' => K .normal (St.mk [(0, (AV.v (TV.one (At.ptr 3 0 3)))), (8, (AV.v (TV.one (At.flt FloatKind.f32 t8)))), (9, (AV.v (TV.one (At.int IntKind.i64 t9)))), (10, (AV.v (TV.one (At.int IntKind.i64 t10'))))] [(Blk.mk Bool.false (Body.fl FloatKind.f32 b0)), (Blk.mk Bool.false (Body.fl FloatKind.f32 b1)), (Blk.mk Bool.false (Body.fl FloatKind.f32 b2)), (Blk.mk Bool.false (Body.cells [(At.vw 0 0 q1e 1), (At.vw 1 0 q1t 1), (At.vw 2 0 q1u 1)]))])) (fun c0_ c1_ => K (Ex.exit 0) (St.mk [(0, (AV.v (TV.one (At.ptr 3 0 3)))), (8, (AV.v (TV.one (At.flt FloatKind.f32 t8)))), (9, (AV.v (TV.one (At.int IntKind.i64 t9)))), (10, (AV.v (TV.one (At.int IntKind.i64 c0_)))), (36, (AV.v (TV.one (At.bool c1_))))] [(Blk.mk Bool.false (Body.fl FloatKind.f32 b0)), (Blk.mk Bool.false (Body.fl FloatKind.f32 b1)), (Blk.mk Bool.false (Body.fl FloatKind.f32 b2)), (Blk.mk Bool.false (Body.cells [(At.vw 0 0 q1e 1), (At.vw 1 0 q1t 1), (At.vw 2 0 q1u 1)]))])) := by kernel_rfl
theorem zt8 (t8 : Nat) (t9 : Int) (b0 : List Nat) (b1 : List Nat) (b2 : List Nat) (q1e : Nat) (q1t : Nat) (q1u : Nat) : ∀ (n : Nat) (t10 : Int), iter 193 4 4 (evC (R := Ex × St) Γ8 (evFn Γ8 8 8) 193 4 fi193.nt fi193.live fi193.nl 8 (findL 4 (loopsIn fi193.code))) n (St.mk [(0, (AV.v (TV.one (At.ptr 3 0 3)))), (8, (AV.v (TV.one (At.flt FloatKind.f32 t8)))), (9, (AV.v (TV.one (At.int IntKind.i64 t9)))), (10, (AV.v (TV.one (At.int IntKind.i64 t10))))] [(Blk.mk Bool.false (Body.fl FloatKind.f32 b0)), (Blk.mk Bool.false (Body.fl FloatKind.f32 b1)), (Blk.mk Bool.false (Body.fl FloatKind.f32 b2)), (Blk.mk Bool.false (Body.cells [(At.vw 0 0 q1e 1), (At.vw 1 0 q1t 1), (At.vw 2 0 q1u 1)]))]) (fun e st => some (e, st)) = (zhy t8 t9 b0 b1 b2 q1e q1t q1u) (z6r t8 b0 q1e n t10) := by
  intro n
  induction n with
  | zero => intros; rfl
  | succ n ih =>
    intro t10
    refine Eq.trans (iter_succ ..) (Eq.trans (zt2 t8 t9 t10 b0 b1 b2 q1e q1t q1u (nextK 193 4 4 (evC (R := Ex × St) Γ8 (evFn Γ8 8 8) 193 4 fi193.nt fi193.live fi193.nl 8 (findL 4 (loopsIn fi193.code))) n (fun e st => some (e, st)))) (Eq.trans ?_ (zq0 (zhy t8 t9 b0 b1 b2 q1e q1t q1u) rfl t8 b0 q1e t10 (fun t10' => z6r t8 b0 q1e n t10') (fun c0_ c1_ => some (c0_, c1_)))))
    exact congrArg (fun kn_ => z8k t8 b0 q1e t10 kn_ (fun c0_ c1_ => (zhy t8 t9 b0 b1 b2 q1e q1t q1u) (some (c0_, c1_)))) (funext fun t10' => ih t10')
theorem z57 : LoopOne Try.prog fnTab 193 4 z5f := lp_of (Γ := Γ8) tyTab_ok (FnL.ok fnTab_ok _ _) (LpL.ok lt8_ok) (SumL.ok tb8_ok _) mixed (fi := fi193) (by kernel_rfl) (by kernel_rfl) (by
  intro lo st out hp
  unfold z5f at hp
  split at hp
  · rename_i t8 t9 t10 b0 b1 b2 q1e q1t q1u
    injection hp with hp
    injection hp with h1 h2
    subst h2
    exact ⟨8, 8, big, Eq.trans (zt8 t8 t9 b0 b1 b2 q1e q1t q1u big t10) (zti t8 t9 b0 b1 b2 q1e q1t q1u (z6r t8 b0 q1e big t10) h1)⟩
  · cases hp)
noncomputable def tb9 : List (Nat × (List PT → Option (Bool × AV × List Blk))) := [(156, z0w), (181, z1d), (182, z21), (189, z22), (26, z2q), (55, z28), (84, z11), (89, z40), (102, z6a), (112, z1x), (115, z2b), (123, z2p), (126, z4t), (157, z69), (160, z1y), (162, z4p), (167, z2a), (175, z3z), (176, z1o), (187, z29), (74, z3n), (83, z10), (85, z4e), (90, z3o), (103, z4d), (111, z2l), (116, z32), (117, z4f), (138, z30), (148, z1v), (150, z1b), (169, z2m), (185, z31), (52, z41), (154, z2k), (158, z5u), (166, z2j), (104, z2w), (119, z39), (120, z2s), (168, z2x), (188, z2h), (54, z58), (121, z3p), (122, z38), (165, z56), (178, z0b), (178, z07), (184, z6b), (56, z5n), (170, z6k), (178, z0h), (105, z7k), (124, z4s), (147, z0d), (147, z0a), (147, z0g), (198, z65), (77, z5e), (88, z47), (97, z63), (109, z5d), (161, z7d), (79, z5b), (86, z3e), (113, z5c)]
noncomputable def lt9 : List ((Nat × Nat) × (Nat → St → Option (Bool × LO))) := [((166, 3), z19), ((120, 3), z1i), ((168, 4), z1g), ((188, 17), z14), ((122, 4), z1q), ((178, 2), z04), ((178, 2), z02), ((184, 5), z3r), ((178, 2), z06), ((105, 9), z5m), ((161, 6), z5l), ((178, 2), z0i), ((193, 4), z5f)]
noncomputable def Γ9 : Ctx := ⟨tyTab, fnTab, tblSum tb9, tblLp lt9⟩
theorem tb9_ok : SumL Try.prog tb9 := SumL.cons z0r (SumL.cons z16 (SumL.cons z1l (SumL.cons z1n (SumL.cons z26 (SumL.cons z1t (SumL.cons z0x (SumL.cons z2y (SumL.cons z50 (SumL.cons z1j (SumL.cons z1u (SumL.cons z27 (SumL.cons z3f (SumL.cons z51 (SumL.cons z1h (SumL.cons z3h (SumL.cons z1r (SumL.cons z2z (SumL.cons z18 (SumL.cons z1s (SumL.cons z2v (SumL.cons z0y (SumL.cons z3a (SumL.cons z2u (SumL.cons z3b (SumL.cons z24 (SumL.cons z2g (SumL.cons z3c (SumL.cons z2i (SumL.cons z1f (SumL.cons z15 (SumL.cons z23 (SumL.cons z2f (SumL.cons z36 (SumL.cons z1z (SumL.cons z4c (SumL.cons z20 (SumL.cons z2d (SumL.cons z2n (SumL.cons z2e (SumL.cons z2c (SumL.cons z25 (SumL.cons z48 (SumL.cons z35 (SumL.cons z2o (SumL.cons z46 (SumL.cons z0e (SumL.cons z08 (SumL.cons z5i (SumL.cons z4l (SumL.cons z60 (SumL.cons z0l (SumL.cons z6o (SumL.cons z4a (SumL.cons z0j (SumL.cons z0f (SumL.cons z0k (SumL.cons z5g (SumL.cons z53 (SumL.cons z3t (SumL.cons z5k (SumL.cons z52 (SumL.cons z6l (SumL.cons z55 (SumL.cons z3d (SumL.cons z54 (SumL.nil))))))))))))))))))))))))))))))))))))))))))))))))))))))))))))))))))
theorem lt9_ok : LpL Try.prog fnTab lt9 := LpL.cons z17 (LpL.cons z1c (LpL.cons z1a (LpL.cons z12 (LpL.cons z1m (LpL.cons z05 (LpL.cons z03 (LpL.cons z34 (LpL.cons z09 (LpL.cons z4m (LpL.cons z4n (LpL.cons z0m (LpL.cons z57 (LpL.nil)))))))))))))
noncomputable def z7o : List PT → Option (Bool × AV × List Blk)
  | [.ptr [.row 1 q00 (.fl .f32 q03), .row 1 q02 (.fl .f32 q06), .row 1 q01 (.fl .f32 q05), .row 3 q09 (.fl .f32 q0b), .s (.int .i64 q0h), .s (.flt .f32 q0l), .s (.flt .f32 q0k)], .one (.s (.int .i64 i)), .one (.s (.flt .f32 q0w)), .one (.s (.flt .f32 q0q)), .one (.s (.flt .f32 q0m))] => some ((zlh q00 q03 q02 q06 q01 q05 q09 q0b q0h q0l q0k i q0w q0q q0m), ((AV.v (TV.one (At.bool (zkv q00 q03 q02 q06 q01 q05 q09 q0b q0h q0l q0k i q0w q0q q0m)))), []))
  | _ => none
def zr9 (q00 : Nat) (q03 : List Nat) (q02 : Nat) (q06 : List Nat) (q01 : Nat) (q05 : List Nat) (q09 : Nat) (q0b : List Nat) (q0h : Int) (q0l : Nat) (q0k : Nat) (i : Int) (q0w : Nat) (q0q : Nat) (q0m : Nat) : Option (Bool) → Option (AV × List Blk)
  | some r => some ((AV.v (TV.one (At.bool r))), [])
  | none => none
theorem zw4 (q00 : Nat) (q03 : List Nat) (q02 : Nat) (q06 : List Nat) (q01 : Nat) (q05 : List Nat) (q09 : Nat) (q0b : List Nat) (q0h : Int) (q0l : Nat) (q0k : Nat) (i : Int) (q0w : Nat) (q0q : Nat) (q0m : Nat) : evFn Γ9 8 8 130 (impTs 0 [.ptr [.row 1 q00 (.fl .f32 q03), .row 1 q02 (.fl .f32 q06), .row 1 q01 (.fl .f32 q05), .row 3 q09 (.fl .f32 q0b), .s (.int .i64 q0h), .s (.flt .f32 q0l), .s (.flt .f32 q0k)], .one (.s (.int .i64 i)), .one (.s (.flt .f32 q0w)), .one (.s (.flt .f32 q0q)), .one (.s (.flt .f32 q0m))]).1 (impTs 0 [.ptr [.row 1 q00 (.fl .f32 q03), .row 1 q02 (.fl .f32 q06), .row 1 q01 (.fl .f32 q05), .row 3 q09 (.fl .f32 q0b), .s (.int .i64 q0h), .s (.flt .f32 q0l), .s (.flt .f32 q0k)], .one (.s (.int .i64 i)), .one (.s (.flt .f32 q0w)), .one (.s (.flt .f32 q0q)), .one (.s (.flt .f32 q0m))]).2 (expo (impTs 0 [.ptr [.row 1 q00 (.fl .f32 q03), .row 1 q02 (.fl .f32 q06), .row 1 q01 (.fl .f32 q05), .row 3 q09 (.fl .f32 q0b), .s (.int .i64 q0h), .s (.flt .f32 q0l), .s (.flt .f32 q0k)], .one (.s (.int .i64 i)), .one (.s (.flt .f32 q0w)), .one (.s (.flt .f32 q0q)), .one (.s (.flt .f32 q0m))]).2.length) = zg1 q00 q03 q02 q06 q01 q05 q09 q0b q0h q0l q0k i q0w q0q q0m (fun c0_ => some ((AV.v (TV.one (At.bool c0_))), [])) := by kernel_rfl
theorem z76 : SumOne Try.prog 130 z7o := sum_of (Γ := Γ9) (fuel := 8) (d := 8) tyTab_ok (FnL.ok fnTab_ok _ _) (LpL.ok lt9_ok) (SumL.ok tb9_ok _) mixed (by
  intro pts v news hp hc
  clear hc
  unfold z7o at hp
  split at hp
  · rename_i q00 q03 q02 q06 q01 q05 q09 q0b q0h q0l q0k i q0w q0q q0m
    exact Eq.trans (Eq.trans (zw4 q00 q03 q02 q06 q01 q05 q09 q0b q0h q0l q0k i q0w q0q q0m) (ztq (zr9 q00 q03 q02 q06 q01 q05 q09 q0b q0h q0l q0k i q0w q0q q0m) rfl q00 q03 q02 q06 q01 q05 q09 q0b q0h q0l q0k i q0w q0q q0m (fun c0_ => some c0_))) (fin_out (o := (zr9 q00 q03 q02 q06 q01 q05 q09 q0b q0h q0l q0k i q0w q0q q0m)) (x := zfw q00 q03 q02 q06 q01 q05 q09 q0b q0h q0l q0k i q0w q0q q0m) (d := default) (V := fun r => ((AV.v (TV.one (At.bool r))), [])) (fun r => rfl) hp)
  · cases hp)
noncomputable def z3j : List PT → Option (Bool × AV × List Blk)
  | [.agg [.row 1 q0c (.fl .f32 q0g), .row 1 q0u (.fl .f32 q0z), .row 1 q0t (.fl .f32 q10)], .one (.s (.flt .f32 x1))] => some ((zda q0c q0g q0u q0z q0t q10 x1), ((AV.tup [(TV.one (At.int IntKind.i64 (z6h q0c q0g q0u q0z q0t q10 x1))), (TV.one (At.int IntKind.i64 (z6g q0c q0g q0u q0z q0t q10 x1))), (TV.one (At.flt FloatKind.f32 (z78 q0c q0g q0u q0z q0t q10 x1))), (TV.one (At.flt FloatKind.f32 (z8s q0c q0g q0u q0z q0t q10 x1))), (TV.one (At.flt FloatKind.f32 (z9w q0c q0g q0u q0z q0t q10 x1)))]), []))
  | _ => none
def zl7 (q0c : Nat) (q0g : List Nat) (q0u : Nat) (q0z : List Nat) (q0t : Nat) (q10 : List Nat) (x1 : Nat) : Option (Int × Int × Nat × Nat × Nat) → Option (AV × List Blk)
  | some r => some ((AV.tup [(TV.one (At.int IntKind.i64 r.1)), (TV.one (At.int IntKind.i64 r.2.1)), (TV.one (At.flt FloatKind.f32 r.2.2.1)), (TV.one (At.flt FloatKind.f32 r.2.2.2.1)), (TV.one (At.flt FloatKind.f32 r.2.2.2.2))]), [])
  | none => none
theorem zoj (q0c : Nat) (q0g : List Nat) (q0u : Nat) (q0z : List Nat) (q0t : Nat) (q10 : List Nat) (x1 : Nat) : evFn Γ9 8 8 146 (impTs 0 [.agg [.row 1 q0c (.fl .f32 q0g), .row 1 q0u (.fl .f32 q0z), .row 1 q0t (.fl .f32 q10)], .one (.s (.flt .f32 x1))]).1 (impTs 0 [.agg [.row 1 q0c (.fl .f32 q0g), .row 1 q0u (.fl .f32 q0z), .row 1 q0t (.fl .f32 q10)], .one (.s (.flt .f32 x1))]).2 (expo (impTs 0 [.agg [.row 1 q0c (.fl .f32 q0g), .row 1 q0u (.fl .f32 q0z), .row 1 q0t (.fl .f32 q10)], .one (.s (.flt .f32 x1))]).2.length) = z8e q0c q0g q0u q0z q0t q10 x1 (fun c0_ c1_ c2_ c3_ c4_ => some ((AV.tup [(TV.one (At.int IntKind.i64 c0_)), (TV.one (At.int IntKind.i64 c1_)), (TV.one (At.flt FloatKind.f32 c2_)), (TV.one (At.flt FloatKind.f32 c3_)), (TV.one (At.flt FloatKind.f32 c4_))]), [])) := by kernel_rfl
theorem z3k : SumOne Try.prog 146 z3j := sum_of (Γ := Γ9) (fuel := 8) (d := 8) tyTab_ok (FnL.ok fnTab_ok _ _) (LpL.ok lt9_ok) (SumL.ok tb9_ok _) mixed (by
  intro pts v news hp hc
  clear hc
  unfold z3j at hp
  split at hp
  · rename_i q0c q0g q0u q0z q0t q10 x1
    exact Eq.trans (Eq.trans (zoj q0c q0g q0u q0z q0t q10 x1) (zmi (zl7 q0c q0g q0u q0z q0t q10 x1) rfl q0c q0g q0u q0z q0t q10 x1 (fun c0_ c1_ c2_ c3_ c4_ => some (c0_, c1_, c2_, c3_, c4_)))) (fin_out (o := (zl7 q0c q0g q0u q0z q0t q10 x1)) (x := z5s q0c q0g q0u q0z q0t q10 x1) (d := default) (V := fun r => ((AV.tup [(TV.one (At.int IntKind.i64 r.1)), (TV.one (At.int IntKind.i64 r.2.1)), (TV.one (At.flt FloatKind.f32 r.2.2.1)), (TV.one (At.flt FloatKind.f32 r.2.2.2.1)), (TV.one (At.flt FloatKind.f32 r.2.2.2.2))]), [])) (fun r => rfl) hp)
  · cases hp)
noncomputable def z72 : List PT → Option (Bool × AV × List Blk)
  | [.ptr [.row 1 q0c (.fl .f32 q0g), .row 1 q0u (.fl .f32 q0z), .row 1 q0t (.fl .f32 q10)], .one (.s (.flt .f32 x1))] => some ((zkz q0c q0g q0u q0z q0t q10 x1), ((AV.tup [(TV.one (At.int IntKind.i64 (zbb q0c q0g q0u q0z q0t q10 x1))), (TV.one (At.int IntKind.i64 (zh1 q0c q0g q0u q0z q0t q10 x1))), (TV.one (At.flt FloatKind.f32 (zjx q0c q0g q0u q0z q0t q10 x1))), (TV.one (At.flt FloatKind.f32 (zlq q0c q0g q0u q0z q0t q10 x1)))]), []))
  | _ => none
def zpf (q0c : Nat) (q0g : List Nat) (q0u : Nat) (q0z : List Nat) (q0t : Nat) (q10 : List Nat) (x1 : Nat) : Option (Int × Int × Nat × Nat) → Option (AV × List Blk)
  | some r => some ((AV.tup [(TV.one (At.int IntKind.i64 r.1)), (TV.one (At.int IntKind.i64 r.2.1)), (TV.one (At.flt FloatKind.f32 r.2.2.1)), (TV.one (At.flt FloatKind.f32 r.2.2.2))]), [])
  | none => none
theorem zvz (q0c : Nat) (q0g : List Nat) (q0u : Nat) (q0z : List Nat) (q0t : Nat) (q10 : List Nat) (x1 : Nat) : evFn Γ9 8 8 193 (impTs 0 [.ptr [.row 1 q0c (.fl .f32 q0g), .row 1 q0u (.fl .f32 q0z), .row 1 q0t (.fl .f32 q10)], .one (.s (.flt .f32 x1))]).1 (impTs 0 [.ptr [.row 1 q0c (.fl .f32 q0g), .row 1 q0u (.fl .f32 q0z), .row 1 q0t (.fl .f32 q10)], .one (.s (.flt .f32 x1))]).2 (expo (impTs 0 [.ptr [.row 1 q0c (.fl .f32 q0g), .row 1 q0u (.fl .f32 q0z), .row 1 q0t (.fl .f32 q10)], .one (.s (.flt .f32 x1))]).2.length) = zcw q0c q0g q0u q0z q0t q10 x1 (fun c0_ c1_ c2_ c3_ => some ((AV.tup [(TV.one (At.int IntKind.i64 c0_)), (TV.one (At.int IntKind.i64 c1_)), (TV.one (At.flt FloatKind.f32 c2_)), (TV.one (At.flt FloatKind.f32 c3_))]), [])) := by kernel_rfl
theorem z6q : SumOne Try.prog 193 z72 := sum_of (Γ := Γ9) (fuel := 8) (d := 8) tyTab_ok (FnL.ok fnTab_ok _ _) (LpL.ok lt9_ok) (SumL.ok tb9_ok _) mixed (by
  intro pts v news hp hc
  clear hc
  unfold z72 at hp
  split at hp
  · rename_i q0c q0g q0u q0z q0t q10 x1
    exact Eq.trans (Eq.trans (zvz q0c q0g q0u q0z q0t q10 x1) (zsu (zpf q0c q0g q0u q0z q0t q10 x1) rfl q0c q0g q0u q0z q0t q10 x1 (fun c0_ c1_ c2_ c3_ => some (c0_, c1_, c2_, c3_)))) (fin_out (o := (zpf q0c q0g q0u q0z q0t q10 x1)) (x := z91 q0c q0g q0u q0z q0t q10 x1) (d := default) (V := fun r => ((AV.tup [(TV.one (At.int IntKind.i64 r.1)), (TV.one (At.int IntKind.i64 r.2.1)), (TV.one (At.flt FloatKind.f32 r.2.2.1)), (TV.one (At.flt FloatKind.f32 r.2.2.2))]), [])) (fun r => rfl) hp)
  · cases hp)
noncomputable def z3i : Nat → St → Option (Bool × LO)
  | 3, (St.mk [(1, (AV.v (TV.one (At.ptr 3 0 3)))), (42, (AV.v (TV.one (At.vw 0 0 q2g 1)))), (43, (AV.v (TV.one (At.int IntKind.i64 t43)))), (44, (AV.v (TV.one (At.int IntKind.i64 t44))))] [(Blk.mk Bool.false (Body.fl FloatKind.f32 b0)), (Blk.mk Bool.false (Body.fl FloatKind.f32 b1)), (Blk.mk Bool.false (Body.fl FloatKind.f32 b2)), (Blk.mk Bool.true (Body.cells [(At.vw 0 0 q1e 1), (At.vw 1 0 q1t 1), (At.vw 2 0 q1u 1)]))]) => some ((z8c q2g t43 b0 q1e t44), (LO.two (z84 q2g t43 b0 q1e t44) (LO.one Ex.ret (St.mk [(2, (AV.v (TV.one (At.bool Bool.false))))] [(Blk.mk Bool.false (Body.fl FloatKind.f32 b0)), (Blk.mk Bool.false (Body.fl FloatKind.f32 b1)), (Blk.mk Bool.false (Body.fl FloatKind.f32 b2))])) (LO.one (Ex.exit 0) (St.mk [(1, (AV.v (TV.one (At.ptr 3 0 3)))), (42, (AV.v (TV.one (At.vw 0 0 q2g 1)))), (43, (AV.v (TV.one (At.int IntKind.i64 t43)))), (44, (AV.v (TV.one (At.int IntKind.i64 (ze7 q2g t43 b0 q1e t44))))), (45, (AV.v (TV.one (At.bool (ze1 q2g t43 b0 q1e t44)))))] [(Blk.mk Bool.false (Body.fl FloatKind.f32 b0)), (Blk.mk Bool.false (Body.fl FloatKind.f32 b1)), (Blk.mk Bool.false (Body.fl FloatKind.f32 b2)), (Blk.mk Bool.true (Body.cells [(At.vw 0 0 q1e 1), (At.vw 1 0 q1t 1), (At.vw 2 0 q1u 1)]))]))))
  | _, _ => none
def zad (q2g : Nat) (t43 : Int) (b0 : List Nat) (b1 : List Nat) (b2 : List Nat) (q1e : Nat) (q1t : Nat) (q1u : Nat) : Option ((Unit) ⊕ (Int × Bool)) → Option (Ex × St)
  | none => none
  | some (Sum.inl r) => some (Ex.ret, (St.mk [(2, (AV.v (TV.one (At.bool Bool.false))))] [(Blk.mk Bool.false (Body.fl FloatKind.f32 b0)), (Blk.mk Bool.false (Body.fl FloatKind.f32 b1)), (Blk.mk Bool.false (Body.fl FloatKind.f32 b2))]))
  | some (Sum.inr r) => some ((Ex.exit 0), (St.mk [(1, (AV.v (TV.one (At.ptr 3 0 3)))), (42, (AV.v (TV.one (At.vw 0 0 q2g 1)))), (43, (AV.v (TV.one (At.int IntKind.i64 t43)))), (44, (AV.v (TV.one (At.int IntKind.i64 r.1)))), (45, (AV.v (TV.one (At.bool r.2))))] [(Blk.mk Bool.false (Body.fl FloatKind.f32 b0)), (Blk.mk Bool.false (Body.fl FloatKind.f32 b1)), (Blk.mk Bool.false (Body.fl FloatKind.f32 b2)), (Blk.mk Bool.true (Body.cells [(At.vw 0 0 q1e 1), (At.vw 1 0 q1t 1), (At.vw 2 0 q1u 1)]))]))
def zo0 (q2g : Nat) (t43 : Int) (b0 : List Nat) (b1 : List Nat) (b2 : List Nat) (q1e : Nat) (q1t : Nat) (q1u : Nat) (x : Option ((Unit) ⊕ (Int × Bool))) : LO := (LO.two (oL x) (LO.one Ex.ret (St.mk [(2, (AV.v (TV.one (At.bool Bool.false))))] [(Blk.mk Bool.false (Body.fl FloatKind.f32 b0)), (Blk.mk Bool.false (Body.fl FloatKind.f32 b1)), (Blk.mk Bool.false (Body.fl FloatKind.f32 b2))])) (LO.one (Ex.exit 0) (St.mk [(1, (AV.v (TV.one (At.ptr 3 0 3)))), (42, (AV.v (TV.one (At.vw 0 0 q2g 1)))), (43, (AV.v (TV.one (At.int IntKind.i64 t43)))), (44, (AV.v (TV.one (At.int IntKind.i64 ((tR x).getD default).1)))), (45, (AV.v (TV.one (At.bool ((tR x).getD default).2))))] [(Blk.mk Bool.false (Body.fl FloatKind.f32 b0)), (Blk.mk Bool.false (Body.fl FloatKind.f32 b1)), (Blk.mk Bool.false (Body.fl FloatKind.f32 b2)), (Blk.mk Bool.true (Body.cells [(At.vw 0 0 q1e 1), (At.vw 1 0 q1t 1), (At.vw 2 0 q1u 1)]))])))
theorem zog (q2g : Nat) (t43 : Int) (b0 : List Nat) (b1 : List Nat) (b2 : List Nat) (q1e : Nat) (q1t : Nat) (q1u : Nat) : ∀ x : Option ((Unit) ⊕ (Int × Bool)), x.isSome = true → (zad q2g t43 b0 b1 b2 q1e q1t q1u) x = some (pick (zo0 q2g t43 b0 b1 b2 q1e q1t q1u x))
  | none, h => by cases h
  | some (Sum.inl r), _ => rfl
  | some (Sum.inr r), _ => rfl
theorem zoo (q2g : Nat) (t43 : Int) (t44 : Int) (b0 : List Nat) (b1 : List Nat) (b2 : List Nat) (q1e : Nat) (q1t : Nat) (q1u : Nat) (K : Ex → St → Option (Ex × St)) : evC (R := Ex × St) Γ9 (evFn Γ9 8 8) 57 3 fi57.nt fi57.live fi57.nl 8 (findL 5 (loopsIn fi57.code)) (St.mk [(1, (AV.v (TV.one (At.ptr 3 0 3)))), (42, (AV.v (TV.one (At.vw 0 0 q2g 1)))), (43, (AV.v (TV.one (At.int IntKind.i64 t43)))), (44, (AV.v (TV.one (At.int IntKind.i64 t44))))] [(Blk.mk Bool.false (Body.fl FloatKind.f32 b0)), (Blk.mk Bool.false (Body.fl FloatKind.f32 b1)), (Blk.mk Bool.false (Body.fl FloatKind.f32 b2)), (Blk.mk Bool.true (Body.cells [(At.vw 0 0 q1e 1), (At.vw 1 0 q1t 1), (At.vw 2 0 q1u 1)]))]) K = z6u q2g t43 b0 q1e t44 (fun t44' => K .normal (St.mk [(1, (AV.v (TV.one (At.ptr 3 0 3)))), (42, (AV.v (TV.one (At.vw 0 0 q2g 1)))), (43, (AV.v (TV.one (At.int IntKind.i64 t43)))), (44, (AV.v (TV.one (At.int IntKind.i64 t44'))))] [(Blk.mk Bool.false (Body.fl FloatKind.f32 b0)), (Blk.mk Bool.false (Body.fl FloatKind.f32 b1)), (Blk.mk Bool.false (Body.fl FloatKind.f32 b2)), (Blk.mk Bool.true (Body.cells [(At.vw 0 0 q1e 1), (At.vw 1 0 q1t 1), (At.vw 2 0 q1u 1)]))])) (fun _ => K Ex.ret (St.mk [(2, (AV.v (TV.one (At.bool Bool.false))))] [(Blk.mk Bool.false (Body.fl FloatKind.f32 b0)), (Blk.mk Bool.false (Body.fl FloatKind.f32 b1)), (Blk.mk Bool.false (Body.fl FloatKind.f32 b2))])) (fun c0_ c1_ => K (Ex.exit 0) (St.mk [(1, (AV.v (TV.one (At.ptr 3 0 3)))), (42, (AV.v (TV.one (At.vw 0 0 q2g 1)))), (43, (AV.v (TV.one (At.int IntKind.i64 t43)))), (44, (AV.v (TV.one (At.int IntKind.i64 c0_)))), (45, (AV.v (TV.one (At.bool c1_))))] [(Blk.mk Bool.false (Body.fl FloatKind.f32 b0)), (Blk.mk Bool.false (Body.fl FloatKind.f32 b1)), (Blk.mk Bool.false (Body.fl FloatKind.f32 b2)), (Blk.mk Bool.true (Body.cells [(At.vw 0 0 q1e 1), (At.vw 1 0 q1t 1), (At.vw 2 0 q1u 1)]))])) := by kernel_rfl
theorem zot (q2g : Nat) (t43 : Int) (b0 : List Nat) (b1 : List Nat) (b2 : List Nat) (q1e : Nat) (q1t : Nat) (q1u : Nat) : ∀ (n : Nat) (t44 : Int), iter 57 5 3 (evC (R := Ex × St) Γ9 (evFn Γ9 8 8) 57 3 fi57.nt fi57.live fi57.nl 8 (findL 5 (loopsIn fi57.code))) n (St.mk [(1, (AV.v (TV.one (At.ptr 3 0 3)))), (42, (AV.v (TV.one (At.vw 0 0 q2g 1)))), (43, (AV.v (TV.one (At.int IntKind.i64 t43)))), (44, (AV.v (TV.one (At.int IntKind.i64 t44))))] [(Blk.mk Bool.false (Body.fl FloatKind.f32 b0)), (Blk.mk Bool.false (Body.fl FloatKind.f32 b1)), (Blk.mk Bool.false (Body.fl FloatKind.f32 b2)), (Blk.mk Bool.true (Body.cells [(At.vw 0 0 q1e 1), (At.vw 1 0 q1t 1), (At.vw 2 0 q1u 1)]))]) (fun e st => some (e, st)) = (zad q2g t43 b0 b1 b2 q1e q1t q1u) (z44 q2g t43 b0 q1e n t44) := by
  intro n
  induction n with
  | zero => intros; rfl
  | succ n ih =>
    intro t44
    refine Eq.trans (iter_succ ..) (Eq.trans (zoo q2g t43 t44 b0 b1 b2 q1e q1t q1u (nextK 57 5 3 (evC (R := Ex × St) Γ9 (evFn Γ9 8 8) 57 3 fi57.nt fi57.live fi57.nl 8 (findL 5 (loopsIn fi57.code))) n (fun e st => some (e, st)))) (Eq.trans ?_ (zml (zad q2g t43 b0 b1 b2 q1e q1t q1u) rfl q2g t43 b0 q1e t44 (fun t44' => z44 q2g t43 b0 q1e n t44') (fun _ => some (Sum.inl ())) (fun c0_ c1_ => some (Sum.inr (c0_, c1_))))))
    exact congrArg (fun kn_ => z6u q2g t43 b0 q1e t44 kn_ (fun _ => (zad q2g t43 b0 b1 b2 q1e q1t q1u) (some (Sum.inl ()))) (fun c0_ c1_ => (zad q2g t43 b0 b1 b2 q1e q1t q1u) (some (Sum.inr (c0_, c1_))))) (funext fun t44' => ih t44')
theorem z3l : LoopOne Try.prog fnTab 57 5 z3i := lp_of (Γ := Γ9) tyTab_ok (FnL.ok fnTab_ok _ _) (LpL.ok lt9_ok) (SumL.ok tb9_ok _) mixed (fi := fi57) (by kernel_rfl) (by kernel_rfl) (by
  intro lo st out hp
  unfold z3i at hp
  split at hp
  · rename_i q2g t43 t44 b0 b1 b2 q1e q1t q1u
    injection hp with hp
    injection hp with h1 h2
    subst h2
    exact ⟨8, 8, big, Eq.trans (zot q2g t43 b0 b1 b2 q1e q1t q1u big t44) (zog q2g t43 b0 b1 b2 q1e q1t q1u (z44 q2g t43 b0 q1e big t44) h1)⟩
  · cases hp)
noncomputable def tb10 : List (Nat × (List PT → Option (Bool × AV × List Blk))) := [(156, z0w), (181, z1d), (182, z21), (189, z22), (26, z2q), (55, z28), (84, z11), (89, z40), (102, z6a), (112, z1x), (115, z2b), (123, z2p), (126, z4t), (157, z69), (160, z1y), (162, z4p), (167, z2a), (175, z3z), (176, z1o), (187, z29), (74, z3n), (83, z10), (85, z4e), (90, z3o), (103, z4d), (111, z2l), (116, z32), (117, z4f), (138, z30), (148, z1v), (150, z1b), (169, z2m), (185, z31), (52, z41), (154, z2k), (158, z5u), (166, z2j), (104, z2w), (119, z39), (120, z2s), (168, z2x), (188, z2h), (54, z58), (121, z3p), (122, z38), (165, z56), (178, z0b), (178, z07), (184, z6b), (56, z5n), (170, z6k), (178, z0h), (105, z7k), (124, z4s), (147, z0d), (147, z0a), (147, z0g), (198, z65), (77, z5e), (88, z47), (97, z63), (109, z5d), (161, z7d), (79, z5b), (86, z3e), (113, z5c), (130, z7o), (146, z3j), (193, z72)]
noncomputable def lt10 : List ((Nat × Nat) × (Nat → St → Option (Bool × LO))) := [((166, 3), z19), ((120, 3), z1i), ((168, 4), z1g), ((188, 17), z14), ((122, 4), z1q), ((178, 2), z04), ((178, 2), z02), ((184, 5), z3r), ((178, 2), z06), ((105, 9), z5m), ((161, 6), z5l), ((178, 2), z0i), ((193, 4), z5f), ((57, 5), z3i)]
noncomputable def Γ10 : Ctx := ⟨tyTab, fnTab, tblSum tb10, tblLp lt10⟩
end Go.Proofs.Ytdhmognknjpemaa
