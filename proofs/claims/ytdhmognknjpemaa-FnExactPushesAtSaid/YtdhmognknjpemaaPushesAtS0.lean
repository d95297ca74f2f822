/-
  What functions answer: that the evaluator answers so. Printed by a program.
-/
import Derived.Test.YtdhmognknjpemaaPushesAtC
set_option linter.unusedVariables false
set_option linter.unusedSimpArgs false
set_option maxRecDepth 100000
set_option maxHeartbeats 4000000
namespace Go.Proofs.Ytdhmognknjpemaa
open Go Go.Rf
def z0w : List PT → Option (Bool × AV × List Blk)
  | [.one (.s (.int .u64 x))] => some (okU .f64 x, A1 (.flt .f64 (cnI .f64 x)), [])
  | _ => none
theorem z0r : SumOne Try.prog 156 z0w := by
  intro pts v news hp w vals hv
  unfold z0w at hp
  split at hp
  · rename_i x
    injection hp with hp
    injection hp with h1 hp
    injection hp with h2 h3
    subst h2
    subst h3
    obtain ⟨l, hl⟩ : ∃ l, l = vals.toList := ⟨_, rfl⟩
    rw [← hl] at hv
    cases hv with
    | cons a1 a2 =>
      cases a2
      have hb1 : _ = Value.int .u64 x := a1
      subst hb1
      rename_i hx
      have hvals : vals = #[.int .u64 x] := by rw [← Array.toList_inj, ← hl]
      subst hvals
      have hw := okU_lt h1
      refine .inl ⟨_, w, by (simp only [callFunc, Sem.run_bind, run_program, Result.andThen_ok, Try.func156]; rfl), NoB, ⟨⟨(fun t b' h => by cases t <;> cases h), (fun t t' b1 b2 x x' _ h => by cases t <;> cases h)⟩, (fun t x h => by cases h), Fr.refl _ w⟩, ⟨_, rfl, hw, rfl⟩⟩
  · cases hp
def z1b : List PT → Option (Bool × AV × List Blk)
  | [.one (.s (.flt .f64 x))] => some (bnot (nanQ .f64 x), A1 (.int .u64 x), [])
  | _ => none
theorem z15 : SumOne Try.prog 181 z1b := by
  intro pts v news hp w vals hv
  unfold z1b at hp
  split at hp
  · rename_i x
    injection hp with hp
    injection hp with h1 hp
    injection hp with h2 h3
    subst h2
    subst h3
    obtain ⟨l, hl⟩ : ∃ l, l = vals.toList := ⟨_, rfl⟩
    rw [← hl] at hv
    cases hv with
    | cons a1 a2 =>
      cases a2
      obtain ⟨b, hb1, hb2, hb3⟩ := a1
      subst hb1
      rename_i hx
      have hvals : vals = #[.float .f64 b] := by rw [← Array.toList_inj, ← hl]
      subst hvals
      have hn : nanB .f64 b = false := by rw [← nanB_cn, hb3]; simpa [bnot, nanQ] using h1
      rw [cn_of_not hn] at hb3
      subst hb3
      refine .inl ⟨_, w, by (simp only [callFunc, Sem.run_bind, run_program, Result.andThen_ok, Try.func181]; rfl), NoB, ⟨⟨(fun t b' h => by cases t <;> cases h), (fun t t' b1 b2 x x' _ h => by cases t <;> cases h)⟩, (fun t x h => by cases h), Fr.refl _ w⟩, rfl⟩
  · cases hp
def z1v : List PT → Option (Bool × AV × List Blk)
  | [.one (.s (.flt .f64 x))] => some (bnot (nanQ .f64 x), A1 (.flt .f64 (fint .zero x)), [])
  | _ => none
theorem z1k : SumOne Try.prog 182 z1v := by
  intro pts v news hp w vals hv
  unfold z1v at hp
  split at hp
  · rename_i x
    injection hp with hp
    injection hp with h1 hp
    injection hp with h2 h3
    subst h2
    subst h3
    obtain ⟨l, hl⟩ : ∃ l, l = vals.toList := ⟨_, rfl⟩
    rw [← hl] at hv
    cases hv with
    | cons a1 a2 =>
      cases a2
      obtain ⟨b, hb1, hb2, hb3⟩ := a1
      subst hb1
      rename_i hx
      have hvals : vals = #[.float .f64 b] := by rw [← Array.toList_inj, ← hl]
      subst hvals
      have hn : nanB .f64 b = false := by rw [← nanB_cn, hb3]; simpa [bnot, nanQ] using h1
      rw [cn_of_not hn] at hb3
      subst hb3
      refine .inl ⟨_, w, by (simp only [callFunc, Sem.run_bind, run_program, Result.andThen_ok, Try.func182]; change (do let v ← Extern.MathFloor.toIntegral "math.archTrunc" .zero #[.float .f64 b]; pure (.value v) : Sem Next).run Try.prog w = _; rw [Sem.run_bind, run_fint hn]; rfl), NoB, ⟨⟨(fun t b' h => by cases t <;> cases h), (fun t t' b1 b2 x x' _ h => by cases t <;> cases h)⟩, (fun t x h => by cases h), Fr.refl _ w⟩, fint_rel hn⟩
  · cases hp
def z1y : List PT → Option (Bool × AV × List Blk)
  | [.one (.s (.flt .f64 x))] => some (bnot (nanQ .f64 x), A1 (.flt .f64 (fint .down x)), [])
  | _ => none
theorem z1j : SumOne Try.prog 189 z1y := by
  intro pts v news hp w vals hv
  unfold z1y at hp
  split at hp
  · rename_i x
    injection hp with hp
    injection hp with h1 hp
    injection hp with h2 h3
    subst h2
    subst h3
    obtain ⟨l, hl⟩ : ∃ l, l = vals.toList := ⟨_, rfl⟩
    rw [← hl] at hv
    cases hv with
    | cons a1 a2 =>
      cases a2
      obtain ⟨b, hb1, hb2, hb3⟩ := a1
      subst hb1
      rename_i hx
      have hvals : vals = #[.float .f64 b] := by rw [← Array.toList_inj, ← hl]
      subst hvals
      have hn : nanB .f64 b = false := by rw [← nanB_cn, hb3]; simpa [bnot, nanQ] using h1
      rw [cn_of_not hn] at hb3
      subst hb3
      refine .inl ⟨_, w, by (simp only [callFunc, Sem.run_bind, run_program, Result.andThen_ok, Try.func189]; change (do let v ← Extern.MathFloor.toIntegral "math.archFloor" .down #[.float .f64 b]; pure (.value v) : Sem Next).run Try.prog w = _; rw [Sem.run_bind, run_fint hn]; rfl), NoB, ⟨⟨(fun t b' h => by cases t <;> cases h), (fun t t' b1 b2 x x' _ h => by cases t <;> cases h)⟩, (fun t x h => by cases h), Fr.refl _ w⟩, fint_rel hn⟩
  · cases hp
noncomputable def tb0 : List (Nat × (List PT → Option (Bool × AV × List Blk))) := [(156, z0w), (181, z1b), (182, z1v), (189, z1y)]
noncomputable def lt0 : List ((Nat × Nat) × (Nat → St → Option (Bool × LO))) := []
noncomputable def Γ0 : Ctx := ⟨tyTab, fnTab, tblSum tb0, tblLp lt0⟩
theorem tb0_ok : SumL Try.prog tb0 := SumL.cons z0r (SumL.cons z15 (SumL.cons z1k (SumL.cons z1j (SumL.nil))))
theorem lt0_ok : LpL Try.prog fnTab lt0 := LpL.nil
noncomputable def z2n : List PT → Option (Bool × AV × List Blk)
  | [.one (.s (.flt .f32 x))] => some ((z71 x), ((AV.v (TV.one (At.bool (z6m x)))), []))
  | _ => none
def zkm (x : Nat) : Option (Bool) → Option (AV × List Blk)
  | some r => some ((AV.v (TV.one (At.bool r))), [])
  | none => none
theorem zqp (x : Nat) : evFn Γ0 8 8 26 (impTs 0 [.one (.s (.flt .f32 x))]).1 (impTs 0 [.one (.s (.flt .f32 x))]).2 (expo (impTs 0 [.one (.s (.flt .f32 x))]).2.length) = ze3 x (fun c0_ => some ((AV.v (TV.one (At.bool c0_))), [])) := by kernel_rfl
theorem z22 : SumOne Try.prog 26 z2n := sum_of (Γ := Γ0) (fuel := 8) (d := 8) tyTab_ok (FnL.ok fnTab_ok _ _) (LpL.ok lt0_ok) (SumL.ok tb0_ok _) mixed (by
  intro pts v news hp hc
  clear hc
  unfold z2n at hp
  split at hp
  · rename_i x
    exact Eq.trans (Eq.trans (zqp x) (znh (zkm x) rfl x (fun c0_ => some c0_))) (fin_out (o := (zkm x)) (x := zel x) (d := default) (V := fun r => ((AV.v (TV.one (At.bool r))), [])) (fun r => rfl) hp)
  · cases hp)
noncomputable def z24 : List PT → Option (Bool × AV × List Blk)
  | [.one (.s (.flt .f64 a)), .one (.s (.flt .f64 b))] => some ((z78 a b), ((AV.v (TV.one (At.bool (z6q a b)))), []))
  | _ => none
def zjz (a : Nat) (b : Nat) : Option (Bool) → Option (AV × List Blk)
  | some r => some ((AV.v (TV.one (At.bool r))), [])
  | none => none
theorem zpz (a : Nat) (b : Nat) : evFn Γ0 8 8 55 (impTs 0 [.one (.s (.flt .f64 a)), .one (.s (.flt .f64 b))]).1 (impTs 0 [.one (.s (.flt .f64 a)), .one (.s (.flt .f64 b))]).2 (expo (impTs 0 [.one (.s (.flt .f64 a)), .one (.s (.flt .f64 b))]).2.length) = zau a b (fun c0_ => some ((AV.v (TV.one (At.bool c0_))), [])) := by kernel_rfl
theorem z1p : SumOne Try.prog 55 z24 := sum_of (Γ := Γ0) (fuel := 8) (d := 8) tyTab_ok (FnL.ok fnTab_ok _ _) (LpL.ok lt0_ok) (SumL.ok tb0_ok _) mixed (by
  intro pts v news hp hc
  clear hc
  unfold z24 at hp
  split at hp
  · rename_i a b
    exact Eq.trans (Eq.trans (zpz a b) (zmk (zjz a b) rfl a b (fun c0_ => some c0_))) (fin_out (o := (zjz a b)) (x := zbc a b) (d := default) (V := fun r => ((AV.v (TV.one (At.bool r))), [])) (fun r => rfl) hp)
  · cases hp)
noncomputable def z3q : List PT → Option (Bool × AV × List Blk)
  | [.one (.s (.int .i64 n_)), .one (.s (.int .i64 low)), .one (.s (.int .i64 q23))] => some ((zgu n_ low q23), ((AV.v (TV.one (At.bool (zfs n_ low q23)))), []))
  | _ => none
def zmz (n_ : Int) (low : Int) (q23 : Int) : Option (Bool) → Option (AV × List Blk)
  | some r => some ((AV.v (TV.one (At.bool r))), [])
  | none => none
theorem zre (n_ : Int) (low : Int) (q23 : Int) : evFn Γ0 8 8 89 (impTs 0 [.one (.s (.int .i64 n_)), .one (.s (.int .i64 low)), .one (.s (.int .i64 q23))]).1 (impTs 0 [.one (.s (.int .i64 n_)), .one (.s (.int .i64 low)), .one (.s (.int .i64 q23))]).2 (expo (impTs 0 [.one (.s (.int .i64 n_)), .one (.s (.int .i64 low)), .one (.s (.int .i64 q23))]).2.length) = zds n_ low q23 (fun c0_ => some ((AV.v (TV.one (At.bool c0_))), [])) := by kernel_rfl
theorem z2t : SumOne Try.prog 89 z3q := sum_of (Γ := Γ0) (fuel := 8) (d := 8) tyTab_ok (FnL.ok fnTab_ok _ _) (LpL.ok lt0_ok) (SumL.ok tb0_ok _) mixed (by
  intro pts v news hp hc
  clear hc
  unfold z3q at hp
  split at hp
  · rename_i n_ low q23
    exact Eq.trans (Eq.trans (zre n_ low q23) (zp1 (zmz n_ low q23) rfl n_ low q23 (fun c0_ => some c0_))) (fin_out (o := (zmz n_ low q23)) (x := zdt n_ low q23) (d := default) (V := fun r => ((AV.v (TV.one (At.bool r))), [])) (fun r => rfl) hp)
  · cases hp)
noncomputable def z5w : List PT → Option (Bool × AV × List Blk)
  | [] => some (zio, ((AV.v (TV.one (At.flt FloatKind.f64 zgz))), []))
  | _ => none
def zqj  : Option (Nat) → Option (AV × List Blk)
  | some r => some ((AV.v (TV.one (At.flt FloatKind.f64 r))), [])
  | none => none
theorem zrr  : evFn Γ0 8 8 102 (impTs 0 []).1 (impTs 0 []).2 (expo (impTs 0 []).2.length) = zhy (fun c0_ => some ((AV.v (TV.one (At.flt FloatKind.f64 c0_))), [])) := by kernel_rfl
theorem z4n : SumOne Try.prog 102 z5w := sum_of (Γ := Γ0) (fuel := 8) (d := 8) tyTab_ok (FnL.ok fnTab_ok _ _) (LpL.ok lt0_ok) (SumL.ok tb0_ok _) mixed (by
  intro pts v news hp hc
  clear hc
  unfold z5w at hp
  split at hp
  · exact Eq.trans (Eq.trans (zrr) (zqw zqj rfl  (fun c0_ => some c0_))) (fin_out (o := zqj) (x := zi3) (d := default) (V := fun r => ((AV.v (TV.one (At.flt FloatKind.f64 r))), [])) (fun r => rfl) hp)
  · cases hp)
noncomputable def z1u : List PT → Option (Bool × AV × List Blk)
  | [.one (.row 3 a_n (.fl .f32 a)), .one (.s (.int .i64 q1s))] => some ((zfh a_n a q1s), ((AV.v (TV.one (At.int IntKind.i64 (zbh a_n a q1s)))), []))
  | _ => none
def zjl (a_n : Nat) (a : List Nat) (q1s : Int) : Option (Int) → Option (AV × List Blk)
  | some r => some ((AV.v (TV.one (At.int IntKind.i64 r))), [])
  | none => none
theorem zoq (a_n : Nat) (a : List Nat) (q1s : Int) : evFn Γ0 8 8 112 (impTs 0 [.one (.row 3 a_n (.fl .f32 a)), .one (.s (.int .i64 q1s))]).1 (impTs 0 [.one (.row 3 a_n (.fl .f32 a)), .one (.s (.int .i64 q1s))]).2 (expo (impTs 0 [.one (.row 3 a_n (.fl .f32 a)), .one (.s (.int .i64 q1s))]).2.length) = zab a_n a q1s (fun c0_ => some ((AV.v (TV.one (At.int IntKind.i64 c0_))), [])) := by kernel_rfl
theorem z1g : SumOne Try.prog 112 z1u := sum_of (Γ := Γ0) (fuel := 8) (d := 8) tyTab_ok (FnL.ok fnTab_ok _ _) (LpL.ok lt0_ok) (SumL.ok tb0_ok _) mixed (by
  intro pts v news hp hc
  clear hc
  unfold z1u at hp
  split at hp
  · rename_i a_n a q1s
    exact Eq.trans (Eq.trans (zoq a_n a q1s) (zlr (zjl a_n a q1s) rfl a_n a q1s (fun c0_ => some c0_))) (fin_out (o := (zjl a_n a q1s)) (x := zaa a_n a q1s) (d := default) (V := fun r => ((AV.v (TV.one (At.int IntKind.i64 r))), [])) (fun r => rfl) hp)
  · cases hp)
noncomputable def z32 : List PT → Option (Bool × AV × List Blk)
  | [.one (.s (.flt .f32 x))] => some ((zi0 x), ((AV.v (TV.one (At.bool (zh9 x)))), []))
  | _ => none
def zlu (x : Nat) : Option (Bool) → Option (AV × List Blk)
  | some r => some ((AV.v (TV.one (At.bool r))), [])
  | none => none
theorem zqz (x : Nat) : evFn Γ0 8 8 114 (impTs 0 [.one (.s (.flt .f32 x))]).1 (impTs 0 [.one (.s (.flt .f32 x))]).2 (expo (impTs 0 [.one (.s (.flt .f32 x))]).2.length) = zc9 x (fun c0_ => some ((AV.v (TV.one (At.bool c0_))), [])) := by kernel_rfl
theorem z2h : SumOne Try.prog 114 z32 := sum_of (Γ := Γ0) (fuel := 8) (d := 8) tyTab_ok (FnL.ok fnTab_ok _ _) (LpL.ok lt0_ok) (SumL.ok tb0_ok _) mixed (by
  intro pts v news hp hc
  clear hc
  unfold z32 at hp
  split at hp
  · rename_i x
    exact Eq.trans (Eq.trans (zqz x) (zo9 (zlu x) rfl x (fun c0_ => some c0_))) (fin_out (o := (zlu x)) (x := zco x) (d := default) (V := fun r => ((AV.v (TV.one (At.bool r))), [])) (fun r => rfl) hp)
  · cases hp)
noncomputable def z27 : List PT → Option (Bool × AV × List Blk)
  | [.one (.s (.flt .f32 x))] => some ((z51 x), ((AV.v (TV.one (At.bool (z4b x)))), []))
  | _ => none
def zjn (x : Nat) : Option (Bool) → Option (AV × List Blk)
  | some r => some ((AV.v (TV.one (At.bool r))), [])
  | none => none
theorem zpd (x : Nat) : evFn Γ0 8 8 115 (impTs 0 [.one (.s (.flt .f32 x))]).1 (impTs 0 [.one (.s (.flt .f32 x))]).2 (expo (impTs 0 [.one (.s (.flt .f32 x))]).2.length) = zcw x (fun c0_ => some ((AV.v (TV.one (At.bool c0_))), [])) := by kernel_rfl
theorem z1n : SumOne Try.prog 115 z27 := sum_of (Γ := Γ0) (fuel := 8) (d := 8) tyTab_ok (FnL.ok fnTab_ok _ _) (LpL.ok lt0_ok) (SumL.ok tb0_ok _) mixed (by
  intro pts v news hp hc
  clear hc
  unfold z27 at hp
  split at hp
  · rename_i x
    exact Eq.trans (Eq.trans (zpd x) (zmp (zjn x) rfl x (fun c0_ => some c0_))) (fin_out (o := (zjn x)) (x := zcq x) (d := default) (V := fun r => ((AV.v (TV.one (At.bool r))), [])) (fun r => rfl) hp)
  · cases hp)
noncomputable def z2l : List PT → Option (Bool × AV × List Blk)
  | [.one (.s (.flt .f32 x)), .one (.s (.flt .f32 low)), .one (.s (.flt .f32 q23))] => some ((zed x low q23), ((AV.v (TV.one (At.bool (zcy x low q23)))), []))
  | _ => none
def zko (x : Nat) (low : Nat) (q23 : Nat) : Option (Bool) → Option (AV × List Blk)
  | some r => some ((AV.v (TV.one (At.bool r))), [])
  | none => none
theorem zqg (x : Nat) (low : Nat) (q23 : Nat) : evFn Γ0 8 8 123 (impTs 0 [.one (.s (.flt .f32 x)), .one (.s (.flt .f32 low)), .one (.s (.flt .f32 q23))]).1 (impTs 0 [.one (.s (.flt .f32 x)), .one (.s (.flt .f32 low)), .one (.s (.flt .f32 q23))]).2 (expo (impTs 0 [.one (.s (.flt .f32 x)), .one (.s (.flt .f32 low)), .one (.s (.flt .f32 q23))]).2.length) = zbn x low q23 (fun c0_ => some ((AV.v (TV.one (At.bool c0_))), [])) := by kernel_rfl
theorem z23 : SumOne Try.prog 123 z2l := sum_of (Γ := Γ0) (fuel := 8) (d := 8) tyTab_ok (FnL.ok fnTab_ok _ _) (LpL.ok lt0_ok) (SumL.ok tb0_ok _) mixed (by
  intro pts v news hp hc
  clear hc
  unfold z2l at hp
  split at hp
  · rename_i x low q23
    exact Eq.trans (Eq.trans (zqg x low q23) (znf (zko x low q23) rfl x low q23 (fun c0_ => some c0_))) (fin_out (o := (zko x low q23)) (x := zbt x low q23) (d := default) (V := fun r => ((AV.v (TV.one (At.bool r))), [])) (fun r => rfl) hp)
  · cases hp)
noncomputable def z4e : List PT → Option (Bool × AV × List Blk)
  | [.one (.s (.flt .f32 a)), .one (.s (.flt .f32 b)), .one (.s (.flt .f32 q2o))] => some ((zhs a b q2o), ((AV.v (TV.one (At.flt FloatKind.f32 (zgx a b q2o)))), []))
  | _ => none
def zoc (a : Nat) (b : Nat) (q2o : Nat) : Option (Nat) → Option (AV × List Blk)
  | some r => some ((AV.v (TV.one (At.flt FloatKind.f32 r))), [])
  | none => none
theorem zrl (a : Nat) (b : Nat) (q2o : Nat) : evFn Γ0 8 8 126 (impTs 0 [.one (.s (.flt .f32 a)), .one (.s (.flt .f32 b)), .one (.s (.flt .f32 q2o))]).1 (impTs 0 [.one (.s (.flt .f32 a)), .one (.s (.flt .f32 b)), .one (.s (.flt .f32 q2o))]).2 (expo (impTs 0 [.one (.s (.flt .f32 a)), .one (.s (.flt .f32 b)), .one (.s (.flt .f32 q2o))]).2.length) = zhr a b q2o (fun c0_ => some ((AV.v (TV.one (At.flt FloatKind.f32 c0_))), [])) := by kernel_rfl
theorem z3b : SumOne Try.prog 126 z4e := sum_of (Γ := Γ0) (fuel := 8) (d := 8) tyTab_ok (FnL.ok fnTab_ok _ _) (LpL.ok lt0_ok) (SumL.ok tb0_ok _) mixed (by
  intro pts v news hp hc
  clear hc
  unfold z4e at hp
  split at hp
  · rename_i a b q2o
    exact Eq.trans (Eq.trans (zrl a b q2o) (zpw (zoc a b q2o) rfl a b q2o (fun c0_ => some c0_))) (fin_out (o := (zoc a b q2o)) (x := zhe a b q2o) (d := default) (V := fun r => ((AV.v (TV.one (At.flt FloatKind.f32 r))), [])) (fun r => rfl) hp)
  · cases hp)
noncomputable def z5u : List PT → Option (Bool × AV × List Blk)
  | [.one (.s (.flt .f64 x))] => some ((zjm x), ((AV.v (TV.one (At.flt FloatKind.f64 (zix x)))), []))
  | _ => none
def zqe (x : Nat) : Option (Nat) → Option (AV × List Blk)
  | some r => some ((AV.v (TV.one (At.flt FloatKind.f64 r))), [])
  | none => none
theorem zrq (x : Nat) : evFn Γ0 8 8 157 (impTs 0 [.one (.s (.flt .f64 x))]).1 (impTs 0 [.one (.s (.flt .f64 x))]).2 (expo (impTs 0 [.one (.s (.flt .f64 x))]).2.length) = zhz x (fun c0_ => some ((AV.v (TV.one (At.flt FloatKind.f64 c0_))), [])) := by kernel_rfl
theorem z4o : SumOne Try.prog 157 z5u := sum_of (Γ := Γ0) (fuel := 8) (d := 8) tyTab_ok (FnL.ok fnTab_ok _ _) (LpL.ok lt0_ok) (SumL.ok tb0_ok _) mixed (by
  intro pts v news hp hc
  clear hc
  unfold z5u at hp
  split at hp
  · rename_i x
    exact Eq.trans (Eq.trans (zrq x) (zr1 (zqe x) rfl x (fun c0_ => some c0_))) (fin_out (o := (zqe x)) (x := zi4 x) (d := default) (V := fun r => ((AV.v (TV.one (At.flt FloatKind.f64 r))), [])) (fun r => rfl) hp)
  · cases hp)
noncomputable def z1t : List PT → Option (Bool × AV × List Blk)
  | [.one (.row 1 a_n (.fl .f32 a)), .one (.s (.int .i64 q1s))] => some ((zac a_n a q1s), ((AV.v (TV.one (At.int IntKind.i64 (z4c a_n a q1s)))), []))
  | _ => none
def zj7 (a_n : Nat) (a : List Nat) (q1s : Int) : Option (Int) → Option (AV × List Blk)
  | some r => some ((AV.v (TV.one (At.int IntKind.i64 r))), [])
  | none => none
theorem zop (a_n : Nat) (a : List Nat) (q1s : Int) : evFn Γ0 8 8 160 (impTs 0 [.one (.row 1 a_n (.fl .f32 a)), .one (.s (.int .i64 q1s))]).1 (impTs 0 [.one (.row 1 a_n (.fl .f32 a)), .one (.s (.int .i64 q1s))]).2 (expo (impTs 0 [.one (.row 1 a_n (.fl .f32 a)), .one (.s (.int .i64 q1s))]).2.length) = za5 a_n a q1s (fun c0_ => some ((AV.v (TV.one (At.int IntKind.i64 c0_))), [])) := by kernel_rfl
theorem z1d : SumOne Try.prog 160 z1t := sum_of (Γ := Γ0) (fuel := 8) (d := 8) tyTab_ok (FnL.ok fnTab_ok _ _) (LpL.ok lt0_ok) (SumL.ok tb0_ok _) mixed (by
  intro pts v news hp hc
  clear hc
  unfold z1t at hp
  split at hp
  · rename_i a_n a q1s
    exact Eq.trans (Eq.trans (zop a_n a q1s) (zm1 (zj7 a_n a q1s) rfl a_n a q1s (fun c0_ => some c0_))) (fin_out (o := (zj7 a_n a q1s)) (x := za8 a_n a q1s) (d := default) (V := fun r => ((AV.v (TV.one (At.int IntKind.i64 r))), [])) (fun r => rfl) hp)
  · cases hp)
noncomputable def z4g : List PT → Option (Bool × AV × List Blk)
  | [.one (.s (.int .i64 n_)), .one (.s (.int .i64 low)), .one (.s (.int .i64 q23))] => some ((zhq n_ low q23), ((AV.v (TV.one (At.bool (zgv n_ low q23)))), []))
  | _ => none
def znq (n_ : Int) (low : Int) (q23 : Int) : Option (Bool) → Option (AV × List Blk)
  | some r => some ((AV.v (TV.one (At.bool r))), [])
  | none => none
theorem zrm (n_ : Int) (low : Int) (q23 : Int) : evFn Γ0 8 8 162 (impTs 0 [.one (.s (.int .i64 n_)), .one (.s (.int .i64 low)), .one (.s (.int .i64 q23))]).1 (impTs 0 [.one (.s (.int .i64 n_)), .one (.s (.int .i64 low)), .one (.s (.int .i64 q23))]).2 (expo (impTs 0 [.one (.s (.int .i64 n_)), .one (.s (.int .i64 low)), .one (.s (.int .i64 q23))]).2.length) = zft n_ low q23 (fun c0_ => some ((AV.v (TV.one (At.bool c0_))), [])) := by kernel_rfl
theorem z38 : SumOne Try.prog 162 z4g := sum_of (Γ := Γ0) (fuel := 8) (d := 8) tyTab_ok (FnL.ok fnTab_ok _ _) (LpL.ok lt0_ok) (SumL.ok tb0_ok _) mixed (by
  intro pts v news hp hc
  clear hc
  unfold z4g at hp
  split at hp
  · rename_i n_ low q23
    exact Eq.trans (Eq.trans (zrm n_ low q23) (zps (znq n_ low q23) rfl n_ low q23 (fun c0_ => some c0_))) (fin_out (o := (znq n_ low q23)) (x := zfn n_ low q23) (d := default) (V := fun r => ((AV.v (TV.one (At.bool r))), [])) (fun r => rfl) hp)
  · cases hp)
noncomputable def z25 : List PT → Option (Bool × AV × List Blk)
  | [.agg [.s (.flt .f32 q1z), .s (.flt .f32 q21), .s (.flt .f32 q20)]] => some ((zij q1z q21 q20), ((AV.v (TV.agg [(At.flt FloatKind.f32 q1z), (At.flt FloatKind.f32 q21), (At.flt FloatKind.f32 q20)])), []))
  | _ => none
def zjr (q1z : Nat) (q21 : Nat) (q20 : Nat) : Option (Unit) → Option (AV × List Blk)
  | some r => some ((AV.v (TV.agg [(At.flt FloatKind.f32 q1z), (At.flt FloatKind.f32 q21), (At.flt FloatKind.f32 q20)])), [])
  | none => none
theorem zpo (q1z : Nat) (q21 : Nat) (q20 : Nat) : evFn Γ0 8 8 167 (impTs 0 [.agg [.s (.flt .f32 q1z), .s (.flt .f32 q21), .s (.flt .f32 q20)]]).1 (impTs 0 [.agg [.s (.flt .f32 q1z), .s (.flt .f32 q21), .s (.flt .f32 q20)]]).2 (expo (impTs 0 [.agg [.s (.flt .f32 q1z), .s (.flt .f32 q21), .s (.flt .f32 q20)]]).2.length) = zd1 q1z q21 q20 (fun _ => some ((AV.v (TV.agg [(At.flt FloatKind.f32 q1z), (At.flt FloatKind.f32 q21), (At.flt FloatKind.f32 q20)])), [])) := by kernel_rfl
theorem z1o : SumOne Try.prog 167 z25 := sum_of (Γ := Γ0) (fuel := 8) (d := 8) tyTab_ok (FnL.ok fnTab_ok _ _) (LpL.ok lt0_ok) (SumL.ok tb0_ok _) mixed (by
  intro pts v news hp hc
  clear hc
  unfold z25 at hp
  split at hp
  · rename_i q1z q21 q20
    exact Eq.trans (Eq.trans (zpo q1z q21 q20) (zmw (zjr q1z q21 q20) rfl q1z q21 q20 (fun _ => some ()))) (fin_out (o := (zjr q1z q21 q20)) (x := zjs q1z q21 q20) (d := default) (V := fun r => ((AV.v (TV.agg [(At.flt FloatKind.f32 q1z), (At.flt FloatKind.f32 q21), (At.flt FloatKind.f32 q20)])), [])) (fun r => rfl) hp)
  · cases hp)
noncomputable def z26 : List PT → Option (Bool × AV × List Blk)
  | [.one (.s (.flt .f64 x))] => some ((zcu x), ((AV.v (TV.one (At.flt FloatKind.f32 (zae x)))), []))
  | _ => none
def zk8 (x : Nat) : Option (Nat) → Option (AV × List Blk)
  | some r => some ((AV.v (TV.one (At.flt FloatKind.f32 r))), [])
  | none => none
theorem zph (x : Nat) : evFn Γ0 8 8 187 (impTs 0 [.one (.s (.flt .f64 x))]).1 (impTs 0 [.one (.s (.flt .f64 x))]).2 (expo (impTs 0 [.one (.s (.flt .f64 x))]).2.length) = zaz x (fun c0_ => some ((AV.v (TV.one (At.flt FloatKind.f32 c0_))), [])) := by kernel_rfl
theorem z1q : SumOne Try.prog 187 z26 := sum_of (Γ := Γ0) (fuel := 8) (d := 8) tyTab_ok (FnL.ok fnTab_ok _ _) (LpL.ok lt0_ok) (SumL.ok tb0_ok _) mixed (by
  intro pts v news hp hc
  clear hc
  unfold z26 at hp
  split at hp
  · rename_i x
    exact Eq.trans (Eq.trans (zph x) (zmn (zk8 x) rfl x (fun c0_ => some c0_))) (fin_out (o := (zk8 x)) (x := zax x) (d := default) (V := fun r => ((AV.v (TV.one (At.flt FloatKind.f32 r))), [])) (fun r => rfl) hp)
  · cases hp)
noncomputable def tb1 : List (Nat × (List PT → Option (Bool × AV × List Blk))) := [(156, z0w), (181, z1b), (182, z1v), (189, z1y), (26, z2n), (55, z24), (89, z3q), (102, z5w), (112, z1u), (114, z32), (115, z27), (123, z2l), (126, z4e), (157, z5u), (160, z1t), (162, z4g), (167, z25), (187, z26)]
noncomputable def lt1 : List ((Nat × Nat) × (Nat → St → Option (Bool × LO))) := []
noncomputable def Γ1 : Ctx := ⟨tyTab, fnTab, tblSum tb1, tblLp lt1⟩
theorem tb1_ok : SumL Try.prog tb1 := SumL.cons z0r (SumL.cons z15 (SumL.cons z1k (SumL.cons z1j (SumL.cons z22 (SumL.cons z1p (SumL.cons z2t (SumL.cons z4n (SumL.cons z1g (SumL.cons z2h (SumL.cons z1n (SumL.cons z23 (SumL.cons z3b (SumL.cons z4o (SumL.cons z1d (SumL.cons z38 (SumL.cons z1o (SumL.cons z1q (SumL.nil))))))))))))))))))
theorem lt1_ok : LpL Try.prog fnTab lt1 := LpL.nil
noncomputable def z0z : List PT → Option (Bool × AV × List Blk)
  | [.agg [.row 1 q09 (.fl .f32 q0d), .row 1 q0a (.fl .f32 q0e), .row 1 q0b (.fl .f32 q0f), .row 3 q0h (.fl .f32 q0k), .s (.int .i64 q0w), .s (.flt .f32 q13), .s (.flt .f32 q12)], .one (.s (.int .i64 i))] => some ((zbf q09 q0d q0a q0e q0b q0f q0h q0k q0w q13 q12 i), ((AV.v (TV.one (At.bool (zap q09 q0d q0a q0e q0b q0f q0h q0k q0w q13 q12 i)))), []))
  | _ => none
def zia (q09 : Nat) (q0d : List Nat) (q0a : Nat) (q0e : List Nat) (q0b : Nat) (q0f : List Nat) (q0h : Nat) (q0k : List Nat) (q0w : Int) (q13 : Nat) (q12 : Nat) (i : Int) : Option (Bool) → Option (AV × List Blk)
  | some r => some ((AV.v (TV.one (At.bool r))), [])
  | none => none
theorem zkt (q09 : Nat) (q0d : List Nat) (q0a : Nat) (q0e : List Nat) (q0b : Nat) (q0f : List Nat) (q0h : Nat) (q0k : List Nat) (q0w : Int) (q13 : Nat) (q12 : Nat) (i : Int) : evFn Γ1 8 8 83 (impTs 0 [.agg [.row 1 q09 (.fl .f32 q0d), .row 1 q0a (.fl .f32 q0e), .row 1 q0b (.fl .f32 q0f), .row 3 q0h (.fl .f32 q0k), .s (.int .i64 q0w), .s (.flt .f32 q13), .s (.flt .f32 q12)], .one (.s (.int .i64 i))]).1 (impTs 0 [.agg [.row 1 q09 (.fl .f32 q0d), .row 1 q0a (.fl .f32 q0e), .row 1 q0b (.fl .f32 q0f), .row 3 q0h (.fl .f32 q0k), .s (.int .i64 q0w), .s (.flt .f32 q13), .s (.flt .f32 q12)], .one (.s (.int .i64 i))]).2 (expo (impTs 0 [.agg [.row 1 q09 (.fl .f32 q0d), .row 1 q0a (.fl .f32 q0e), .row 1 q0b (.fl .f32 q0f), .row 3 q0h (.fl .f32 q0k), .s (.int .i64 q0w), .s (.flt .f32 q13), .s (.flt .f32 q12)], .one (.s (.int .i64 i))]).2.length) = z83 q09 q0d q0a q0e q0b q0f q0h q0k q0w q13 q12 i (fun c0_ => some ((AV.v (TV.one (At.bool c0_))), [])) := by kernel_rfl
theorem z0x : SumOne Try.prog 83 z0z := sum_of (Γ := Γ1) (fuel := 8) (d := 8) tyTab_ok (FnL.ok fnTab_ok _ _) (LpL.ok lt1_ok) (SumL.ok tb1_ok _) mixed (by
  intro pts v news hp hc
  clear hc
  unfold z0z at hp
  split at hp
  · rename_i q09 q0d q0a q0e q0b q0f q0h q0k q0w q13 q12 i
    exact Eq.trans (Eq.trans (zkt q09 q0d q0a q0e q0b q0f q0h q0k q0w q13 q12 i) (zj3 (zia q09 q0d q0a q0e q0b q0f q0h q0k q0w q13 q12 i) rfl q09 q0d q0a q0e q0b q0f q0h q0k q0w q13 q12 i (fun c0_ => some c0_))) (fin_out (o := (zia q09 q0d q0a q0e q0b q0f q0h q0k q0w q13 q12 i)) (x := z84 q09 q0d q0a q0e q0b q0f q0h q0k q0w q13 q12 i) (d := default) (V := fun r => ((AV.v (TV.one (At.bool r))), [])) (fun r => rfl) hp)
  · cases hp)
noncomputable def z42 : List PT → Option (Bool × AV × List Blk)
  | [.one (.s (.flt .f32 q1e))] => some ((zii q1e), ((AV.v (TV.one (At.bool (zi1 q1e)))), []))
  | _ => none
def zn4 (q1e : Nat) : Option (Bool) → Option (AV × List Blk)
  | some r => some ((AV.v (TV.one (At.bool r))), [])
  | none => none
theorem zr8 (q1e : Nat) : evFn Γ1 8 8 85 (impTs 0 [.one (.s (.flt .f32 q1e))]).1 (impTs 0 [.one (.s (.flt .f32 q1e))]).2 (expo (impTs 0 [.one (.s (.flt .f32 q1e))]).2.length) = zdu q1e (fun c0_ => some ((AV.v (TV.one (At.bool c0_))), [])) := by kernel_rfl
theorem z35 : SumOne Try.prog 85 z42 := sum_of (Γ := Γ1) (fuel := 8) (d := 8) tyTab_ok (FnL.ok fnTab_ok _ _) (LpL.ok lt1_ok) (SumL.ok tb1_ok _) mixed (by
  intro pts v news hp hc
  clear hc
  unfold z42 at hp
  split at hp
  · rename_i q1e
    exact Eq.trans (Eq.trans (zr8 q1e) (zoj (zn4 q1e) rfl q1e (fun c0_ => some c0_))) (fin_out (o := (zn4 q1e)) (x := zdr q1e) (d := default) (V := fun r => ((AV.v (TV.one (At.bool r))), [])) (fun r => rfl) hp)
  · cases hp)
noncomputable def z3e : List PT → Option (Bool × AV × List Blk)
  | [.one (.s (.flt .f32 x))] => some ((zfz x), ((AV.v (TV.one (At.bool (zej x)))), []))
  | _ => none
def zlh (x : Nat) : Option (Bool) → Option (AV × List Blk)
  | some r => some ((AV.v (TV.one (At.bool r))), [])
  | none => none
theorem zr3 (x : Nat) : evFn Γ1 8 8 90 (impTs 0 [.one (.s (.flt .f32 x))]).1 (impTs 0 [.one (.s (.flt .f32 x))]).2 (expo (impTs 0 [.one (.s (.flt .f32 x))]).2.length) = zcn x (fun c0_ => some ((AV.v (TV.one (At.bool c0_))), [])) := by kernel_rfl
theorem z2r : SumOne Try.prog 90 z3e := sum_of (Γ := Γ1) (fuel := 8) (d := 8) tyTab_ok (FnL.ok fnTab_ok _ _) (LpL.ok lt1_ok) (SumL.ok tb1_ok _) mixed (by
  intro pts v news hp hc
  clear hc
  unfold z3e at hp
  split at hp
  · rename_i x
    exact Eq.trans (Eq.trans (zr3 x) (zo7 (zlh x) rfl x (fun c0_ => some c0_))) (fin_out (o := (zlh x)) (x := zcc x) (d := default) (V := fun r => ((AV.v (TV.one (At.bool r))), [])) (fun r => rfl) hp)
  · cases hp)
noncomputable def z43 : List PT → Option (Bool × AV × List Blk)
  | [.one (.s (.flt .f64 x))] => some ((zie x), ((AV.v (TV.one (At.bool (zhu x)))), []))
  | _ => none
def zn0 (x : Nat) : Option (Bool) → Option (AV × List Blk)
  | some r => some ((AV.v (TV.one (At.bool r))), [])
  | none => none
theorem zrc (x : Nat) : evFn Γ1 8 8 103 (impTs 0 [.one (.s (.flt .f64 x))]).1 (impTs 0 [.one (.s (.flt .f64 x))]).2 (expo (impTs 0 [.one (.s (.flt .f64 x))]).2.length) = zdo x (fun c0_ => some ((AV.v (TV.one (At.bool c0_))), [])) := by kernel_rfl
theorem z34 : SumOne Try.prog 103 z43 := sum_of (Γ := Γ1) (fuel := 8) (d := 8) tyTab_ok (FnL.ok fnTab_ok _ _) (LpL.ok lt1_ok) (SumL.ok tb1_ok _) mixed (by
  intro pts v news hp hc
  clear hc
  unfold z43 at hp
  split at hp
  · rename_i x
    exact Eq.trans (Eq.trans (zrc x) (zot (zn0 x) rfl x (fun c0_ => some c0_))) (fin_out (o := (zn0 x)) (x := zdq x) (d := default) (V := fun r => ((AV.v (TV.one (At.bool r))), [])) (fun r => rfl) hp)
  · cases hp)
noncomputable def z2j : List PT → Option (Bool × AV × List Blk)
  | [.agg [.row 1 q11 (.fl .f32 q1d), .row 1 q16 (.fl .f32 q1g), .row 1 q17 (.fl .f32 q1h)], .one (.s (.int .i64 q1s))] => some ((zgl q11 q1d q16 q1g q17 q1h q1s), ((AV.v (TV.one (At.int IntKind.i64 (z8z q11 q1d q16 q1g q17 q1h q1s)))), []))
  | _ => none
def zk9 (q11 : Nat) (q1d : List Nat) (q16 : Nat) (q1g : List Nat) (q17 : Nat) (q1h : List Nat) (q1s : Int) : Option (Int) → Option (AV × List Blk)
  | some r => some ((AV.v (TV.one (At.int IntKind.i64 r))), [])
  | none => none
theorem zpt (q11 : Nat) (q1d : List Nat) (q16 : Nat) (q1g : List Nat) (q17 : Nat) (q1h : List Nat) (q1s : Int) : evFn Γ1 8 8 111 (impTs 0 [.agg [.row 1 q11 (.fl .f32 q1d), .row 1 q16 (.fl .f32 q1g), .row 1 q17 (.fl .f32 q1h)], .one (.s (.int .i64 q1s))]).1 (impTs 0 [.agg [.row 1 q11 (.fl .f32 q1d), .row 1 q16 (.fl .f32 q1g), .row 1 q17 (.fl .f32 q1h)], .one (.s (.int .i64 q1s))]).2 (expo (impTs 0 [.agg [.row 1 q11 (.fl .f32 q1d), .row 1 q16 (.fl .f32 q1g), .row 1 q17 (.fl .f32 q1h)], .one (.s (.int .i64 q1s))]).2.length) = zb9 q11 q1d q16 q1g q17 q1h q1s (fun c0_ => some ((AV.v (TV.one (At.int IntKind.i64 c0_))), [])) := by kernel_rfl
theorem z21 : SumOne Try.prog 111 z2j := sum_of (Γ := Γ1) (fuel := 8) (d := 8) tyTab_ok (FnL.ok fnTab_ok _ _) (LpL.ok lt1_ok) (SumL.ok tb1_ok _) mixed (by
  intro pts v news hp hc
  clear hc
  unfold z2j at hp
  split at hp
  · rename_i q11 q1d q16 q1g q17 q1h q1s
    exact Eq.trans (Eq.trans (zpt q11 q1d q16 q1g q17 q1h q1s) (zmr (zk9 q11 q1d q16 q1g q17 q1h q1s) rfl q11 q1d q16 q1g q17 q1h q1s (fun c0_ => some c0_))) (fin_out (o := (zk9 q11 q1d q16 q1g q17 q1h q1s)) (x := zb3 q11 q1d q16 q1g q17 q1h q1s) (d := default) (V := fun r => ((AV.v (TV.one (At.int IntKind.i64 r))), [])) (fun r => rfl) hp)
  · cases hp)
noncomputable def z2u : List PT → Option (Bool × AV × List Blk)
  | [.ptr [.row 1 q09 (.fl .f32 q0d), .row 1 q0a (.fl .f32 q0e), .row 1 q0b (.fl .f32 q0f), .row 3 q0h (.fl .f32 q0k), .s (.int .i64 q0w), .s (.flt .f32 q13), .s (.flt .f32 q12)], .one (.s (.int .i64 i)), .one (.s (.flt .f32 q1b))] => some ((zh5 q09 q0d q0a q0e q0b q0f q0h q0k q0w q13 q12 i q1b), ((AV.v (TV.one (At.bool (zgn q09 q0d q0a q0e q0b q0f q0h q0k q0w q13 q12 i q1b)))), []))
  | _ => none
def zkj (q09 : Nat) (q0d : List Nat) (q0a : Nat) (q0e : List Nat) (q0b : Nat) (q0f : List Nat) (q0h : Nat) (q0k : List Nat) (q0w : Int) (q13 : Nat) (q12 : Nat) (i : Int) (q1b : Nat) : Option (Bool) → Option (AV × List Blk)
  | some r => some ((AV.v (TV.one (At.bool r))), [])
  | none => none
theorem zqb (q09 : Nat) (q0d : List Nat) (q0a : Nat) (q0e : List Nat) (q0b : Nat) (q0f : List Nat) (q0h : Nat) (q0k : List Nat) (q0w : Int) (q13 : Nat) (q12 : Nat) (i : Int) (q1b : Nat) : evFn Γ1 8 8 116 (impTs 0 [.ptr [.row 1 q09 (.fl .f32 q0d), .row 1 q0a (.fl .f32 q0e), .row 1 q0b (.fl .f32 q0f), .row 3 q0h (.fl .f32 q0k), .s (.int .i64 q0w), .s (.flt .f32 q13), .s (.flt .f32 q12)], .one (.s (.int .i64 i)), .one (.s (.flt .f32 q1b))]).1 (impTs 0 [.ptr [.row 1 q09 (.fl .f32 q0d), .row 1 q0a (.fl .f32 q0e), .row 1 q0b (.fl .f32 q0f), .row 3 q0h (.fl .f32 q0k), .s (.int .i64 q0w), .s (.flt .f32 q13), .s (.flt .f32 q12)], .one (.s (.int .i64 i)), .one (.s (.flt .f32 q1b))]).2 (expo (impTs 0 [.ptr [.row 1 q09 (.fl .f32 q0d), .row 1 q0a (.fl .f32 q0e), .row 1 q0b (.fl .f32 q0f), .row 3 q0h (.fl .f32 q0k), .s (.int .i64 q0w), .s (.flt .f32 q13), .s (.flt .f32 q12)], .one (.s (.int .i64 i)), .one (.s (.flt .f32 q1b))]).2.length) = zbr q09 q0d q0a q0e q0b q0f q0h q0k q0w q13 q12 i q1b (fun c0_ => some ((AV.v (TV.one (At.bool c0_))), [])) := by kernel_rfl
theorem z2e : SumOne Try.prog 116 z2u := sum_of (Γ := Γ1) (fuel := 8) (d := 8) tyTab_ok (FnL.ok fnTab_ok _ _) (LpL.ok lt1_ok) (SumL.ok tb1_ok _) mixed (by
  intro pts v news hp hc
  clear hc
  unfold z2u at hp
  split at hp
  · rename_i q09 q0d q0a q0e q0b q0f q0h q0k q0w q13 q12 i q1b
    exact Eq.trans (Eq.trans (zqb q09 q0d q0a q0e q0b q0f q0h q0k q0w q13 q12 i q1b) (znb (zkj q09 q0d q0a q0e q0b q0f q0h q0k q0w q13 q12 i q1b) rfl q09 q0d q0a q0e q0b q0f q0h q0k q0w q13 q12 i q1b (fun c0_ => some c0_))) (fin_out (o := (zkj q09 q0d q0a q0e q0b q0f q0h q0k q0w q13 q12 i q1b)) (x := zbo q09 q0d q0a q0e q0b q0f q0h q0k q0w q13 q12 i q1b) (d := default) (V := fun r => ((AV.v (TV.one (At.bool r))), [])) (fun r => rfl) hp)
  · cases hp)
noncomputable def z44 : List PT → Option (Bool × AV × List Blk)
  | [.one (.s (.flt .f32 x)), .one (.s (.flt .f32 y))] => some ((zif x y), ((AV.tup [(TV.one (At.flt FloatKind.f32 (zi7 x y))), (TV.one (At.flt FloatKind.f32 (zht x y))), (TV.one (At.bool (zi6 x y)))]), []))
  | _ => none
def zn3 (x : Nat) (y : Nat) : Option (Nat × Nat × Bool) → Option (AV × List Blk)
  | some r => some ((AV.tup [(TV.one (At.flt FloatKind.f32 r.1)), (TV.one (At.flt FloatKind.f32 r.2.1)), (TV.one (At.bool r.2.2))]), [])
  | none => none
theorem zrb (x : Nat) (y : Nat) : evFn Γ1 8 8 117 (impTs 0 [.one (.s (.flt .f32 x)), .one (.s (.flt .f32 y))]).1 (impTs 0 [.one (.s (.flt .f32 x)), .one (.s (.flt .f32 y))]).2 (expo (impTs 0 [.one (.s (.flt .f32 x)), .one (.s (.flt .f32 y))]).2.length) = zdp x y (fun c0_ c1_ c2_ => some ((AV.tup [(TV.one (At.flt FloatKind.f32 c0_)), (TV.one (At.flt FloatKind.f32 c1_)), (TV.one (At.bool c2_))]), [])) := by kernel_rfl
theorem z33 : SumOne Try.prog 117 z44 := sum_of (Γ := Γ1) (fuel := 8) (d := 8) tyTab_ok (FnL.ok fnTab_ok _ _) (LpL.ok lt1_ok) (SumL.ok tb1_ok _) mixed (by
  intro pts v news hp hc
  clear hc
  unfold z44 at hp
  split at hp
  · rename_i x y
    exact Eq.trans (Eq.trans (zrb x y) (zoh (zn3 x y) rfl x y (fun c0_ c1_ c2_ => some (c0_, c1_, c2_)))) (fin_out (o := (zn3 x y)) (x := zao x y) (d := default) (V := fun r => ((AV.tup [(TV.one (At.flt FloatKind.f32 r.1)), (TV.one (At.flt FloatKind.f32 r.2.1)), (TV.one (At.bool r.2.2))]), [])) (fun r => rfl) hp)
  · cases hp)
noncomputable def z2v : List PT → Option (Bool × AV × List Blk)
  | [.one (.s (.flt .f32 x))] => some ((zh6 x), ((AV.v (TV.one (At.bool (zgj x)))), []))
  | _ => none
def zki (x : Nat) : Option (Bool) → Option (AV × List Blk)
  | some r => some ((AV.v (TV.one (At.bool r))), [])
  | none => none
theorem zq5 (x : Nat) : evFn Γ1 8 8 138 (impTs 0 [.one (.s (.flt .f32 x))]).1 (impTs 0 [.one (.s (.flt .f32 x))]).2 (expo (impTs 0 [.one (.s (.flt .f32 x))]).2.length) = zbk x (fun c0_ => some ((AV.v (TV.one (At.bool c0_))), [])) := by kernel_rfl
theorem z2b : SumOne Try.prog 138 z2v := sum_of (Γ := Γ1) (fuel := 8) (d := 8) tyTab_ok (FnL.ok fnTab_ok _ _) (LpL.ok lt1_ok) (SumL.ok tb1_ok _) mixed (by
  intro pts v news hp hc
  clear hc
  unfold z2v at hp
  split at hp
  · rename_i x
    exact Eq.trans (Eq.trans (zq5 x) (zne (zki x) rfl x (fun c0_ => some c0_))) (fin_out (o := (zki x)) (x := zbp x) (d := default) (V := fun r => ((AV.v (TV.one (At.bool r))), [])) (fun r => rfl) hp)
  · cases hp)
noncomputable def z1r : List PT → Option (Bool × AV × List Blk)
  | [.one (.s (.flt .f32 x))] => some ((zem x), ((AV.v (TV.one (At.bool (zd4 x)))), []))
  | _ => none
def ziy (x : Nat) : Option (Bool) → Option (AV × List Blk)
  | some r => some ((AV.v (TV.one (At.bool r))), [])
  | none => none
theorem znk (x : Nat) : evFn Γ1 8 8 148 (impTs 0 [.one (.s (.flt .f32 x))]).1 (impTs 0 [.one (.s (.flt .f32 x))]).2 (expo (impTs 0 [.one (.s (.flt .f32 x))]).2.length) = z9g x (fun c0_ => some ((AV.v (TV.one (At.bool c0_))), [])) := by kernel_rfl
theorem z1c : SumOne Try.prog 148 z1r := sum_of (Γ := Γ1) (fuel := 8) (d := 8) tyTab_ok (FnL.ok fnTab_ok _ _) (LpL.ok lt1_ok) (SumL.ok tb1_ok _) mixed (by
  intro pts v news hp hc
  clear hc
  unfold z1r at hp
  split at hp
  · rename_i x
    exact Eq.trans (Eq.trans (znk x) (zks (ziy x) rfl x (fun c0_ => some c0_))) (fin_out (o := (ziy x)) (x := z9j x) (d := default) (V := fun r => ((AV.v (TV.one (At.bool r))), [])) (fun r => rfl) hp)
  · cases hp)
noncomputable def z16 : List PT → Option (Bool × AV × List Blk)
  | [.one (.s (.flt .f32 x))] => some ((zc3 x), ((AV.v (TV.one (At.bool (zbu x)))), []))
  | _ => none
def zir (x : Nat) : Option (Bool) → Option (AV × List Blk)
  | some r => some ((AV.v (TV.one (At.bool r))), [])
  | none => none
theorem zm6 (x : Nat) : evFn Γ1 8 8 150 (impTs 0 [.one (.s (.flt .f32 x))]).1 (impTs 0 [.one (.s (.flt .f32 x))]).2 (expo (impTs 0 [.one (.s (.flt .f32 x))]).2.length) = z8o x (fun c0_ => some ((AV.v (TV.one (At.bool c0_))), [])) := by kernel_rfl
theorem z13 : SumOne Try.prog 150 z16 := sum_of (Γ := Γ1) (fuel := 8) (d := 8) tyTab_ok (FnL.ok fnTab_ok _ _) (LpL.ok lt1_ok) (SumL.ok tb1_ok _) mixed (by
  intro pts v news hp hc
  clear hc
  unfold z16 at hp
  split at hp
  · rename_i x
    exact Eq.trans (Eq.trans (zm6 x) (zk2 (zir x) rfl x (fun c0_ => some c0_))) (fin_out (o := (zir x)) (x := z8p x) (d := default) (V := fun r => ((AV.v (TV.one (At.bool r))), [])) (fun r => rfl) hp)
  · cases hp)
noncomputable def z2i : List PT → Option (Bool × AV × List Blk)
  | [.agg [.s (.flt .f32 q1z), .s (.flt .f32 q21), .s (.flt .f32 q20)], .agg [.s (.flt .f32 q2d), .s (.flt .f32 q2h), .s (.flt .f32 q2g)]] => some ((zgh q1z q21 q20 q2d q2h q2g), ((AV.v (TV.one (At.bool (zfe q1z q21 q20 q2d q2h q2g)))), []))
  | _ => none
def zjv (q1z : Nat) (q21 : Nat) (q20 : Nat) (q2d : Nat) (q2h : Nat) (q2g : Nat) : Option (Bool) → Option (AV × List Blk)
  | some r => some ((AV.v (TV.one (At.bool r))), [])
  | none => none
theorem zpq (q1z : Nat) (q21 : Nat) (q20 : Nat) (q2d : Nat) (q2h : Nat) (q2g : Nat) : evFn Γ1 8 8 169 (impTs 0 [.agg [.s (.flt .f32 q1z), .s (.flt .f32 q21), .s (.flt .f32 q20)], .agg [.s (.flt .f32 q2d), .s (.flt .f32 q2h), .s (.flt .f32 q2g)]]).1 (impTs 0 [.agg [.s (.flt .f32 q1z), .s (.flt .f32 q21), .s (.flt .f32 q20)], .agg [.s (.flt .f32 q2d), .s (.flt .f32 q2h), .s (.flt .f32 q2g)]]).2 (expo (impTs 0 [.agg [.s (.flt .f32 q1z), .s (.flt .f32 q21), .s (.flt .f32 q20)], .agg [.s (.flt .f32 q2d), .s (.flt .f32 q2h), .s (.flt .f32 q2g)]]).2.length) = zb4 q1z q21 q20 q2d q2h q2g (fun c0_ => some ((AV.v (TV.one (At.bool c0_))), [])) := by kernel_rfl
theorem z1z : SumOne Try.prog 169 z2i := sum_of (Γ := Γ1) (fuel := 8) (d := 8) tyTab_ok (FnL.ok fnTab_ok _ _) (LpL.ok lt1_ok) (SumL.ok tb1_ok _) mixed (by
  intro pts v news hp hc
  clear hc
  unfold z2i at hp
  split at hp
  · rename_i q1z q21 q20 q2d q2h q2g
    exact Eq.trans (Eq.trans (zpq q1z q21 q20 q2d q2h q2g) (zmu (zjv q1z q21 q20 q2d q2h q2g) rfl q1z q21 q20 q2d q2h q2g (fun c0_ => some c0_))) (fin_out (o := (zjv q1z q21 q20 q2d q2h q2g)) (x := zav q1z q21 q20 q2d q2h q2g) (d := default) (V := fun r => ((AV.v (TV.one (At.bool r))), [])) (fun r => rfl) hp)
  · cases hp)
noncomputable def z2w : List PT → Option (Bool × AV × List Blk)
  | [.one (.s (.flt .f32 x))] => some ((z91 x), ((AV.v (TV.one (At.bool (z8j x)))), []))
  | _ => none
def zkn (x : Nat) : Option (Bool) → Option (AV × List Blk)
  | some r => some ((AV.v (TV.one (At.bool r))), [])
  | none => none
theorem zqn (x : Nat) : evFn Γ1 8 8 185 (impTs 0 [.one (.s (.flt .f32 x))]).1 (impTs 0 [.one (.s (.flt .f32 x))]).2 (expo (impTs 0 [.one (.s (.flt .f32 x))]).2.length) = zbq x (fun c0_ => some ((AV.v (TV.one (At.bool c0_))), [])) := by kernel_rfl
theorem z2d : SumOne Try.prog 185 z2w := sum_of (Γ := Γ1) (fuel := 8) (d := 8) tyTab_ok (FnL.ok fnTab_ok _ _) (LpL.ok lt1_ok) (SumL.ok tb1_ok _) mixed (by
  intro pts v news hp hc
  clear hc
  unfold z2w at hp
  split at hp
  · rename_i x
    exact Eq.trans (Eq.trans (zqn x) (znj (zkn x) rfl x (fun c0_ => some c0_))) (fin_out (o := (zkn x)) (x := zbs x) (d := default) (V := fun r => ((AV.v (TV.one (At.bool r))), [])) (fun r => rfl) hp)
  · cases hp)
noncomputable def z17 : Nat → St → Option (Bool × LO)
  | 1, (St.mk [(0, (AV.v (TV.one (At.vw 0 0 an 1)))), (3, (AV.v (TV.one (At.sl 1 0 q1y 1)))), (4, (AV.v (TV.one (At.int IntKind.i64 i))))] [(Blk.mk Bool.false (Body.fl FloatKind.f32 b0)), (Blk.mk Bool.true (Body.fl FloatKind.f32 b1))]) => some ((z9r an q1y b0 i b1), (LO.one (Ex.exit 0) (St.mk [(0, (AV.v (TV.one (At.vw 0 0 an 1)))), (3, (AV.v (TV.one (At.sl 1 0 q1y 1)))), (4, (AV.v (TV.one (At.int IntKind.i64 (zdc an q1y b0 i b1))))), (11, (AV.v (TV.one (At.bool (zdm an q1y b0 i b1)))))] [(Blk.mk Bool.false (Body.fl FloatKind.f32 b0)), (Blk.mk Bool.true (Body.fl FloatKind.f32 (z8t an q1y b0 i b1)))])))
  | _, _ => none
def zc2 (an : Nat) (q1y : Nat) (b0 : List Nat) : Option ((Int × Bool × (List Nat))) → Option (Ex × St)
  | none => none
  | some r => some ((Ex.exit 0), (St.mk [(0, (AV.v (TV.one (At.vw 0 0 an 1)))), (3, (AV.v (TV.one (At.sl 1 0 q1y 1)))), (4, (AV.v (TV.one (At.int IntKind.i64 r.1)))), (11, (AV.v (TV.one (At.bool r.2.1))))] [(Blk.mk Bool.false (Body.fl FloatKind.f32 b0)), (Blk.mk Bool.true (Body.fl FloatKind.f32 r.2.2))]))
def zli (an : Nat) (q1y : Nat) (b0 : List Nat) (x : Option ((Int × Bool × (List Nat)))) : LO := (LO.one (Ex.exit 0) (St.mk [(0, (AV.v (TV.one (At.vw 0 0 an 1)))), (3, (AV.v (TV.one (At.sl 1 0 q1y 1)))), (4, (AV.v (TV.one (At.int IntKind.i64 (x.getD default).1)))), (11, (AV.v (TV.one (At.bool (x.getD default).2.1))))] [(Blk.mk Bool.false (Body.fl FloatKind.f32 b0)), (Blk.mk Bool.true (Body.fl FloatKind.f32 (x.getD default).2.2))]))
theorem zmv (an : Nat) (q1y : Nat) (b0 : List Nat) : ∀ x : Option ((Int × Bool × (List Nat))), x.isSome = true → (zc2 an q1y b0) x = some (pick (zli an q1y b0 x))
  | none, h => by cases h
  | some r, _ => rfl
theorem zmi (an : Nat) (q1y : Nat) (i : Int) (b0 : List Nat) (b1 : List Nat) (K : Ex → St → Option (Ex × St)) : evC (R := Ex × St) Γ1 (evFn Γ1 8 8) 166 1 fi166.nt fi166.live fi166.nl 8 (findL 3 (loopsIn fi166.code)) (St.mk [(0, (AV.v (TV.one (At.vw 0 0 an 1)))), (3, (AV.v (TV.one (At.sl 1 0 q1y 1)))), (4, (AV.v (TV.one (At.int IntKind.i64 i))))] [(Blk.mk Bool.false (Body.fl FloatKind.f32 b0)), (Blk.mk Bool.true (Body.fl FloatKind.f32 b1))]) K = z6s an q1y b0 i b1 (fun i' b1' => K .normal (St.mk [(0, (AV.v (TV.one (At.vw 0 0 an 1)))), (3, (AV.v (TV.one (At.sl 1 0 q1y 1)))), (4, (AV.v (TV.one (At.int IntKind.i64 i'))))] [(Blk.mk Bool.false (Body.fl FloatKind.f32 b0)), (Blk.mk Bool.true (Body.fl FloatKind.f32 b1'))])) (fun c0_ c1_ c2_ => K (Ex.exit 0) (St.mk [(0, (AV.v (TV.one (At.vw 0 0 an 1)))), (3, (AV.v (TV.one (At.sl 1 0 q1y 1)))), (4, (AV.v (TV.one (At.int IntKind.i64 c0_)))), (11, (AV.v (TV.one (At.bool c1_))))] [(Blk.mk Bool.false (Body.fl FloatKind.f32 b0)), (Blk.mk Bool.true (Body.fl FloatKind.f32 c2_))])) := by kernel_rfl
theorem zm5 (an : Nat) (q1y : Nat) (b0 : List Nat) : ∀ (n : Nat) (i : Int) (b1 : List Nat), iter 166 3 1 (evC (R := Ex × St) Γ1 (evFn Γ1 8 8) 166 1 fi166.nt fi166.live fi166.nl 8 (findL 3 (loopsIn fi166.code))) n (St.mk [(0, (AV.v (TV.one (At.vw 0 0 an 1)))), (3, (AV.v (TV.one (At.sl 1 0 q1y 1)))), (4, (AV.v (TV.one (At.int IntKind.i64 i))))] [(Blk.mk Bool.false (Body.fl FloatKind.f32 b0)), (Blk.mk Bool.true (Body.fl FloatKind.f32 b1))]) (fun e st => some (e, st)) = (zc2 an q1y b0) (z5j an q1y b0 n i b1) := by
  intro n
  induction n with
  | zero => intros; rfl
  | succ n ih =>
    intro i b1
    refine Eq.trans (iter_succ ..) (Eq.trans (zmi an q1y i b0 b1 (nextK 166 3 1 (evC (R := Ex × St) Γ1 (evFn Γ1 8 8) 166 1 fi166.nt fi166.live fi166.nl 8 (findL 3 (loopsIn fi166.code))) n (fun e st => some (e, st)))) (Eq.trans ?_ (zjw (zc2 an q1y b0) rfl an q1y b0 i b1 (fun i' b1' => z5j an q1y b0 n i' b1') (fun c0_ c1_ c2_ => some (c0_, c1_, c2_)))))
    exact congrArg (fun kn_ => z6s an q1y b0 i b1 kn_ (fun c0_ c1_ c2_ => (zc2 an q1y b0) (some (c0_, c1_, c2_)))) (funext fun i' => funext fun b1' => ih i' b1')
theorem z14 : LoopOne Try.prog fnTab 166 3 z17 := lp_of (Γ := Γ1) tyTab_ok (FnL.ok fnTab_ok _ _) (LpL.ok lt1_ok) (SumL.ok tb1_ok _) mixed (fi := fi166) (by kernel_rfl) (by kernel_rfl) (by
  intro lo st out hp
  unfold z17 at hp
  split at hp
  · rename_i an q1y i b0 b1
    injection hp with hp
    injection hp with h1 h2
    subst h2
    exact ⟨8, 8, big, Eq.trans (zm5 an q1y b0 big i b1) (zmv an q1y b0 (z5j an q1y b0 big i b1) h1)⟩
  · cases hp)
noncomputable def tb2 : List (Nat × (List PT → Option (Bool × AV × List Blk))) := [(156, z0w), (181, z1b), (182, z1v), (189, z1y), (26, z2n), (55, z24), (89, z3q), (102, z5w), (112, z1u), (114, z32), (115, z27), (123, z2l), (126, z4e), (157, z5u), (160, z1t), (162, z4g), (167, z25), (187, z26), (83, z0z), (85, z42), (90, z3e), (103, z43), (111, z2j), (116, z2u), (117, z44), (138, z2v), (148, z1r), (150, z16), (169, z2i), (185, z2w)]
noncomputable def lt2 : List ((Nat × Nat) × (Nat → St → Option (Bool × LO))) := [((166, 3), z17)]
noncomputable def Γ2 : Ctx := ⟨tyTab, fnTab, tblSum tb2, tblLp lt2⟩
theorem tb2_ok : SumL Try.prog tb2 := SumL.cons z0r (SumL.cons z15 (SumL.cons z1k (SumL.cons z1j (SumL.cons z22 (SumL.cons z1p (SumL.cons z2t (SumL.cons z4n (SumL.cons z1g (SumL.cons z2h (SumL.cons z1n (SumL.cons z23 (SumL.cons z3b (SumL.cons z4o (SumL.cons z1d (SumL.cons z38 (SumL.cons z1o (SumL.cons z1q (SumL.cons z0x (SumL.cons z35 (SumL.cons z2r (SumL.cons z34 (SumL.cons z21 (SumL.cons z2e (SumL.cons z33 (SumL.cons z2b (SumL.cons z1c (SumL.cons z13 (SumL.cons z1z (SumL.cons z2d (SumL.nil))))))))))))))))))))))))))))))
theorem lt2_ok : LpL Try.prog fnTab lt2 := LpL.cons z14 (LpL.nil)
noncomputable def z3v : List PT → Option (Bool × AV × List Blk)
  | [.agg [.row 1 q0l (.fl .f32 q0q), .row 1 q0m (.fl .f32 q0s), .row 1 q0n (.fl .f32 q0r), .row 3 q0z (.fl .f32 q14), .s (.int .i64 q1f), .s (.flt .f32 q1m), .s (.flt .f32 q1n)], .one (.s (.int .i64 q1s))] => some ((zg0 q0l q0q q0m q0s q0n q0r q0z q14 q1f q1m q1n q1s), ((AV.v (TV.one (At.int IntKind.i64 (zdy q0l q0q q0m q0s q0n q0r q0z q14 q1f q1m q1n q1s)))), []))
  | _ => none
def zlf (q0l : Nat) (q0q : List Nat) (q0m : Nat) (q0s : List Nat) (q0n : Nat) (q0r : List Nat) (q0z : Nat) (q14 : List Nat) (q1f : Int) (q1m : Nat) (q1n : Nat) (q1s : Int) : Option (Int) → Option (AV × List Blk)
  | some r => some ((AV.v (TV.one (At.int IntKind.i64 r))), [])
  | none => none
theorem zr0 (q0l : Nat) (q0q : List Nat) (q0m : Nat) (q0s : List Nat) (q0n : Nat) (q0r : List Nat) (q0z : Nat) (q14 : List Nat) (q1f : Int) (q1m : Nat) (q1n : Nat) (q1s : Int) : evFn Γ2 8 8 52 (impTs 0 [.agg [.row 1 q0l (.fl .f32 q0q), .row 1 q0m (.fl .f32 q0s), .row 1 q0n (.fl .f32 q0r), .row 3 q0z (.fl .f32 q14), .s (.int .i64 q1f), .s (.flt .f32 q1m), .s (.flt .f32 q1n)], .one (.s (.int .i64 q1s))]).1 (impTs 0 [.agg [.row 1 q0l (.fl .f32 q0q), .row 1 q0m (.fl .f32 q0s), .row 1 q0n (.fl .f32 q0r), .row 3 q0z (.fl .f32 q14), .s (.int .i64 q1f), .s (.flt .f32 q1m), .s (.flt .f32 q1n)], .one (.s (.int .i64 q1s))]).2 (expo (impTs 0 [.agg [.row 1 q0l (.fl .f32 q0q), .row 1 q0m (.fl .f32 q0s), .row 1 q0n (.fl .f32 q0r), .row 3 q0z (.fl .f32 q14), .s (.int .i64 q1f), .s (.flt .f32 q1m), .s (.flt .f32 q1n)], .one (.s (.int .i64 q1s))]).2.length) = zcj q0l q0q q0m q0s q0n q0r q0z q14 q1f q1m q1n q1s (fun c0_ => some ((AV.v (TV.one (At.int IntKind.i64 c0_))), [])) := by kernel_rfl
theorem z2z : SumOne Try.prog 52 z3v := sum_of (Γ := Γ2) (fuel := 8) (d := 8) tyTab_ok (FnL.ok fnTab_ok _ _) (LpL.ok lt2_ok) (SumL.ok tb2_ok _) mixed (by
  intro pts v news hp hc
  clear hc
  unfold z3v at hp
  split at hp
  · rename_i q0l q0q q0m q0s q0n q0r q0z q14 q1f q1m q1n q1s
    exact Eq.trans (Eq.trans (zr0 q0l q0q q0m q0s q0n q0r q0z q14 q1f q1m q1n q1s) (znt (zlf q0l q0q q0m q0s q0n q0r q0z q14 q1f q1m q1n q1s) rfl q0l q0q q0m q0s q0n q0r q0z q14 q1f q1m q1n q1s (fun c0_ => some c0_))) (fin_out (o := (zlf q0l q0q q0m q0s q0n q0r q0z q14 q1f q1m q1n q1s)) (x := zcf q0l q0q q0m q0s q0n q0r q0z q14 q1f q1m q1n q1s) (d := default) (V := fun r => ((AV.v (TV.one (At.int IntKind.i64 r))), [])) (fun r => rfl) hp)
  · cases hp)
noncomputable def z2f : List PT → Option (Bool × AV × List Blk)
  | [.one (.s (.flt .f32 x))] => some ((zf6 x), ((AV.v (TV.one (At.bool (zdz x)))), []))
  | _ => none
def zjg (x : Nat) : Option (Bool) → Option (AV × List Blk)
  | some r => some ((AV.v (TV.one (At.bool r))), [])
  | none => none
theorem zoz (x : Nat) : evFn Γ2 8 8 154 (impTs 0 [.one (.s (.flt .f32 x))]).1 (impTs 0 [.one (.s (.flt .f32 x))]).2 (expo (impTs 0 [.one (.s (.flt .f32 x))]).2.length) = za1 x (fun c0_ => some ((AV.v (TV.one (At.bool c0_))), [])) := by kernel_rfl
theorem z1w : SumOne Try.prog 154 z2f := sum_of (Γ := Γ2) (fuel := 8) (d := 8) tyTab_ok (FnL.ok fnTab_ok _ _) (LpL.ok lt2_ok) (SumL.ok tb2_ok _) mixed (by
  intro pts v news hp hc
  clear hc
  unfold z2f at hp
  split at hp
  · rename_i x
    exact Eq.trans (Eq.trans (zoz x) (zlz (zjg x) rfl x (fun c0_ => some c0_))) (fin_out (o := (zjg x)) (x := zai x) (d := default) (V := fun r => ((AV.v (TV.one (At.bool r))), [])) (fun r => rfl) hp)
  · cases hp)
noncomputable def z5h : List PT → Option (Bool × AV × List Blk)
  | [.one (.s (.flt .f64 x))] => some ((ziq x), ((AV.v (TV.one (At.flt FloatKind.f64 (zbw x)))), []))
  | _ => none
def zod (x : Nat) : Option (Nat) → Option (AV × List Blk)
  | some r => some ((AV.v (TV.one (At.flt FloatKind.f64 r))), [])
  | none => none
theorem zrk (x : Nat) : evFn Γ2 8 8 158 (impTs 0 [.one (.s (.flt .f64 x))]).1 (impTs 0 [.one (.s (.flt .f64 x))]).2 (expo (impTs 0 [.one (.s (.flt .f64 x))]).2.length) = zfu x (fun c0_ => some ((AV.v (TV.one (At.flt FloatKind.f64 c0_))), [])) := by kernel_rfl
theorem z41 : SumOne Try.prog 158 z5h := sum_of (Γ := Γ2) (fuel := 8) (d := 8) tyTab_ok (FnL.ok fnTab_ok _ _) (LpL.ok lt2_ok) (SumL.ok tb2_ok _) mixed (by
  intro pts v news hp hc
  clear hc
  unfold z5h at hp
  split at hp
  · rename_i x
    exact Eq.trans (Eq.trans (zrk x) (zpa (zod x) rfl x (fun c0_ => some c0_))) (fin_out (o := (zod x)) (x := zfv x) (d := default) (V := fun r => ((AV.v (TV.one (At.flt FloatKind.f64 r))), [])) (fun r => rfl) hp)
  · cases hp)
noncomputable def z2g : List PT → Option (Bool × AV × List Blk)
  | [.one (.row 1 a_n (.fl .f32 a))] => some ((zaf a_n a), ((AV.v (TV.one (At.sl 0 0 (z9h a_n a) 1))), [(Blk.mk Bool.true (Body.fl FloatKind.f32 (z9m a_n a)))]))
  | _ => none
def zjd (a_n : Nat) (a : List Nat) : Option (Nat × (List Nat)) → Option (AV × List Blk)
  | some r => some ((AV.v (TV.one (At.sl 0 0 r.1 1))), [(Blk.mk Bool.true (Body.fl FloatKind.f32 r.2))])
  | none => none
theorem zp6 (a_n : Nat) (a : List Nat) : evFn Γ2 8 8 166 (impTs 0 [.one (.row 1 a_n (.fl .f32 a))]).1 (impTs 0 [.one (.row 1 a_n (.fl .f32 a))]).2 (expo (impTs 0 [.one (.row 1 a_n (.fl .f32 a))]).2.length) = zag a_n a (fun c0_ c1_ => some ((AV.v (TV.one (At.sl 0 0 c0_ 1))), [(Blk.mk Bool.true (Body.fl FloatKind.f32 c1_))])) := by kernel_rfl
theorem z1x : SumOne Try.prog 166 z2g := sum_of (Γ := Γ2) (fuel := 8) (d := 8) tyTab_ok (FnL.ok fnTab_ok _ _) (LpL.ok lt2_ok) (SumL.ok tb2_ok _) mixed (by
  intro pts v news hp hc
  clear hc
  unfold z2g at hp
  split at hp
  · rename_i a_n a
    exact Eq.trans (Eq.trans (zp6 a_n a) (zlc (zjd a_n a) rfl a_n a (fun c0_ c1_ => some (c0_, c1_)))) (fin_out (o := (zjd a_n a)) (x := z8y a_n a) (d := default) (V := fun r => ((AV.v (TV.one (At.sl 0 0 r.1 1))), [(Blk.mk Bool.true (Body.fl FloatKind.f32 r.2))])) (fun r => rfl) hp)
  · cases hp)
noncomputable def z1f : Nat → St → Option (Bool × LO)
  | 1, (St.mk [(0, (AV.v (TV.one (At.vw 0 0 an 3)))), (3, (AV.v (TV.one (At.sl 1 0 q1y 3)))), (4, (AV.v (TV.one (At.int IntKind.i64 i))))] [(Blk.mk Bool.false (Body.fl FloatKind.f32 b0)), (Blk.mk Bool.true (Body.fl FloatKind.f32 b1))]) => some ((z9w an q1y b0 i b1), (LO.one (Ex.exit 0) (St.mk [(0, (AV.v (TV.one (At.vw 0 0 an 3)))), (3, (AV.v (TV.one (At.sl 1 0 q1y 3)))), (4, (AV.v (TV.one (At.int IntKind.i64 (zdd an q1y b0 i b1))))), (11, (AV.v (TV.one (At.bool (zdb an q1y b0 i b1)))))] [(Blk.mk Bool.false (Body.fl FloatKind.f32 b0)), (Blk.mk Bool.true (Body.fl FloatKind.f32 (z8s an q1y b0 i b1)))])))
  | _, _ => none
def zc5 (an : Nat) (q1y : Nat) (b0 : List Nat) : Option ((Int × Bool × (List Nat))) → Option (Ex × St)
  | none => none
  | some r => some ((Ex.exit 0), (St.mk [(0, (AV.v (TV.one (At.vw 0 0 an 3)))), (3, (AV.v (TV.one (At.sl 1 0 q1y 3)))), (4, (AV.v (TV.one (At.int IntKind.i64 r.1)))), (11, (AV.v (TV.one (At.bool r.2.1))))] [(Blk.mk Bool.false (Body.fl FloatKind.f32 b0)), (Blk.mk Bool.true (Body.fl FloatKind.f32 r.2.2))]))
def zlm (an : Nat) (q1y : Nat) (b0 : List Nat) (x : Option ((Int × Bool × (List Nat)))) : LO := (LO.one (Ex.exit 0) (St.mk [(0, (AV.v (TV.one (At.vw 0 0 an 3)))), (3, (AV.v (TV.one (At.sl 1 0 q1y 3)))), (4, (AV.v (TV.one (At.int IntKind.i64 (x.getD default).1)))), (11, (AV.v (TV.one (At.bool (x.getD default).2.1))))] [(Blk.mk Bool.false (Body.fl FloatKind.f32 b0)), (Blk.mk Bool.true (Body.fl FloatKind.f32 (x.getD default).2.2))]))
theorem zmj (an : Nat) (q1y : Nat) (b0 : List Nat) : ∀ x : Option ((Int × Bool × (List Nat))), x.isSome = true → (zc5 an q1y b0) x = some (pick (zlm an q1y b0 x))
  | none, h => by cases h
  | some r, _ => rfl
theorem zmf (an : Nat) (q1y : Nat) (i : Int) (b0 : List Nat) (b1 : List Nat) (K : Ex → St → Option (Ex × St)) : evC (R := Ex × St) Γ2 (evFn Γ2 8 8) 120 1 fi120.nt fi120.live fi120.nl 8 (findL 3 (loopsIn fi120.code)) (St.mk [(0, (AV.v (TV.one (At.vw 0 0 an 3)))), (3, (AV.v (TV.one (At.sl 1 0 q1y 3)))), (4, (AV.v (TV.one (At.int IntKind.i64 i))))] [(Blk.mk Bool.false (Body.fl FloatKind.f32 b0)), (Blk.mk Bool.true (Body.fl FloatKind.f32 b1))]) K = z6v an q1y b0 i b1 (fun i' b1' => K .normal (St.mk [(0, (AV.v (TV.one (At.vw 0 0 an 3)))), (3, (AV.v (TV.one (At.sl 1 0 q1y 3)))), (4, (AV.v (TV.one (At.int IntKind.i64 i'))))] [(Blk.mk Bool.false (Body.fl FloatKind.f32 b0)), (Blk.mk Bool.true (Body.fl FloatKind.f32 b1'))])) (fun c0_ c1_ c2_ => K (Ex.exit 0) (St.mk [(0, (AV.v (TV.one (At.vw 0 0 an 3)))), (3, (AV.v (TV.one (At.sl 1 0 q1y 3)))), (4, (AV.v (TV.one (At.int IntKind.i64 c0_)))), (11, (AV.v (TV.one (At.bool c1_))))] [(Blk.mk Bool.false (Body.fl FloatKind.f32 b0)), (Blk.mk Bool.true (Body.fl FloatKind.f32 c2_))])) := by kernel_rfl
theorem zmo (an : Nat) (q1y : Nat) (b0 : List Nat) : ∀ (n : Nat) (i : Int) (b1 : List Nat), iter 120 3 1 (evC (R := Ex × St) Γ2 (evFn Γ2 8 8) 120 1 fi120.nt fi120.live fi120.nl 8 (findL 3 (loopsIn fi120.code))) n (St.mk [(0, (AV.v (TV.one (At.vw 0 0 an 3)))), (3, (AV.v (TV.one (At.sl 1 0 q1y 3)))), (4, (AV.v (TV.one (At.int IntKind.i64 i))))] [(Blk.mk Bool.false (Body.fl FloatKind.f32 b0)), (Blk.mk Bool.true (Body.fl FloatKind.f32 b1))]) (fun e st => some (e, st)) = (zc5 an q1y b0) (z3h an q1y b0 n i b1) := by
  intro n
  induction n with
  | zero => intros; rfl
  | succ n ih =>
    intro i b1
    refine Eq.trans (iter_succ ..) (Eq.trans (zmf an q1y i b0 b1 (nextK 120 3 1 (evC (R := Ex × St) Γ2 (evFn Γ2 8 8) 120 1 fi120.nt fi120.live fi120.nl 8 (findL 3 (loopsIn fi120.code))) n (fun e st => some (e, st)))) (Eq.trans ?_ (zjp (zc5 an q1y b0) rfl an q1y b0 i b1 (fun i' b1' => z3h an q1y b0 n i' b1') (fun c0_ c1_ c2_ => some (c0_, c1_, c2_)))))
    exact congrArg (fun kn_ => z6v an q1y b0 i b1 kn_ (fun c0_ c1_ c2_ => (zc5 an q1y b0) (some (c0_, c1_, c2_)))) (funext fun i' => funext fun b1' => ih i' b1')
theorem z19 : LoopOne Try.prog fnTab 120 3 z1f := lp_of (Γ := Γ2) tyTab_ok (FnL.ok fnTab_ok _ _) (LpL.ok lt2_ok) (SumL.ok tb2_ok _) mixed (fi := fi120) (by kernel_rfl) (by kernel_rfl) (by
  intro lo st out hp
  unfold z1f at hp
  split at hp
  · rename_i an q1y i b0 b1
    injection hp with hp
    injection hp with h1 h2
    subst h2
    exact ⟨8, 8, big, Eq.trans (zmo an q1y b0 big i b1) (zmj an q1y b0 (z3h an q1y b0 big i b1) h1)⟩
  · cases hp)
noncomputable def z1e : Nat → St → Option (Bool × LO)
  | 2, (St.mk [(0, (AV.v (TV.one (At.vw 0 0 an 1)))), (1, (AV.v (TV.one (At.vw 1 0 bn 1)))), (5, (AV.v (TV.one (At.int IntKind.i64 i))))] [(Blk.mk Bool.false (Body.fl FloatKind.f32 b0)), (Blk.mk Bool.false (Body.fl FloatKind.f32 b1))]) => some ((zc0 an bn b0 b1 i), (LO.two (zbm an bn b0 b1 i) (LO.one Ex.ret (St.mk [(4, (AV.v (TV.one (At.bool Bool.false))))] [(Blk.mk Bool.false (Body.fl FloatKind.f32 b0)), (Blk.mk Bool.false (Body.fl FloatKind.f32 b1))])) (LO.one (Ex.exit 0) (St.mk [(0, (AV.v (TV.one (At.vw 0 0 an 1)))), (1, (AV.v (TV.one (At.vw 1 0 bn 1)))), (5, (AV.v (TV.one (At.int IntKind.i64 (zd9 an bn b0 b1 i))))), (14, (AV.v (TV.one (At.bool (zd8 an bn b0 b1 i)))))] [(Blk.mk Bool.false (Body.fl FloatKind.f32 b0)), (Blk.mk Bool.false (Body.fl FloatKind.f32 b1))]))))
  | _, _ => none
def z9t (an : Nat) (bn : Nat) (b0 : List Nat) (b1 : List Nat) : Option ((Unit) ⊕ (Int × Bool)) → Option (Ex × St)
  | none => none
  | some (Sum.inl r) => some (Ex.ret, (St.mk [(4, (AV.v (TV.one (At.bool Bool.false))))] [(Blk.mk Bool.false (Body.fl FloatKind.f32 b0)), (Blk.mk Bool.false (Body.fl FloatKind.f32 b1))]))
  | some (Sum.inr r) => some ((Ex.exit 0), (St.mk [(0, (AV.v (TV.one (At.vw 0 0 an 1)))), (1, (AV.v (TV.one (At.vw 1 0 bn 1)))), (5, (AV.v (TV.one (At.int IntKind.i64 r.1)))), (14, (AV.v (TV.one (At.bool r.2))))] [(Blk.mk Bool.false (Body.fl FloatKind.f32 b0)), (Blk.mk Bool.false (Body.fl FloatKind.f32 b1))]))
def zly (an : Nat) (bn : Nat) (b0 : List Nat) (b1 : List Nat) (x : Option ((Unit) ⊕ (Int × Bool))) : LO := (LO.two (oL x) (LO.one Ex.ret (St.mk [(4, (AV.v (TV.one (At.bool Bool.false))))] [(Blk.mk Bool.false (Body.fl FloatKind.f32 b0)), (Blk.mk Bool.false (Body.fl FloatKind.f32 b1))])) (LO.one (Ex.exit 0) (St.mk [(0, (AV.v (TV.one (At.vw 0 0 an 1)))), (1, (AV.v (TV.one (At.vw 1 0 bn 1)))), (5, (AV.v (TV.one (At.int IntKind.i64 ((tR x).getD default).1)))), (14, (AV.v (TV.one (At.bool ((tR x).getD default).2))))] [(Blk.mk Bool.false (Body.fl FloatKind.f32 b0)), (Blk.mk Bool.false (Body.fl FloatKind.f32 b1))])))
theorem zms (an : Nat) (bn : Nat) (b0 : List Nat) (b1 : List Nat) : ∀ x : Option ((Unit) ⊕ (Int × Bool)), x.isSome = true → (z9t an bn b0 b1) x = some (pick (zly an bn b0 b1 x))
  | none, h => by cases h
  | some (Sum.inl r), _ => rfl
  | some (Sum.inr r), _ => rfl
theorem zmc (an : Nat) (bn : Nat) (i : Int) (b0 : List Nat) (b1 : List Nat) (K : Ex → St → Option (Ex × St)) : evC (R := Ex × St) Γ2 (evFn Γ2 8 8) 168 2 fi168.nt fi168.live fi168.nl 8 (findL 4 (loopsIn fi168.code)) (St.mk [(0, (AV.v (TV.one (At.vw 0 0 an 1)))), (1, (AV.v (TV.one (At.vw 1 0 bn 1)))), (5, (AV.v (TV.one (At.int IntKind.i64 i))))] [(Blk.mk Bool.false (Body.fl FloatKind.f32 b0)), (Blk.mk Bool.false (Body.fl FloatKind.f32 b1))]) K = z6w an bn b0 b1 i (fun i' => K .normal (St.mk [(0, (AV.v (TV.one (At.vw 0 0 an 1)))), (1, (AV.v (TV.one (At.vw 1 0 bn 1)))), (5, (AV.v (TV.one (At.int IntKind.i64 i'))))] [(Blk.mk Bool.false (Body.fl FloatKind.f32 b0)), (Blk.mk Bool.false (Body.fl FloatKind.f32 b1))])) (fun _ => K Ex.ret (St.mk [(4, (AV.v (TV.one (At.bool Bool.false))))] [(Blk.mk Bool.false (Body.fl FloatKind.f32 b0)), (Blk.mk Bool.false (Body.fl FloatKind.f32 b1))])) (fun c0_ c1_ => K (Ex.exit 0) (St.mk [(0, (AV.v (TV.one (At.vw 0 0 an 1)))), (1, (AV.v (TV.one (At.vw 1 0 bn 1)))), (5, (AV.v (TV.one (At.int IntKind.i64 c0_)))), (14, (AV.v (TV.one (At.bool c1_))))] [(Blk.mk Bool.false (Body.fl FloatKind.f32 b0)), (Blk.mk Bool.false (Body.fl FloatKind.f32 b1))])) := by kernel_rfl
theorem zm7 (an : Nat) (bn : Nat) (b0 : List Nat) (b1 : List Nat) : ∀ (n : Nat) (i : Int), iter 168 4 2 (evC (R := Ex × St) Γ2 (evFn Γ2 8 8) 168 2 fi168.nt fi168.live fi168.nl 8 (findL 4 (loopsIn fi168.code))) n (St.mk [(0, (AV.v (TV.one (At.vw 0 0 an 1)))), (1, (AV.v (TV.one (At.vw 1 0 bn 1)))), (5, (AV.v (TV.one (At.int IntKind.i64 i))))] [(Blk.mk Bool.false (Body.fl FloatKind.f32 b0)), (Blk.mk Bool.false (Body.fl FloatKind.f32 b1))]) (fun e st => some (e, st)) = (z9t an bn b0 b1) (z5l an bn b0 b1 n i) := by
  intro n
  induction n with
  | zero => intros; rfl
  | succ n ih =>
    intro i
    refine Eq.trans (iter_succ ..) (Eq.trans (zmc an bn i b0 b1 (nextK 168 4 2 (evC (R := Ex × St) Γ2 (evFn Γ2 8 8) 168 2 fi168.nt fi168.live fi168.nl 8 (findL 4 (loopsIn fi168.code))) n (fun e st => some (e, st)))) (Eq.trans ?_ (zk0 (z9t an bn b0 b1) rfl an bn b0 b1 i (fun i' => z5l an bn b0 b1 n i') (fun _ => some (Sum.inl ())) (fun c0_ c1_ => some (Sum.inr (c0_, c1_))))))
    exact congrArg (fun kn_ => z6w an bn b0 b1 i kn_ (fun _ => (z9t an bn b0 b1) (some (Sum.inl ()))) (fun c0_ c1_ => (z9t an bn b0 b1) (some (Sum.inr (c0_, c1_))))) (funext fun i' => ih i')
theorem z18 : LoopOne Try.prog fnTab 168 4 z1e := lp_of (Γ := Γ2) tyTab_ok (FnL.ok fnTab_ok _ _) (LpL.ok lt2_ok) (SumL.ok tb2_ok _) mixed (fi := fi168) (by kernel_rfl) (by kernel_rfl) (by
  intro lo st out hp
  unfold z1e at hp
  split at hp
  · rename_i an bn i b0 b1
    injection hp with hp
    injection hp with h1 h2
    subst h2
    exact ⟨8, 8, big, Eq.trans (zm7 an bn b0 b1 big i) (zms an bn b0 b1 (z5l an bn b0 b1 big i) h1)⟩
  · cases hp)
noncomputable def z12 : Nat → St → Option (Bool × LO)
  | 0, (St.mk [(4, (AV.v (TV.one (At.bool t4)))), (5, (AV.v (TV.one (At.flt FloatKind.f64 t5)))), (6, (AV.v (TV.one (At.flt FloatKind.f64 t6)))), (7, (AV.v (TV.one (At.flt FloatKind.f64 t7)))), (8, (AV.v (TV.one (At.int IntKind.i64 t8))))] []) => some ((z4m t6 t7 t8), (LO.one (Ex.exit 0) (St.mk [(4, (AV.v (TV.one (At.bool t4)))), (5, (AV.v (TV.one (At.flt FloatKind.f64 t5)))), (6, (AV.v (TV.one (At.flt FloatKind.f64 t6)))), (7, (AV.v (TV.one (At.flt FloatKind.f64 (z0y t6 t7 t8))))), (8, (AV.v (TV.one (At.int IntKind.i64 (zbz t6 t7 t8))))), (44, (AV.v (TV.one (At.bool (zc7 t6 t7 t8)))))] [])))
  | _, _ => none
def zbd (t4 : Bool) (t5 : Nat) (t6 : Nat) : Option ((Nat × Int × Bool)) → Option (Ex × St)
  | none => none
  | some r => some ((Ex.exit 0), (St.mk [(4, (AV.v (TV.one (At.bool t4)))), (5, (AV.v (TV.one (At.flt FloatKind.f64 t5)))), (6, (AV.v (TV.one (At.flt FloatKind.f64 t6)))), (7, (AV.v (TV.one (At.flt FloatKind.f64 r.1)))), (8, (AV.v (TV.one (At.int IntKind.i64 r.2.1)))), (44, (AV.v (TV.one (At.bool r.2.2))))] []))
def zkc (t4 : Bool) (t5 : Nat) (t6 : Nat) (x : Option ((Nat × Int × Bool))) : LO := (LO.one (Ex.exit 0) (St.mk [(4, (AV.v (TV.one (At.bool t4)))), (5, (AV.v (TV.one (At.flt FloatKind.f64 t5)))), (6, (AV.v (TV.one (At.flt FloatKind.f64 t6)))), (7, (AV.v (TV.one (At.flt FloatKind.f64 (x.getD default).1)))), (8, (AV.v (TV.one (At.int IntKind.i64 (x.getD default).2.1)))), (44, (AV.v (TV.one (At.bool (x.getD default).2.2))))] []))
theorem zl4 (t4 : Bool) (t5 : Nat) (t6 : Nat) : ∀ x : Option ((Nat × Int × Bool)), x.isSome = true → (zbd t4 t5 t6) x = some (pick (zkc t4 t5 t6 x))
  | none, h => by cases h
  | some r, _ => rfl
theorem zky (t4 : Bool) (t5 : Nat) (t6 : Nat) (t7 : Nat) (t8 : Int) (K : Ex → St → Option (Ex × St)) : evC (R := Ex × St) Γ2 (evFn Γ2 8 8) 188 0 fi188.nt fi188.live fi188.nl 8 (findL 17 (loopsIn fi188.code)) (St.mk [(4, (AV.v (TV.one (At.bool t4)))), (5, (AV.v (TV.one (At.flt FloatKind.f64 t5)))), (6, (AV.v (TV.one (At.flt FloatKind.f64 t6)))), (7, (AV.v (TV.one (At.flt FloatKind.f64 t7)))), (8, (AV.v (TV.one (At.int IntKind.i64 t8))))] []) K = z6a t6 t7 t8 (fun t7' t8' => K .normal (St.mk [(4, (AV.v (TV.one (At.bool t4)))), (5, (AV.v (TV.one (At.flt FloatKind.f64 t5)))), (6, (AV.v (TV.one (At.flt FloatKind.f64 t6)))), (7, (AV.v (TV.one (At.flt FloatKind.f64 t7')))), (8, (AV.v (TV.one (At.int IntKind.i64 t8'))))] [])) (fun c0_ c1_ c2_ => K (Ex.exit 0) (St.mk [(4, (AV.v (TV.one (At.bool t4)))), (5, (AV.v (TV.one (At.flt FloatKind.f64 t5)))), (6, (AV.v (TV.one (At.flt FloatKind.f64 t6)))), (7, (AV.v (TV.one (At.flt FloatKind.f64 c0_)))), (8, (AV.v (TV.one (At.int IntKind.i64 c1_)))), (44, (AV.v (TV.one (At.bool c2_))))] [])) := by kernel_rfl
theorem zl2 (t4 : Bool) (t5 : Nat) (t6 : Nat) : ∀ (n : Nat) (t7 : Nat) (t8 : Int), iter 188 17 0 (evC (R := Ex × St) Γ2 (evFn Γ2 8 8) 188 0 fi188.nt fi188.live fi188.nl 8 (findL 17 (loopsIn fi188.code))) n (St.mk [(4, (AV.v (TV.one (At.bool t4)))), (5, (AV.v (TV.one (At.flt FloatKind.f64 t5)))), (6, (AV.v (TV.one (At.flt FloatKind.f64 t6)))), (7, (AV.v (TV.one (At.flt FloatKind.f64 t7)))), (8, (AV.v (TV.one (At.int IntKind.i64 t8))))] []) (fun e st => some (e, st)) = (zbd t4 t5 t6) (z39 t6 n t7 t8) := by
  intro n
  induction n with
  | zero => intros; rfl
  | succ n ih =>
    intro t7 t8
    refine Eq.trans (iter_succ ..) (Eq.trans (zky t4 t5 t6 t7 t8 (nextK 188 17 0 (evC (R := Ex × St) Γ2 (evFn Γ2 8 8) 188 0 fi188.nt fi188.live fi188.nl 8 (findL 17 (loopsIn fi188.code))) n (fun e st => some (e, st)))) (Eq.trans ?_ (zj6 (zbd t4 t5 t6) rfl t6 t7 t8 (fun t7' t8' => z39 t6 n t7' t8') (fun c0_ c1_ c2_ => some (c0_, c1_, c2_)))))
    exact congrArg (fun kn_ => z6a t6 t7 t8 kn_ (fun c0_ c1_ c2_ => (zbd t4 t5 t6) (some (c0_, c1_, c2_)))) (funext fun t7' => funext fun t8' => ih t7' t8')
theorem z10 : LoopOne Try.prog fnTab 188 17 z12 := lp_of (Γ := Γ2) tyTab_ok (FnL.ok fnTab_ok _ _) (LpL.ok lt2_ok) (SumL.ok tb2_ok _) mixed (fi := fi188) (by kernel_rfl) (by kernel_rfl) (by
  intro lo st out hp
  unfold z12 at hp
  split at hp
  · rename_i t4 t5 t6 t7 t8
    injection hp with hp
    injection hp with h1 h2
    subst h2
    exact ⟨8, 8, big, Eq.trans (zl2 t4 t5 t6 big t7 t8) (zl4 t4 t5 t6 (z39 t6 big t7 t8) h1)⟩
  · cases hp)
noncomputable def tb3 : List (Nat × (List PT → Option (Bool × AV × List Blk))) := [(156, z0w), (181, z1b), (182, z1v), (189, z1y), (26, z2n), (55, z24), (89, z3q), (102, z5w), (112, z1u), (114, z32), (115, z27), (123, z2l), (126, z4e), (157, z5u), (160, z1t), (162, z4g), (167, z25), (187, z26), (83, z0z), (85, z42), (90, z3e), (103, z43), (111, z2j), (116, z2u), (117, z44), (138, z2v), (148, z1r), (150, z16), (169, z2i), (185, z2w), (52, z3v), (154, z2f), (158, z5h), (166, z2g)]
noncomputable def lt3 : List ((Nat × Nat) × (Nat → St → Option (Bool × LO))) := [((166, 3), z17), ((120, 3), z1f), ((168, 4), z1e), ((188, 17), z12)]
noncomputable def Γ3 : Ctx := ⟨tyTab, fnTab, tblSum tb3, tblLp lt3⟩
theorem tb3_ok : SumL Try.prog tb3 := SumL.cons z0r (SumL.cons z15 (SumL.cons z1k (SumL.cons z1j (SumL.cons z22 (SumL.cons z1p (SumL.cons z2t (SumL.cons z4n (SumL.cons z1g (SumL.cons z2h (SumL.cons z1n (SumL.cons z23 (SumL.cons z3b (SumL.cons z4o (SumL.cons z1d (SumL.cons z38 (SumL.cons z1o (SumL.cons z1q (SumL.cons z0x (SumL.cons z35 (SumL.cons z2r (SumL.cons z34 (SumL.cons z21 (SumL.cons z2e (SumL.cons z33 (SumL.cons z2b (SumL.cons z1c (SumL.cons z13 (SumL.cons z1z (SumL.cons z2d (SumL.cons z2z (SumL.cons z1w (SumL.cons z41 (SumL.cons z1x (SumL.nil))))))))))))))))))))))))))))))))))
theorem lt3_ok : LpL Try.prog fnTab lt3 := LpL.cons z14 (LpL.cons z19 (LpL.cons z18 (LpL.cons z10 (LpL.nil))))
noncomputable def z2q : List PT → Option (Bool × AV × List Blk)
  | [.one (.s (.flt .f64 q1x))] => some ((zf1 q1x), ((AV.v (TV.one (At.flt FloatKind.f64 (z11 q1x)))), []))
  | _ => none
def zj9 (q1x : Nat) : Option (Nat) → Option (AV × List Blk)
  | some r => some ((AV.v (TV.one (At.flt FloatKind.f64 r))), [])
  | none => none
theorem zog (q1x : Nat) : evFn Γ3 8 8 104 (impTs 0 [.one (.s (.flt .f64 q1x))]).1 (impTs 0 [.one (.s (.flt .f64 q1x))]).2 (expo (impTs 0 [.one (.s (.flt .f64 q1x))]).2.length) = za7 q1x (fun c0_ => some ((AV.v (TV.one (At.flt FloatKind.f64 c0_))), [])) := by kernel_rfl
theorem z28 : SumOne Try.prog 104 z2q := sum_of (Γ := Γ3) (fuel := 8) (d := 8) tyTab_ok (FnL.ok fnTab_ok _ _) (LpL.ok lt3_ok) (SumL.ok tb3_ok _) mixed (by
  intro pts v news hp hc
  clear hc
  unfold z2q at hp
  split at hp
  · rename_i q1x
    exact Eq.trans (Eq.trans (zog q1x) (zlb (zj9 q1x) rfl q1x (fun c0_ => some c0_))) (fin_out (o := (zj9 q1x)) (x := zal q1x) (d := default) (V := fun r => ((AV.v (TV.one (At.flt FloatKind.f64 r))), [])) (fun r => rfl) hp)
  · cases hp)
noncomputable def z36 : List PT → Option (Bool × AV × List Blk)
  | [.agg [.row 1 q11 (.fl .f32 q1d), .row 1 q16 (.fl .f32 q1g), .row 1 q17 (.fl .f32 q1h)]] => some ((zgg q11 q1d q16 q1g q17 q1h), ((AV.v (TV.agg [(At.sl 0 0 (zf7 q11 q1d q16 q1g q17 q1h) 1), (At.sl 1 0 (zf5 q11 q1d q16 q1g q17 q1h) 1), (At.sl 2 0 (zf3 q11 q1d q16 q1g q17 q1h) 1)])), [(Blk.mk Bool.true (Body.fl FloatKind.f32 (zf8 q11 q1d q16 q1g q17 q1h))), (Blk.mk Bool.true (Body.fl FloatKind.f32 (zf4 q11 q1d q16 q1g q17 q1h))), (Blk.mk Bool.true (Body.fl FloatKind.f32 (zfg q11 q1d q16 q1g q17 q1h)))]))
  | _ => none
def zk3 (q11 : Nat) (q1d : List Nat) (q16 : Nat) (q1g : List Nat) (q17 : Nat) (q1h : List Nat) : Option (Nat × Nat × Nat × (List Nat) × (List Nat) × (List Nat)) → Option (AV × List Blk)
  | some r => some ((AV.v (TV.agg [(At.sl 0 0 r.1 1), (At.sl 1 0 r.2.1 1), (At.sl 2 0 r.2.2.1 1)])), [(Blk.mk Bool.true (Body.fl FloatKind.f32 r.2.2.2.1)), (Blk.mk Bool.true (Body.fl FloatKind.f32 r.2.2.2.2.1)), (Blk.mk Bool.true (Body.fl FloatKind.f32 r.2.2.2.2.2))])
  | none => none
theorem zpj (q11 : Nat) (q1d : List Nat) (q16 : Nat) (q1g : List Nat) (q17 : Nat) (q1h : List Nat) : evFn Γ3 8 8 119 (impTs 0 [.agg [.row 1 q11 (.fl .f32 q1d), .row 1 q16 (.fl .f32 q1g), .row 1 q17 (.fl .f32 q1h)]]).1 (impTs 0 [.agg [.row 1 q11 (.fl .f32 q1d), .row 1 q16 (.fl .f32 q1g), .row 1 q17 (.fl .f32 q1h)]]).2 (expo (impTs 0 [.agg [.row 1 q11 (.fl .f32 q1d), .row 1 q16 (.fl .f32 q1g), .row 1 q17 (.fl .f32 q1h)]]).2.length) = zba q11 q1d q16 q1g q17 q1h (fun c0_ c1_ c2_ c3_ c4_ c5_ => some ((AV.v (TV.agg [(At.sl 0 0 c0_ 1), (At.sl 1 0 c1_ 1), (At.sl 2 0 c2_ 1)])), [(Blk.mk Bool.true (Body.fl FloatKind.f32 c3_)), (Blk.mk Bool.true (Body.fl FloatKind.f32 c4_)), (Blk.mk Bool.true (Body.fl FloatKind.f32 c5_))])) := by kernel_rfl
theorem z2k : SumOne Try.prog 119 z36 := sum_of (Γ := Γ3) (fuel := 8) (d := 8) tyTab_ok (FnL.ok fnTab_ok _ _) (LpL.ok lt3_ok) (SumL.ok tb3_ok _) mixed (by
  intro pts v news hp hc
  clear hc
  unfold z36 at hp
  split at hp
  · rename_i q11 q1d q16 q1g q17 q1h
    exact Eq.trans (Eq.trans (zpj q11 q1d q16 q1g q17 q1h) (zm9 (zk3 q11 q1d q16 q1g q17 q1h) rfl q11 q1d q16 q1g q17 q1h (fun c0_ c1_ c2_ c3_ c4_ c5_ => some (c0_, c1_, c2_, c3_, c4_, c5_)))) (fin_out (o := (zk3 q11 q1d q16 q1g q17 q1h)) (x := z75 q11 q1d q16 q1g q17 q1h) (d := default) (V := fun r => ((AV.v (TV.agg [(At.sl 0 0 r.1 1), (At.sl 1 0 r.2.1 1), (At.sl 2 0 r.2.2.1 1)])), [(Blk.mk Bool.true (Body.fl FloatKind.f32 r.2.2.2.1)), (Blk.mk Bool.true (Body.fl FloatKind.f32 r.2.2.2.2.1)), (Blk.mk Bool.true (Body.fl FloatKind.f32 r.2.2.2.2.2))])) (fun r => rfl) hp)
  · cases hp)
noncomputable def z2s : List PT → Option (Bool × AV × List Blk)
  | [.one (.row 3 a_n (.fl .f32 a))] => some ((zfa a_n a), ((AV.v (TV.one (At.sl 0 0 (ze2 a_n a) 3))), [(Blk.mk Bool.true (Body.fl FloatKind.f32 (ze5 a_n a)))]))
  | _ => none
def zjf (a_n : Nat) (a : List Nat) : Option (Nat × (List Nat)) → Option (AV × List Blk)
  | some r => some ((AV.v (TV.one (At.sl 0 0 r.1 3))), [(Blk.mk Bool.true (Body.fl FloatKind.f32 r.2))])
  | none => none
theorem zox (a_n : Nat) (a : List Nat) : evFn Γ3 8 8 120 (impTs 0 [.one (.row 3 a_n (.fl .f32 a))]).1 (impTs 0 [.one (.row 3 a_n (.fl .f32 a))]).2 (expo (impTs 0 [.one (.row 3 a_n (.fl .f32 a))]).2.length) = zak a_n a (fun c0_ c1_ => some ((AV.v (TV.one (At.sl 0 0 c0_ 3))), [(Blk.mk Bool.true (Body.fl FloatKind.f32 c1_))])) := by kernel_rfl
theorem z29 : SumOne Try.prog 120 z2s := sum_of (Γ := Γ3) (fuel := 8) (d := 8) tyTab_ok (FnL.ok fnTab_ok _ _) (LpL.ok lt3_ok) (SumL.ok tb3_ok _) mixed (by
  intro pts v news hp hc
  clear hc
  unfold z2s at hp
  split at hp
  · rename_i a_n a
    exact Eq.trans (Eq.trans (zox a_n a) (zll (zjf a_n a) rfl a_n a (fun c0_ c1_ => some (c0_, c1_)))) (fin_out (o := (zjf a_n a)) (x := z8x a_n a) (d := default) (V := fun r => ((AV.v (TV.one (At.sl 0 0 r.1 3))), [(Blk.mk Bool.true (Body.fl FloatKind.f32 r.2))])) (fun r => rfl) hp)
  · cases hp)
noncomputable def z2p : List PT → Option (Bool × AV × List Blk)
  | [.one (.row 1 a_n (.fl .f32 a)), .one (.row 1 b_n (.fl .f32 b))] => some ((zah a_n a b_n b), ((AV.v (TV.one (At.bool (z9k a_n a b_n b)))), []))
  | _ => none
def zjj (a_n : Nat) (a : List Nat) (b_n : Nat) (b : List Nat) : Option (Bool) → Option (AV × List Blk)
  | some r => some ((AV.v (TV.one (At.bool r))), [])
  | none => none
theorem zof (a_n : Nat) (a : List Nat) (b_n : Nat) (b : List Nat) : evFn Γ3 8 8 168 (impTs 0 [.one (.row 1 a_n (.fl .f32 a)), .one (.row 1 b_n (.fl .f32 b))]).1 (impTs 0 [.one (.row 1 a_n (.fl .f32 a)), .one (.row 1 b_n (.fl .f32 b))]).2 (expo (impTs 0 [.one (.row 1 a_n (.fl .f32 a)), .one (.row 1 b_n (.fl .f32 b))]).2.length) = z9z a_n a b_n b (fun c0_ => some ((AV.v (TV.one (At.bool c0_))), [])) := by kernel_rfl
theorem z2a : SumOne Try.prog 168 z2p := sum_of (Γ := Γ3) (fuel := 8) (d := 8) tyTab_ok (FnL.ok fnTab_ok _ _) (LpL.ok lt3_ok) (SumL.ok tb3_ok _) mixed (by
  intro pts v news hp hc
  clear hc
  unfold z2p at hp
  split at hp
  · rename_i a_n a b_n b
    exact Eq.trans (Eq.trans (zof a_n a b_n b) (zlt (zjj a_n a b_n b) rfl a_n a b_n b (fun c0_ => some c0_))) (fin_out (o := (zjj a_n a b_n b)) (x := z9y a_n a b_n b) (d := default) (V := fun r => ((AV.v (TV.one (At.bool r))), [])) (fun r => rfl) hp)
  · cases hp)
noncomputable def z2c : List PT → Option (Bool × AV × List Blk)
  | [.one (.s (.flt .f64 q10))] => some ((zeo q10), ((AV.v (TV.one (At.flt FloatKind.f64 (zar q10)))), []))
  | _ => none
def ziz (q10 : Nat) : Option (Nat) → Option (AV × List Blk)
  | some r => some ((AV.v (TV.one (At.flt FloatKind.f64 r))), [])
  | none => none
theorem zoa (q10 : Nat) : evFn Γ3 8 8 188 (impTs 0 [.one (.s (.flt .f64 q10))]).1 (impTs 0 [.one (.s (.flt .f64 q10))]).2 (expo (impTs 0 [.one (.s (.flt .f64 q10))]).2.length) = z7x q10 (fun c0_ => some ((AV.v (TV.one (At.flt FloatKind.f64 c0_))), [])) := by kernel_rfl
theorem z20 : SumOne Try.prog 188 z2c := sum_of (Γ := Γ3) (fuel := 8) (d := 8) tyTab_ok (FnL.ok fnTab_ok _ _) (LpL.ok lt3_ok) (SumL.ok tb3_ok _) mixed (by
  intro pts v news hp hc
  clear hc
  unfold z2c at hp
  split at hp
  · rename_i q10
    exact Eq.trans (Eq.trans (zoa q10) (zkv (ziz q10) rfl q10 (fun c0_ => some c0_))) (fin_out (o := (ziz q10)) (x := z7l q10) (d := default) (V := fun r => ((AV.v (TV.one (At.flt FloatKind.f64 r))), [])) (fun r => rfl) hp)
  · cases hp)
noncomputable def z1m : Nat → St → Option (Bool × LO)
  | 2, (St.mk [(0, (AV.v (TV.one (At.vw 0 0 an 3)))), (1, (AV.v (TV.one (At.vw 1 0 bn 3)))), (5, (AV.v (TV.one (At.int IntKind.i64 i))))] [(Blk.mk Bool.false (Body.fl FloatKind.f32 b0)), (Blk.mk Bool.false (Body.fl FloatKind.f32 b1))]) => some ((z9p an bn b0 b1 i), (LO.two (z9e an bn b0 b1 i) (LO.one Ex.ret (St.mk [(4, (AV.v (TV.one (At.bool Bool.false))))] [(Blk.mk Bool.false (Body.fl FloatKind.f32 b0)), (Blk.mk Bool.false (Body.fl FloatKind.f32 b1))])) (LO.one (Ex.exit 0) (St.mk [(0, (AV.v (TV.one (At.vw 0 0 an 3)))), (1, (AV.v (TV.one (At.vw 1 0 bn 3)))), (5, (AV.v (TV.one (At.int IntKind.i64 (zdg an bn b0 b1 i))))), (14, (AV.v (TV.one (At.bool (zdh an bn b0 b1 i)))))] [(Blk.mk Bool.false (Body.fl FloatKind.f32 b0)), (Blk.mk Bool.false (Body.fl FloatKind.f32 b1))]))))
  | _, _ => none
def z9x (an : Nat) (bn : Nat) (b0 : List Nat) (b1 : List Nat) : Option ((Unit) ⊕ (Int × Bool)) → Option (Ex × St)
  | none => none
  | some (Sum.inl r) => some (Ex.ret, (St.mk [(4, (AV.v (TV.one (At.bool Bool.false))))] [(Blk.mk Bool.false (Body.fl FloatKind.f32 b0)), (Blk.mk Bool.false (Body.fl FloatKind.f32 b1))]))
  | some (Sum.inr r) => some ((Ex.exit 0), (St.mk [(0, (AV.v (TV.one (At.vw 0 0 an 3)))), (1, (AV.v (TV.one (At.vw 1 0 bn 3)))), (5, (AV.v (TV.one (At.int IntKind.i64 r.1)))), (14, (AV.v (TV.one (At.bool r.2))))] [(Blk.mk Bool.false (Body.fl FloatKind.f32 b0)), (Blk.mk Bool.false (Body.fl FloatKind.f32 b1))]))
def zls (an : Nat) (bn : Nat) (b0 : List Nat) (b1 : List Nat) (x : Option ((Unit) ⊕ (Int × Bool))) : LO := (LO.two (oL x) (LO.one Ex.ret (St.mk [(4, (AV.v (TV.one (At.bool Bool.false))))] [(Blk.mk Bool.false (Body.fl FloatKind.f32 b0)), (Blk.mk Bool.false (Body.fl FloatKind.f32 b1))])) (LO.one (Ex.exit 0) (St.mk [(0, (AV.v (TV.one (At.vw 0 0 an 3)))), (1, (AV.v (TV.one (At.vw 1 0 bn 3)))), (5, (AV.v (TV.one (At.int IntKind.i64 ((tR x).getD default).1)))), (14, (AV.v (TV.one (At.bool ((tR x).getD default).2))))] [(Blk.mk Bool.false (Body.fl FloatKind.f32 b0)), (Blk.mk Bool.false (Body.fl FloatKind.f32 b1))])))
theorem zmx (an : Nat) (bn : Nat) (b0 : List Nat) (b1 : List Nat) : ∀ x : Option ((Unit) ⊕ (Int × Bool)), x.isSome = true → (z9x an bn b0 b1) x = some (pick (zls an bn b0 b1 x))
  | none, h => by cases h
  | some (Sum.inl r), _ => rfl
  | some (Sum.inr r), _ => rfl
theorem zme (an : Nat) (bn : Nat) (i : Int) (b0 : List Nat) (b1 : List Nat) (K : Ex → St → Option (Ex × St)) : evC (R := Ex × St) Γ3 (evFn Γ3 8 8) 122 2 fi122.nt fi122.live fi122.nl 8 (findL 4 (loopsIn fi122.code)) (St.mk [(0, (AV.v (TV.one (At.vw 0 0 an 3)))), (1, (AV.v (TV.one (At.vw 1 0 bn 3)))), (5, (AV.v (TV.one (At.int IntKind.i64 i))))] [(Blk.mk Bool.false (Body.fl FloatKind.f32 b0)), (Blk.mk Bool.false (Body.fl FloatKind.f32 b1))]) K = z6y an bn b0 b1 i (fun i' => K .normal (St.mk [(0, (AV.v (TV.one (At.vw 0 0 an 3)))), (1, (AV.v (TV.one (At.vw 1 0 bn 3)))), (5, (AV.v (TV.one (At.int IntKind.i64 i'))))] [(Blk.mk Bool.false (Body.fl FloatKind.f32 b0)), (Blk.mk Bool.false (Body.fl FloatKind.f32 b1))])) (fun _ => K Ex.ret (St.mk [(4, (AV.v (TV.one (At.bool Bool.false))))] [(Blk.mk Bool.false (Body.fl FloatKind.f32 b0)), (Blk.mk Bool.false (Body.fl FloatKind.f32 b1))])) (fun c0_ c1_ => K (Ex.exit 0) (St.mk [(0, (AV.v (TV.one (At.vw 0 0 an 3)))), (1, (AV.v (TV.one (At.vw 1 0 bn 3)))), (5, (AV.v (TV.one (At.int IntKind.i64 c0_)))), (14, (AV.v (TV.one (At.bool c1_))))] [(Blk.mk Bool.false (Body.fl FloatKind.f32 b0)), (Blk.mk Bool.false (Body.fl FloatKind.f32 b1))])) := by kernel_rfl
theorem zmd (an : Nat) (bn : Nat) (b0 : List Nat) (b1 : List Nat) : ∀ (n : Nat) (i : Int), iter 122 4 2 (evC (R := Ex × St) Γ3 (evFn Γ3 8 8) 122 2 fi122.nt fi122.live fi122.nl 8 (findL 4 (loopsIn fi122.code))) n (St.mk [(0, (AV.v (TV.one (At.vw 0 0 an 3)))), (1, (AV.v (TV.one (At.vw 1 0 bn 3)))), (5, (AV.v (TV.one (At.int IntKind.i64 i))))] [(Blk.mk Bool.false (Body.fl FloatKind.f32 b0)), (Blk.mk Bool.false (Body.fl FloatKind.f32 b1))]) (fun e st => some (e, st)) = (z9x an bn b0 b1) (z5k an bn b0 b1 n i) := by
  intro n
  induction n with
  | zero => intros; rfl
  | succ n ih =>
    intro i
    refine Eq.trans (iter_succ ..) (Eq.trans (zme an bn i b0 b1 (nextK 122 4 2 (evC (R := Ex × St) Γ3 (evFn Γ3 8 8) 122 2 fi122.nt fi122.live fi122.nl 8 (findL 4 (loopsIn fi122.code))) n (fun e st => some (e, st)))) (Eq.trans ?_ (zk1 (z9x an bn b0 b1) rfl an bn b0 b1 i (fun i' => z5k an bn b0 b1 n i') (fun _ => some (Sum.inl ())) (fun c0_ c1_ => some (Sum.inr (c0_, c1_))))))
    exact congrArg (fun kn_ => z6y an bn b0 b1 i kn_ (fun _ => (z9x an bn b0 b1) (some (Sum.inl ()))) (fun c0_ c1_ => (z9x an bn b0 b1) (some (Sum.inr (c0_, c1_))))) (funext fun i' => ih i')
theorem z1i : LoopOne Try.prog fnTab 122 4 z1m := lp_of (Γ := Γ3) tyTab_ok (FnL.ok fnTab_ok _ _) (LpL.ok lt3_ok) (SumL.ok tb3_ok _) mixed (fi := fi122) (by kernel_rfl) (by kernel_rfl) (by
  intro lo st out hp
  unfold z1m at hp
  split at hp
  · rename_i an bn i b0 b1
    injection hp with hp
    injection hp with h1 h2
    subst h2
    exact ⟨8, 8, big, Eq.trans (zmd an bn b0 b1 big i) (zmx an bn b0 b1 (z5k an bn b0 b1 big i) h1)⟩
  · cases hp)
noncomputable def z04 : Nat → St → Option (Bool × LO)
  | 1, (St.mk [(0, (AV.v (TV.one (At.vw 0 0 sn 1)))), (1, (AV.v (TV.one (At.fn 148 [])))), (7, (AV.v (TV.one (At.int IntKind.i64 t7)))), (8, (AV.v (TV.one (At.int IntKind.i64 t8))))] [(Blk.mk Bool.false (Body.fl FloatKind.f32 b0))]) => some ((z46 sn t7 b0 t8), (LO.two (z40 sn t7 b0 t8) (LO.one Ex.ret (St.mk [(4, (AV.v (TV.one (At.int IntKind.i64 (z66 sn t7 b0 t8)))))] [(Blk.mk Bool.false (Body.fl FloatKind.f32 b0))])) (LO.one (Ex.exit 0) (St.mk [(0, (AV.v (TV.one (At.vw 0 0 sn 1)))), (1, (AV.v (TV.one (At.fn 148 [])))), (7, (AV.v (TV.one (At.int IntKind.i64 t7)))), (8, (AV.v (TV.one (At.int IntKind.i64 (z7o sn t7 b0 t8))))), (9, (AV.v (TV.one (At.bool (z7m sn t7 b0 t8)))))] [(Blk.mk Bool.false (Body.fl FloatKind.f32 b0))]))))
  | _, _ => none
def z5p (sn : Nat) (t7 : Int) (b0 : List Nat) : Option ((Int) ⊕ (Int × Bool)) → Option (Ex × St)
  | none => none
  | some (Sum.inl r) => some (Ex.ret, (St.mk [(4, (AV.v (TV.one (At.int IntKind.i64 r))))] [(Blk.mk Bool.false (Body.fl FloatKind.f32 b0))]))
  | some (Sum.inr r) => some ((Ex.exit 0), (St.mk [(0, (AV.v (TV.one (At.vw 0 0 sn 1)))), (1, (AV.v (TV.one (At.fn 148 [])))), (7, (AV.v (TV.one (At.int IntKind.i64 t7)))), (8, (AV.v (TV.one (At.int IntKind.i64 r.1)))), (9, (AV.v (TV.one (At.bool r.2))))] [(Blk.mk Bool.false (Body.fl FloatKind.f32 b0))]))
def zex (sn : Nat) (t7 : Int) (b0 : List Nat) (x : Option ((Int) ⊕ (Int × Bool))) : LO := (LO.two (oL x) (LO.one Ex.ret (St.mk [(4, (AV.v (TV.one (At.int IntKind.i64 ((tL x).getD default)))))] [(Blk.mk Bool.false (Body.fl FloatKind.f32 b0))])) (LO.one (Ex.exit 0) (St.mk [(0, (AV.v (TV.one (At.vw 0 0 sn 1)))), (1, (AV.v (TV.one (At.fn 148 [])))), (7, (AV.v (TV.one (At.int IntKind.i64 t7)))), (8, (AV.v (TV.one (At.int IntKind.i64 ((tR x).getD default).1)))), (9, (AV.v (TV.one (At.bool ((tR x).getD default).2))))] [(Blk.mk Bool.false (Body.fl FloatKind.f32 b0))])))
theorem zg7 (sn : Nat) (t7 : Int) (b0 : List Nat) : ∀ x : Option ((Int) ⊕ (Int × Bool)), x.isSome = true → (z5p sn t7 b0) x = some (pick (zex sn t7 b0 x))
  | none, h => by cases h
  | some (Sum.inl r), _ => rfl
  | some (Sum.inr r), _ => rfl
theorem zfm (sn : Nat) (t7 : Int) (t8 : Int) (b0 : List Nat) (K : Ex → St → Option (Ex × St)) : evC (R := Ex × St) Γ3 (evFn Γ3 8 8) 178 1 fi178.nt fi178.live fi178.nl 8 (findL 2 (loopsIn fi178.code)) (St.mk [(0, (AV.v (TV.one (At.vw 0 0 sn 1)))), (1, (AV.v (TV.one (At.fn 148 [])))), (7, (AV.v (TV.one (At.int IntKind.i64 t7)))), (8, (AV.v (TV.one (At.int IntKind.i64 t8))))] [(Blk.mk Bool.false (Body.fl FloatKind.f32 b0))]) K = z1l sn t7 b0 t8 (fun t8' => K .normal (St.mk [(0, (AV.v (TV.one (At.vw 0 0 sn 1)))), (1, (AV.v (TV.one (At.fn 148 [])))), (7, (AV.v (TV.one (At.int IntKind.i64 t7)))), (8, (AV.v (TV.one (At.int IntKind.i64 t8'))))] [(Blk.mk Bool.false (Body.fl FloatKind.f32 b0))])) (fun c0_ => K Ex.ret (St.mk [(4, (AV.v (TV.one (At.int IntKind.i64 c0_))))] [(Blk.mk Bool.false (Body.fl FloatKind.f32 b0))])) (fun c0_ c1_ => K (Ex.exit 0) (St.mk [(0, (AV.v (TV.one (At.vw 0 0 sn 1)))), (1, (AV.v (TV.one (At.fn 148 [])))), (7, (AV.v (TV.one (At.int IntKind.i64 t7)))), (8, (AV.v (TV.one (At.int IntKind.i64 c0_)))), (9, (AV.v (TV.one (At.bool c1_))))] [(Blk.mk Bool.false (Body.fl FloatKind.f32 b0))])) := by kernel_rfl
theorem zfw (sn : Nat) (t7 : Int) (b0 : List Nat) : ∀ (n : Nat) (t8 : Int), iter 178 2 1 (evC (R := Ex × St) Γ3 (evFn Γ3 8 8) 178 1 fi178.nt fi178.live fi178.nl 8 (findL 2 (loopsIn fi178.code))) n (St.mk [(0, (AV.v (TV.one (At.vw 0 0 sn 1)))), (1, (AV.v (TV.one (At.fn 148 [])))), (7, (AV.v (TV.one (At.int IntKind.i64 t7)))), (8, (AV.v (TV.one (At.int IntKind.i64 t8))))] [(Blk.mk Bool.false (Body.fl FloatKind.f32 b0))]) (fun e st => some (e, st)) = (z5p sn t7 b0) (z0o sn t7 b0 n t8) := by
  intro n
  induction n with
  | zero => intros; rfl
  | succ n ih =>
    intro t8
    refine Eq.trans (iter_succ ..) (Eq.trans (zfm sn t7 t8 b0 (nextK 178 2 1 (evC (R := Ex × St) Γ3 (evFn Γ3 8 8) 178 1 fi178.nt fi178.live fi178.nl 8 (findL 2 (loopsIn fi178.code))) n (fun e st => some (e, st)))) (Eq.trans ?_ (zdk (z5p sn t7 b0) rfl sn t7 b0 t8 (fun t8' => z0o sn t7 b0 n t8') (fun c0_ => some (Sum.inl c0_)) (fun c0_ c1_ => some (Sum.inr (c0_, c1_))))))
    exact congrArg (fun kn_ => z1l sn t7 b0 t8 kn_ (fun c0_ => (z5p sn t7 b0) (some (Sum.inl c0_))) (fun c0_ c1_ => (z5p sn t7 b0) (some (Sum.inr (c0_, c1_))))) (funext fun t8' => ih t8')
theorem z05 : LoopOne Try.prog fnTab 178 2 z04 := lp_of (Γ := Γ3) tyTab_ok (FnL.ok fnTab_ok _ _) (LpL.ok lt3_ok) (SumL.ok tb3_ok _) mixed (fi := fi178) (by kernel_rfl) (by kernel_rfl) (by
  intro lo st out hp
  unfold z04 at hp
  split at hp
  · rename_i sn t7 t8 b0
    injection hp with hp
    injection hp with h1 h2
    subst h2
    exact ⟨8, 8, big, Eq.trans (zfw sn t7 b0 big t8) (zg7 sn t7 b0 (z0o sn t7 b0 big t8) h1)⟩
  · cases hp)
noncomputable def z02 : Nat → St → Option (Bool × LO)
  | 1, (St.mk [(0, (AV.v (TV.one (At.vw 0 0 sn 1)))), (1, (AV.v (TV.one (At.fn 150 [])))), (7, (AV.v (TV.one (At.int IntKind.i64 t7)))), (8, (AV.v (TV.one (At.int IntKind.i64 t8))))] [(Blk.mk Bool.false (Body.fl FloatKind.f32 b0))]) => some ((z3u sn t7 b0 t8), (LO.two (z3n sn t7 b0 t8) (LO.one Ex.ret (St.mk [(4, (AV.v (TV.one (At.int IntKind.i64 (z5z sn t7 b0 t8)))))] [(Blk.mk Bool.false (Body.fl FloatKind.f32 b0))])) (LO.one (Ex.exit 0) (St.mk [(0, (AV.v (TV.one (At.vw 0 0 sn 1)))), (1, (AV.v (TV.one (At.fn 150 [])))), (7, (AV.v (TV.one (At.int IntKind.i64 t7)))), (8, (AV.v (TV.one (At.int IntKind.i64 (z7c sn t7 b0 t8))))), (9, (AV.v (TV.one (At.bool (z7b sn t7 b0 t8)))))] [(Blk.mk Bool.false (Body.fl FloatKind.f32 b0))]))))
  | _, _ => none
def z5f (sn : Nat) (t7 : Int) (b0 : List Nat) : Option ((Int) ⊕ (Int × Bool)) → Option (Ex × St)
  | none => none
  | some (Sum.inl r) => some (Ex.ret, (St.mk [(4, (AV.v (TV.one (At.int IntKind.i64 r))))] [(Blk.mk Bool.false (Body.fl FloatKind.f32 b0))]))
  | some (Sum.inr r) => some ((Ex.exit 0), (St.mk [(0, (AV.v (TV.one (At.vw 0 0 sn 1)))), (1, (AV.v (TV.one (At.fn 150 [])))), (7, (AV.v (TV.one (At.int IntKind.i64 t7)))), (8, (AV.v (TV.one (At.int IntKind.i64 r.1)))), (9, (AV.v (TV.one (At.bool r.2))))] [(Blk.mk Bool.false (Body.fl FloatKind.f32 b0))]))
def zeg (sn : Nat) (t7 : Int) (b0 : List Nat) (x : Option ((Int) ⊕ (Int × Bool))) : LO := (LO.two (oL x) (LO.one Ex.ret (St.mk [(4, (AV.v (TV.one (At.int IntKind.i64 ((tL x).getD default)))))] [(Blk.mk Bool.false (Body.fl FloatKind.f32 b0))])) (LO.one (Ex.exit 0) (St.mk [(0, (AV.v (TV.one (At.vw 0 0 sn 1)))), (1, (AV.v (TV.one (At.fn 150 [])))), (7, (AV.v (TV.one (At.int IntKind.i64 t7)))), (8, (AV.v (TV.one (At.int IntKind.i64 ((tR x).getD default).1)))), (9, (AV.v (TV.one (At.bool ((tR x).getD default).2))))] [(Blk.mk Bool.false (Body.fl FloatKind.f32 b0))])))
theorem zet (sn : Nat) (t7 : Int) (b0 : List Nat) : ∀ x : Option ((Int) ⊕ (Int × Bool)), x.isSome = true → (z5f sn t7 b0) x = some (pick (zeg sn t7 b0 x))
  | none, h => by cases h
  | some (Sum.inl r), _ => rfl
  | some (Sum.inr r), _ => rfl
theorem zeu (sn : Nat) (t7 : Int) (t8 : Int) (b0 : List Nat) (K : Ex → St → Option (Ex × St)) : evC (R := Ex × St) Γ3 (evFn Γ3 8 8) 178 1 fi178.nt fi178.live fi178.nl 8 (findL 2 (loopsIn fi178.code)) (St.mk [(0, (AV.v (TV.one (At.vw 0 0 sn 1)))), (1, (AV.v (TV.one (At.fn 150 [])))), (7, (AV.v (TV.one (At.int IntKind.i64 t7)))), (8, (AV.v (TV.one (At.int IntKind.i64 t8))))] [(Blk.mk Bool.false (Body.fl FloatKind.f32 b0))]) K = z1h sn t7 b0 t8 (fun t8' => K .normal (St.mk [(0, (AV.v (TV.one (At.vw 0 0 sn 1)))), (1, (AV.v (TV.one (At.fn 150 [])))), (7, (AV.v (TV.one (At.int IntKind.i64 t7)))), (8, (AV.v (TV.one (At.int IntKind.i64 t8'))))] [(Blk.mk Bool.false (Body.fl FloatKind.f32 b0))])) (fun c0_ => K Ex.ret (St.mk [(4, (AV.v (TV.one (At.int IntKind.i64 c0_))))] [(Blk.mk Bool.false (Body.fl FloatKind.f32 b0))])) (fun c0_ c1_ => K (Ex.exit 0) (St.mk [(0, (AV.v (TV.one (At.vw 0 0 sn 1)))), (1, (AV.v (TV.one (At.fn 150 [])))), (7, (AV.v (TV.one (At.int IntKind.i64 t7)))), (8, (AV.v (TV.one (At.int IntKind.i64 c0_)))), (9, (AV.v (TV.one (At.bool c1_))))] [(Blk.mk Bool.false (Body.fl FloatKind.f32 b0))])) := by kernel_rfl
theorem zeq (sn : Nat) (t7 : Int) (b0 : List Nat) : ∀ (n : Nat) (t8 : Int), iter 178 2 1 (evC (R := Ex × St) Γ3 (evFn Γ3 8 8) 178 1 fi178.nt fi178.live fi178.nl 8 (findL 2 (loopsIn fi178.code))) n (St.mk [(0, (AV.v (TV.one (At.vw 0 0 sn 1)))), (1, (AV.v (TV.one (At.fn 150 [])))), (7, (AV.v (TV.one (At.int IntKind.i64 t7)))), (8, (AV.v (TV.one (At.int IntKind.i64 t8))))] [(Blk.mk Bool.false (Body.fl FloatKind.f32 b0))]) (fun e st => some (e, st)) = (z5f sn t7 b0) (z0n sn t7 b0 n t8) := by
  intro n
  induction n with
  | zero => intros; rfl
  | succ n ih =>
    intro t8
    refine Eq.trans (iter_succ ..) (Eq.trans (zeu sn t7 t8 b0 (nextK 178 2 1 (evC (R := Ex × St) Γ3 (evFn Γ3 8 8) 178 1 fi178.nt fi178.live fi178.nl 8 (findL 2 (loopsIn fi178.code))) n (fun e st => some (e, st)))) (Eq.trans ?_ (zcp (z5f sn t7 b0) rfl sn t7 b0 t8 (fun t8' => z0n sn t7 b0 n t8') (fun c0_ => some (Sum.inl c0_)) (fun c0_ c1_ => some (Sum.inr (c0_, c1_))))))
    exact congrArg (fun kn_ => z1h sn t7 b0 t8 kn_ (fun c0_ => (z5f sn t7 b0) (some (Sum.inl c0_))) (fun c0_ c1_ => (z5f sn t7 b0) (some (Sum.inr (c0_, c1_))))) (funext fun t8' => ih t8')
theorem z03 : LoopOne Try.prog fnTab 178 2 z02 := lp_of (Γ := Γ3) tyTab_ok (FnL.ok fnTab_ok _ _) (LpL.ok lt3_ok) (SumL.ok tb3_ok _) mixed (fi := fi178) (by kernel_rfl) (by kernel_rfl) (by
  intro lo st out hp
  unfold z02 at hp
  split at hp
  · rename_i sn t7 t8 b0
    injection hp with hp
    injection hp with h1 h2
    subst h2
    exact ⟨8, 8, big, Eq.trans (zeq sn t7 b0 big t8) (zet sn t7 b0 (z0n sn t7 b0 big t8) h1)⟩
  · cases hp)
noncomputable def z3l : Nat → St → Option (Bool × LO)
  | 4, (St.mk [(0, (AV.v (TV.one (At.ptr 3 0 3)))), (3, (AV.v (TV.one (At.int IntKind.i64 t3)))), (4, (AV.v (TV.one (At.int IntKind.i64 t4))))] [(Blk.mk Bool.false (Body.fl FloatKind.f32 b0)), (Blk.mk Bool.false (Body.fl FloatKind.f32 b1)), (Blk.mk Bool.false (Body.fl FloatKind.f32 b2)), (Blk.mk Bool.false (Body.cells [(At.vw 0 0 q18 1), (At.vw 1 0 q1j 1), (At.vw 2 0 q1k 1)]))]) => some ((z94 t3 b0 b1 b2 q18 q1j q1k t4), (LO.two (z8m t3 b0 b1 b2 q18 q1j q1k t4) (LO.one Ex.ret (St.mk [(2, (AV.v (TV.one (At.bool Bool.false))))] [(Blk.mk Bool.false (Body.fl FloatKind.f32 b0)), (Blk.mk Bool.false (Body.fl FloatKind.f32 b1)), (Blk.mk Bool.false (Body.fl FloatKind.f32 b2)), (Blk.mk Bool.false (Body.cells [(At.vw 0 0 q18 1), (At.vw 1 0 q1j 1), (At.vw 2 0 q1k 1)]))])) (LO.one (Ex.exit 0) (St.mk [(0, (AV.v (TV.one (At.ptr 3 0 3)))), (3, (AV.v (TV.one (At.int IntKind.i64 t3)))), (4, (AV.v (TV.one (At.int IntKind.i64 (zhl t3 b0 b1 b2 q18 q1j q1k t4))))), (36, (AV.v (TV.one (At.bool (zhg t3 b0 b1 b2 q18 q1j q1k t4)))))] [(Blk.mk Bool.false (Body.fl FloatKind.f32 b0)), (Blk.mk Bool.false (Body.fl FloatKind.f32 b1)), (Blk.mk Bool.false (Body.fl FloatKind.f32 b2)), (Blk.mk Bool.false (Body.cells [(At.vw 0 0 q18 1), (At.vw 1 0 q1j 1), (At.vw 2 0 q1k 1)]))]))))
  | _, _ => none
def zea (t3 : Int) (b0 : List Nat) (b1 : List Nat) (b2 : List Nat) (q18 : Nat) (q1j : Nat) (q1k : Nat) : Option ((Unit) ⊕ (Int × Bool)) → Option (Ex × St)
  | none => none
  | some (Sum.inl r) => some (Ex.ret, (St.mk [(2, (AV.v (TV.one (At.bool Bool.false))))] [(Blk.mk Bool.false (Body.fl FloatKind.f32 b0)), (Blk.mk Bool.false (Body.fl FloatKind.f32 b1)), (Blk.mk Bool.false (Body.fl FloatKind.f32 b2)), (Blk.mk Bool.false (Body.cells [(At.vw 0 0 q18 1), (At.vw 1 0 q1j 1), (At.vw 2 0 q1k 1)]))]))
  | some (Sum.inr r) => some ((Ex.exit 0), (St.mk [(0, (AV.v (TV.one (At.ptr 3 0 3)))), (3, (AV.v (TV.one (At.int IntKind.i64 t3)))), (4, (AV.v (TV.one (At.int IntKind.i64 r.1)))), (36, (AV.v (TV.one (At.bool r.2))))] [(Blk.mk Bool.false (Body.fl FloatKind.f32 b0)), (Blk.mk Bool.false (Body.fl FloatKind.f32 b1)), (Blk.mk Bool.false (Body.fl FloatKind.f32 b2)), (Blk.mk Bool.false (Body.cells [(At.vw 0 0 q18 1), (At.vw 1 0 q1j 1), (At.vw 2 0 q1k 1)]))]))
def zpx (t3 : Int) (b0 : List Nat) (b1 : List Nat) (b2 : List Nat) (q18 : Nat) (q1j : Nat) (q1k : Nat) (x : Option ((Unit) ⊕ (Int × Bool))) : LO := (LO.two (oL x) (LO.one Ex.ret (St.mk [(2, (AV.v (TV.one (At.bool Bool.false))))] [(Blk.mk Bool.false (Body.fl FloatKind.f32 b0)), (Blk.mk Bool.false (Body.fl FloatKind.f32 b1)), (Blk.mk Bool.false (Body.fl FloatKind.f32 b2)), (Blk.mk Bool.false (Body.cells [(At.vw 0 0 q18 1), (At.vw 1 0 q1j 1), (At.vw 2 0 q1k 1)]))])) (LO.one (Ex.exit 0) (St.mk [(0, (AV.v (TV.one (At.ptr 3 0 3)))), (3, (AV.v (TV.one (At.int IntKind.i64 t3)))), (4, (AV.v (TV.one (At.int IntKind.i64 ((tR x).getD default).1)))), (36, (AV.v (TV.one (At.bool ((tR x).getD default).2))))] [(Blk.mk Bool.false (Body.fl FloatKind.f32 b0)), (Blk.mk Bool.false (Body.fl FloatKind.f32 b1)), (Blk.mk Bool.false (Body.fl FloatKind.f32 b2)), (Blk.mk Bool.false (Body.cells [(At.vw 0 0 q18 1), (At.vw 1 0 q1j 1), (At.vw 2 0 q1k 1)]))])))
theorem zql (t3 : Int) (b0 : List Nat) (b1 : List Nat) (b2 : List Nat) (q18 : Nat) (q1j : Nat) (q1k : Nat) : ∀ x : Option ((Unit) ⊕ (Int × Bool)), x.isSome = true → (zea t3 b0 b1 b2 q18 q1j q1k) x = some (pick (zpx t3 b0 b1 b2 q18 q1j q1k x))
  | none, h => by cases h
  | some (Sum.inl r), _ => rfl
  | some (Sum.inr r), _ => rfl
theorem zqm (t3 : Int) (t4 : Int) (b0 : List Nat) (b1 : List Nat) (b2 : List Nat) (q18 : Nat) (q1j : Nat) (q1k : Nat) (K : Ex → St → Option (Ex × St)) : evC (R := Ex × St) Γ3 (evFn Γ3 8 8) 184 4 fi184.nt fi184.live fi184.nl 8 (findL 5 (loopsIn fi184.code)) (St.mk [(0, (AV.v (TV.one (At.ptr 3 0 3)))), (3, (AV.v (TV.one (At.int IntKind.i64 t3)))), (4, (AV.v (TV.one (At.int IntKind.i64 t4))))] [(Blk.mk Bool.false (Body.fl FloatKind.f32 b0)), (Blk.mk Bool.false (Body.fl FloatKind.f32 b1)), (Blk.mk Bool.false (Body.fl FloatKind.f32 b2)), (Blk.mk Bool.false (Body.cells [(At.vw 0 0 q18 1), (At.vw 1 0 q1j 1), (At.vw 2 0 q1k 1)]))]) K = z8f t3 b0 b1 b2 q18 q1j q1k t4 (fun t4' => K .normal (St.mk [(0, (AV.v (TV.one (At.ptr 3 0 3)))), (3, (AV.v (TV.one (At.int IntKind.i64 t3)))), (4, (AV.v (TV.one (At.int IntKind.i64 t4'))))] [(Blk.mk Bool.false (Body.fl FloatKind.f32 b0)), (Blk.mk Bool.false (Body.fl FloatKind.f32 b1)), (Blk.mk Bool.false (Body.fl FloatKind.f32 b2)), (Blk.mk Bool.false (Body.cells [(At.vw 0 0 q18 1), (At.vw 1 0 q1j 1), (At.vw 2 0 q1k 1)]))])) (fun _ => K Ex.ret (St.mk [(2, (AV.v (TV.one (At.bool Bool.false))))] [(Blk.mk Bool.false (Body.fl FloatKind.f32 b0)), (Blk.mk Bool.false (Body.fl FloatKind.f32 b1)), (Blk.mk Bool.false (Body.fl FloatKind.f32 b2)), (Blk.mk Bool.false (Body.cells [(At.vw 0 0 q18 1), (At.vw 1 0 q1j 1), (At.vw 2 0 q1k 1)]))])) (fun c0_ c1_ => K (Ex.exit 0) (St.mk [(0, (AV.v (TV.one (At.ptr 3 0 3)))), (3, (AV.v (TV.one (At.int IntKind.i64 t3)))), (4, (AV.v (TV.one (At.int IntKind.i64 c0_)))), (36, (AV.v (TV.one (At.bool c1_))))] [(Blk.mk Bool.false (Body.fl FloatKind.f32 b0)), (Blk.mk Bool.false (Body.fl FloatKind.f32 b1)), (Blk.mk Bool.false (Body.fl FloatKind.f32 b2)), (Blk.mk Bool.false (Body.cells [(At.vw 0 0 q18 1), (At.vw 1 0 q1j 1), (At.vw 2 0 q1k 1)]))])) := by kernel_rfl
theorem zq4 (t3 : Int) (b0 : List Nat) (b1 : List Nat) (b2 : List Nat) (q18 : Nat) (q1j : Nat) (q1k : Nat) : ∀ (n : Nat) (t4 : Int), iter 184 5 4 (evC (R := Ex × St) Γ3 (evFn Γ3 8 8) 184 4 fi184.nt fi184.live fi184.nl 8 (findL 5 (loopsIn fi184.code))) n (St.mk [(0, (AV.v (TV.one (At.ptr 3 0 3)))), (3, (AV.v (TV.one (At.int IntKind.i64 t3)))), (4, (AV.v (TV.one (At.int IntKind.i64 t4))))] [(Blk.mk Bool.false (Body.fl FloatKind.f32 b0)), (Blk.mk Bool.false (Body.fl FloatKind.f32 b1)), (Blk.mk Bool.false (Body.fl FloatKind.f32 b2)), (Blk.mk Bool.false (Body.cells [(At.vw 0 0 q18 1), (At.vw 1 0 q1j 1), (At.vw 2 0 q1k 1)]))]) (fun e st => some (e, st)) = (zea t3 b0 b1 b2 q18 q1j q1k) (z6g t3 b0 b1 b2 q18 q1j q1k n t4) := by
  intro n
  induction n with
  | zero => intros; rfl
  | succ n ih =>
    intro t4
    refine Eq.trans (iter_succ ..) (Eq.trans (zqm t3 t4 b0 b1 b2 q18 q1j q1k (nextK 184 5 4 (evC (R := Ex × St) Γ3 (evFn Γ3 8 8) 184 4 fi184.nt fi184.live fi184.nl 8 (findL 5 (loopsIn fi184.code))) n (fun e st => some (e, st)))) (Eq.trans ?_ (zn6 (zea t3 b0 b1 b2 q18 q1j q1k) rfl t3 b0 b1 b2 q18 q1j q1k t4 (fun t4' => z6g t3 b0 b1 b2 q18 q1j q1k n t4') (fun _ => some (Sum.inl ())) (fun c0_ c1_ => some (Sum.inr (c0_, c1_))))))
    exact congrArg (fun kn_ => z8f t3 b0 b1 b2 q18 q1j q1k t4 kn_ (fun _ => (zea t3 b0 b1 b2 q18 q1j q1k) (some (Sum.inl ()))) (fun c0_ c1_ => (zea t3 b0 b1 b2 q18 q1j q1k) (some (Sum.inr (c0_, c1_))))) (funext fun t4' => ih t4')
theorem z2x : LoopOne Try.prog fnTab 184 5 z3l := lp_of (Γ := Γ3) tyTab_ok (FnL.ok fnTab_ok _ _) (LpL.ok lt3_ok) (SumL.ok tb3_ok _) mixed (fi := fi184) (by kernel_rfl) (by kernel_rfl) (by
  intro lo st out hp
  unfold z3l at hp
  split at hp
  · rename_i t3 t4 b0 b1 b2 q18 q1j q1k
    injection hp with hp
    injection hp with h1 h2
    subst h2
    exact ⟨8, 8, big, Eq.trans (zq4 t3 b0 b1 b2 q18 q1j q1k big t4) (zql t3 b0 b1 b2 q18 q1j q1k (z6g t3 b0 b1 b2 q18 q1j q1k big t4) h1)⟩
  · cases hp)
noncomputable def tb4 : List (Nat × (List PT → Option (Bool × AV × List Blk))) := [(156, z0w), (181, z1b), (182, z1v), (189, z1y), (26, z2n), (55, z24), (89, z3q), (102, z5w), (112, z1u), (114, z32), (115, z27), (123, z2l), (126, z4e), (157, z5u), (160, z1t), (162, z4g), (167, z25), (187, z26), (83, z0z), (85, z42), (90, z3e), (103, z43), (111, z2j), (116, z2u), (117, z44), (138, z2v), (148, z1r), (150, z16), (169, z2i), (185, z2w), (52, z3v), (154, z2f), (158, z5h), (166, z2g), (104, z2q), (119, z36), (120, z2s), (168, z2p), (188, z2c)]
noncomputable def lt4 : List ((Nat × Nat) × (Nat → St → Option (Bool × LO))) := [((166, 3), z17), ((120, 3), z1f), ((168, 4), z1e), ((188, 17), z12), ((122, 4), z1m), ((178, 2), z04), ((178, 2), z02), ((184, 5), z3l)]
noncomputable def Γ4 : Ctx := ⟨tyTab, fnTab, tblSum tb4, tblLp lt4⟩
theorem tb4_ok : SumL Try.prog tb4 := SumL.cons z0r (SumL.cons z15 (SumL.cons z1k (SumL.cons z1j (SumL.cons z22 (SumL.cons z1p (SumL.cons z2t (SumL.cons z4n (SumL.cons z1g (SumL.cons z2h (SumL.cons z1n (SumL.cons z23 (SumL.cons z3b (SumL.cons z4o (SumL.cons z1d (SumL.cons z38 (SumL.cons z1o (SumL.cons z1q (SumL.cons z0x (SumL.cons z35 (SumL.cons z2r (SumL.cons z34 (SumL.cons z21 (SumL.cons z2e (SumL.cons z33 (SumL.cons z2b (SumL.cons z1c (SumL.cons z13 (SumL.cons z1z (SumL.cons z2d (SumL.cons z2z (SumL.cons z1w (SumL.cons z41 (SumL.cons z1x (SumL.cons z28 (SumL.cons z2k (SumL.cons z29 (SumL.cons z2a (SumL.cons z20 (SumL.nil)))))))))))))))))))))))))))))))))))))))
theorem lt4_ok : LpL Try.prog fnTab lt4 := LpL.cons z14 (LpL.cons z19 (LpL.cons z18 (LpL.cons z10 (LpL.cons z1i (LpL.cons z05 (LpL.cons z03 (LpL.cons z2x (LpL.nil))))))))
noncomputable def z4u : List PT → Option (Bool × AV × List Blk)
  | [.agg [.row 1 q0l (.fl .f32 q0q), .row 1 q0m (.fl .f32 q0s), .row 1 q0n (.fl .f32 q0r), .row 3 q0z (.fl .f32 q14), .s (.int .i64 q1f), .s (.flt .f32 q1m), .s (.flt .f32 q1n)]] => some ((zb1 q0l q0q q0m q0s q0n q0r q0z q14 q1f q1m q1n), ((AV.v (TV.agg [(At.sl 0 0 (z0u q0l q0q q0m q0s q0n q0r q0z q14 q1f q1m q1n) 1), (At.sl 1 0 (z0t q0l q0q q0m q0s q0n q0r q0z q14 q1f q1m q1n) 1), (At.sl 2 0 (z0s q0l q0q q0m q0s q0n q0r q0z q14 q1f q1m q1n) 1), (At.sl 3 0 (z0v q0l q0q q0m q0s q0n q0r q0z q14 q1f q1m q1n) 3), (At.int IntKind.i64 q1f), (At.flt FloatKind.f32 q1m), (At.flt FloatKind.f32 q1n)])), [(Blk.mk Bool.true (Body.fl FloatKind.f32 (z3k q0l q0q q0m q0s q0n q0r q0z q14 q1f q1m q1n))), (Blk.mk Bool.true (Body.fl FloatKind.f32 (z3m q0l q0q q0m q0s q0n q0r q0z q14 q1f q1m q1n))), (Blk.mk Bool.true (Body.fl FloatKind.f32 (z3i q0l q0q q0m q0s q0n q0r q0z q14 q1f q1m q1n))), (Blk.mk Bool.true (Body.fl FloatKind.f32 (z3o q0l q0q q0m q0s q0n q0r q0z q14 q1f q1m q1n)))]))
  | _ => none
def zln (q0l : Nat) (q0q : List Nat) (q0m : Nat) (q0s : List Nat) (q0n : Nat) (q0r : List Nat) (q0z : Nat) (q14 : List Nat) (q1f : Int) (q1m : Nat) (q1n : Nat) : Option (Nat × Nat × Nat × Nat × (List Nat) × (List Nat) × (List Nat) × (List Nat)) → Option (AV × List Blk)
  | some r => some ((AV.v (TV.agg [(At.sl 0 0 r.1 1), (At.sl 1 0 r.2.1 1), (At.sl 2 0 r.2.2.1 1), (At.sl 3 0 r.2.2.2.1 3), (At.int IntKind.i64 q1f), (At.flt FloatKind.f32 q1m), (At.flt FloatKind.f32 q1n)])), [(Blk.mk Bool.true (Body.fl FloatKind.f32 r.2.2.2.2.1)), (Blk.mk Bool.true (Body.fl FloatKind.f32 r.2.2.2.2.2.1)), (Blk.mk Bool.true (Body.fl FloatKind.f32 r.2.2.2.2.2.2.1)), (Blk.mk Bool.true (Body.fl FloatKind.f32 r.2.2.2.2.2.2.2))])
  | none => none
theorem zqt (q0l : Nat) (q0q : List Nat) (q0m : Nat) (q0s : List Nat) (q0n : Nat) (q0r : List Nat) (q0z : Nat) (q14 : List Nat) (q1f : Int) (q1m : Nat) (q1n : Nat) : evFn Γ4 8 8 54 (impTs 0 [.agg [.row 1 q0l (.fl .f32 q0q), .row 1 q0m (.fl .f32 q0s), .row 1 q0n (.fl .f32 q0r), .row 3 q0z (.fl .f32 q14), .s (.int .i64 q1f), .s (.flt .f32 q1m), .s (.flt .f32 q1n)]]).1 (impTs 0 [.agg [.row 1 q0l (.fl .f32 q0q), .row 1 q0m (.fl .f32 q0s), .row 1 q0n (.fl .f32 q0r), .row 3 q0z (.fl .f32 q14), .s (.int .i64 q1f), .s (.flt .f32 q1m), .s (.flt .f32 q1n)]]).2 (expo (impTs 0 [.agg [.row 1 q0l (.fl .f32 q0q), .row 1 q0m (.fl .f32 q0s), .row 1 q0n (.fl .f32 q0r), .row 3 q0z (.fl .f32 q14), .s (.int .i64 q1f), .s (.flt .f32 q1m), .s (.flt .f32 q1n)]]).2.length) = zcm q0l q0q q0m q0s q0n q0r q0z q14 q1f q1m q1n (fun c0_ c1_ c2_ c3_ c4_ c5_ c6_ c7_ => some ((AV.v (TV.agg [(At.sl 0 0 c0_ 1), (At.sl 1 0 c1_ 1), (At.sl 2 0 c2_ 1), (At.sl 3 0 c3_ 3), (At.int IntKind.i64 q1f), (At.flt FloatKind.f32 q1m), (At.flt FloatKind.f32 q1n)])), [(Blk.mk Bool.true (Body.fl FloatKind.f32 c4_)), (Blk.mk Bool.true (Body.fl FloatKind.f32 c5_)), (Blk.mk Bool.true (Body.fl FloatKind.f32 c6_)), (Blk.mk Bool.true (Body.fl FloatKind.f32 c7_))])) := by kernel_rfl
theorem z3x : SumOne Try.prog 54 z4u := sum_of (Γ := Γ4) (fuel := 8) (d := 8) tyTab_ok (FnL.ok fnTab_ok _ _) (LpL.ok lt4_ok) (SumL.ok tb4_ok _) mixed (by
  intro pts v news hp hc
  clear hc
  unfold z4u at hp
  split at hp
  · rename_i q0l q0q q0m q0s q0n q0r q0z q14 q1f q1m q1n
    exact Eq.trans (Eq.trans (zqt q0l q0q q0m q0s q0n q0r q0z q14 q1f q1m q1n) (znw (zln q0l q0q q0m q0s q0n q0r q0z q14 q1f q1m q1n) rfl q0l q0q q0m q0s q0n q0r q0z q14 q1f q1m q1n (fun c0_ c1_ c2_ c3_ c4_ c5_ c6_ c7_ => some (c0_, c1_, c2_, c3_, c4_, c5_, c6_, c7_)))) (fin_out (o := (zln q0l q0q q0m q0s q0n q0r q0z q14 q1f q1m q1n)) (x := z70 q0l q0q q0m q0s q0n q0r q0z q14 q1f q1m q1n) (d := default) (V := fun r => ((AV.v (TV.agg [(At.sl 0 0 r.1 1), (At.sl 1 0 r.2.1 1), (At.sl 2 0 r.2.2.1 1), (At.sl 3 0 r.2.2.2.1 3), (At.int IntKind.i64 q1f), (At.flt FloatKind.f32 q1m), (At.flt FloatKind.f32 q1n)])), [(Blk.mk Bool.true (Body.fl FloatKind.f32 r.2.2.2.2.1)), (Blk.mk Bool.true (Body.fl FloatKind.f32 r.2.2.2.2.2.1)), (Blk.mk Bool.true (Body.fl FloatKind.f32 r.2.2.2.2.2.2.1)), (Blk.mk Bool.true (Body.fl FloatKind.f32 r.2.2.2.2.2.2.2))])) (fun r => rfl) hp)
  · cases hp)
noncomputable def z3g : List PT → Option (Bool × AV × List Blk)
  | [.agg [.row 1 q11 (.fl .f32 q1d), .row 1 q16 (.fl .f32 q1g), .row 1 q17 (.fl .f32 q1h)], .agg [.row 1 q24 (.fl .f32 q2e), .row 1 q26 (.fl .f32 q2i), .row 1 q27 (.fl .f32 q2f)]] => some ((zgi q11 q1d q16 q1g q17 q1h q24 q2e q26 q2i q27 q2f), ((AV.v (TV.one (At.bool (zfd q11 q1d q16 q1g q17 q1h q24 q2e q26 q2i q27 q2f)))), []))
  | _ => none
def zk7 (q11 : Nat) (q1d : List Nat) (q16 : Nat) (q1g : List Nat) (q17 : Nat) (q1h : List Nat) (q24 : Nat) (q2e : List Nat) (q26 : Nat) (q2i : List Nat) (q27 : Nat) (q2f : List Nat) : Option (Bool) → Option (AV × List Blk)
  | some r => some ((AV.v (TV.one (At.bool r))), [])
  | none => none
theorem zpu (q11 : Nat) (q1d : List Nat) (q16 : Nat) (q1g : List Nat) (q17 : Nat) (q1h : List Nat) (q24 : Nat) (q2e : List Nat) (q26 : Nat) (q2i : List Nat) (q27 : Nat) (q2f : List Nat) : evFn Γ4 8 8 121 (impTs 0 [.agg [.row 1 q11 (.fl .f32 q1d), .row 1 q16 (.fl .f32 q1g), .row 1 q17 (.fl .f32 q1h)], .agg [.row 1 q24 (.fl .f32 q2e), .row 1 q26 (.fl .f32 q2i), .row 1 q27 (.fl .f32 q2f)]]).1 (impTs 0 [.agg [.row 1 q11 (.fl .f32 q1d), .row 1 q16 (.fl .f32 q1g), .row 1 q17 (.fl .f32 q1h)], .agg [.row 1 q24 (.fl .f32 q2e), .row 1 q26 (.fl .f32 q2i), .row 1 q27 (.fl .f32 q2f)]]).2 (expo (impTs 0 [.agg [.row 1 q11 (.fl .f32 q1d), .row 1 q16 (.fl .f32 q1g), .row 1 q17 (.fl .f32 q1h)], .agg [.row 1 q24 (.fl .f32 q2e), .row 1 q26 (.fl .f32 q2i), .row 1 q27 (.fl .f32 q2f)]]).2.length) = zb8 q11 q1d q16 q1g q17 q1h q24 q2e q26 q2i q27 q2f (fun c0_ => some ((AV.v (TV.one (At.bool c0_))), [])) := by kernel_rfl
theorem z2y : SumOne Try.prog 121 z3g := sum_of (Γ := Γ4) (fuel := 8) (d := 8) tyTab_ok (FnL.ok fnTab_ok _ _) (LpL.ok lt4_ok) (SumL.ok tb4_ok _) mixed (by
  intro pts v news hp hc
  clear hc
  unfold z3g at hp
  split at hp
  · rename_i q11 q1d q16 q1g q17 q1h q24 q2e q26 q2i q27 q2f
    exact Eq.trans (Eq.trans (zpu q11 q1d q16 q1g q17 q1h q24 q2e q26 q2i q27 q2f) (zm4 (zk7 q11 q1d q16 q1g q17 q1h q24 q2e q26 q2i q27 q2f) rfl q11 q1d q16 q1g q17 q1h q24 q2e q26 q2i q27 q2f (fun c0_ => some c0_))) (fin_out (o := (zk7 q11 q1d q16 q1g q17 q1h q24 q2e q26 q2i q27 q2f)) (x := zb2 q11 q1d q16 q1g q17 q1h q24 q2e q26 q2i q27 q2f) (d := default) (V := fun r => ((AV.v (TV.one (At.bool r))), [])) (fun r => rfl) hp)
  · cases hp)
noncomputable def z31 : List PT → Option (Bool × AV × List Blk)
  | [.one (.row 3 a_n (.fl .f32 a)), .one (.row 3 b_n (.fl .f32 b))] => some ((zf9 a_n a b_n b), ((AV.v (TV.one (At.bool (ze6 a_n a b_n b)))), []))
  | _ => none
def zji (a_n : Nat) (a : List Nat) (b_n : Nat) (b : List Nat) : Option (Bool) → Option (AV × List Blk)
  | some r => some ((AV.v (TV.one (At.bool r))), [])
  | none => none
theorem zou (a_n : Nat) (a : List Nat) (b_n : Nat) (b : List Nat) : evFn Γ4 8 8 122 (impTs 0 [.one (.row 3 a_n (.fl .f32 a)), .one (.row 3 b_n (.fl .f32 b))]).1 (impTs 0 [.one (.row 3 a_n (.fl .f32 a)), .one (.row 3 b_n (.fl .f32 b))]).2 (expo (impTs 0 [.one (.row 3 a_n (.fl .f32 a)), .one (.row 3 b_n (.fl .f32 b))]).2.length) = zam a_n a b_n b (fun c0_ => some ((AV.v (TV.one (At.bool c0_))), [])) := by kernel_rfl
theorem z2m : SumOne Try.prog 122 z31 := sum_of (Γ := Γ4) (fuel := 8) (d := 8) tyTab_ok (FnL.ok fnTab_ok _ _) (LpL.ok lt4_ok) (SumL.ok tb4_ok _) mixed (by
  intro pts v news hp hc
  clear hc
  unfold z31 at hp
  split at hp
  · rename_i a_n a b_n b
    exact Eq.trans (Eq.trans (zou a_n a b_n b) (zlv (zji a_n a b_n b) rfl a_n a b_n b (fun c0_ => some c0_))) (fin_out (o := (zji a_n a b_n b)) (x := zaj a_n a b_n b) (d := default) (V := fun r => ((AV.v (TV.one (At.bool r))), [])) (fun r => rfl) hp)
  · cases hp)
noncomputable def z4t : List PT → Option (Bool × AV × List Blk)
  | [.one (.s (.flt .f32 x))] => some ((zg1 x), ((AV.v (TV.one (At.flt FloatKind.f32 (z9q x)))), []))
  | _ => none
def zlk (x : Nat) : Option (Nat) → Option (AV × List Blk)
  | some r => some ((AV.v (TV.one (At.flt FloatKind.f32 r))), [])
  | none => none
theorem zqu (x : Nat) : evFn Γ4 8 8 165 (impTs 0 [.one (.s (.flt .f32 x))]).1 (impTs 0 [.one (.s (.flt .f32 x))]).2 (expo (impTs 0 [.one (.s (.flt .f32 x))]).2.length) = zcl x (fun c0_ => some ((AV.v (TV.one (At.flt FloatKind.f32 c0_))), [])) := by kernel_rfl
theorem z3w : SumOne Try.prog 165 z4t := sum_of (Γ := Γ4) (fuel := 8) (d := 8) tyTab_ok (FnL.ok fnTab_ok _ _) (LpL.ok lt4_ok) (SumL.ok tb4_ok _) mixed (by
  intro pts v news hp hc
  clear hc
  unfold z4t at hp
  split at hp
  · rename_i x
    exact Eq.trans (Eq.trans (zqu x) (znp (zlk x) rfl x (fun c0_ => some c0_))) (fin_out (o := (zlk x)) (x := zb7 x) (d := default) (V := fun r => ((AV.v (TV.one (At.flt FloatKind.f32 r))), [])) (fun r => rfl) hp)
  · cases hp)
noncomputable def z0b : List PT → Option (Bool × AV × List Blk)
  | [.one (.row 1 s_n (.fl .f32 s)), .fn 148 []] => some ((z72 s_n s), ((AV.v (TV.one (At.int IntKind.i64 (z6t s_n s)))), []))
  | _ => none
def zan (s_n : Nat) (s : List Nat) : Option (Int) → Option (AV × List Blk)
  | some r => some ((AV.v (TV.one (At.int IntKind.i64 r))), [])
  | none => none
theorem zgs (s_n : Nat) (s : List Nat) : evFn Γ4 8 8 178 (impTs 0 [.one (.row 1 s_n (.fl .f32 s)), .fn 148 []]).1 (impTs 0 [.one (.row 1 s_n (.fl .f32 s)), .fn 148 []]).2 (expo (impTs 0 [.one (.row 1 s_n (.fl .f32 s)), .fn 148 []]).2.length) = z4x s_n s (fun c0_ => some ((AV.v (TV.one (At.int IntKind.i64 c0_))), [])) := by kernel_rfl
theorem z0d : SumOne Try.prog 178 z0b := sum_of (Γ := Γ4) (fuel := 8) (d := 8) tyTab_ok (FnL.ok fnTab_ok _ _) (LpL.ok lt4_ok) (SumL.ok tb4_ok _) mixed (by
  intro pts v news hp hc
  clear hc
  unfold z0b at hp
  split at hp
  · rename_i s_n s
    exact Eq.trans (Eq.trans (zgs s_n s) (zez (zan s_n s) rfl s_n s (fun c0_ => some c0_))) (fin_out (o := (zan s_n s)) (x := z4w s_n s) (d := default) (V := fun r => ((AV.v (TV.one (At.int IntKind.i64 r))), [])) (fun r => rfl) hp)
  · cases hp)
noncomputable def z06 : List PT → Option (Bool × AV × List Blk)
  | [.one (.row 1 s_n (.fl .f32 s)), .fn 150 []] => some ((z6p s_n s), ((AV.v (TV.one (At.int IntKind.i64 (z6i s_n s)))), []))
  | _ => none
def z9n (s_n : Nat) (s : List Nat) : Option (Int) → Option (AV × List Blk)
  | some r => some ((AV.v (TV.one (At.int IntKind.i64 r))), [])
  | none => none
theorem zgb (s_n : Nat) (s : List Nat) : evFn Γ4 8 8 178 (impTs 0 [.one (.row 1 s_n (.fl .f32 s)), .fn 150 []]).1 (impTs 0 [.one (.row 1 s_n (.fl .f32 s)), .fn 150 []]).2 (expo (impTs 0 [.one (.row 1 s_n (.fl .f32 s)), .fn 150 []]).2.length) = z4i s_n s (fun c0_ => some ((AV.v (TV.one (At.int IntKind.i64 c0_))), [])) := by kernel_rfl
theorem z09 : SumOne Try.prog 178 z06 := sum_of (Γ := Γ4) (fuel := 8) (d := 8) tyTab_ok (FnL.ok fnTab_ok _ _) (LpL.ok lt4_ok) (SumL.ok tb4_ok _) mixed (by
  intro pts v news hp hc
  clear hc
  unfold z06 at hp
  split at hp
  · rename_i s_n s
    exact Eq.trans (Eq.trans (zgb s_n s) (ze7 (z9n s_n s) rfl s_n s (fun c0_ => some c0_))) (fin_out (o := (z9n s_n s)) (x := z4k s_n s) (d := default) (V := fun r => ((AV.v (TV.one (At.int IntKind.i64 r))), [])) (fun r => rfl) hp)
  · cases hp)
noncomputable def z5t : List PT → Option (Bool × AV × List Blk)
  | [.ptr [.row 1 q04 (.fl .f32 q08), .row 1 q0p (.fl .f32 q0t), .row 1 q0o (.fl .f32 q0u)]] => some ((zim q04 q08 q0p q0t q0o q0u), ((AV.v (TV.one (At.bool (zih q04 q08 q0p q0t q0o q0u)))), []))
  | _ => none
def zo4 (q04 : Nat) (q08 : List Nat) (q0p : Nat) (q0t : List Nat) (q0o : Nat) (q0u : List Nat) : Option (Bool) → Option (AV × List Blk)
  | some r => some ((AV.v (TV.one (At.bool r))), [])
  | none => none
theorem zrn (q04 : Nat) (q08 : List Nat) (q0p : Nat) (q0t : List Nat) (q0o : Nat) (q0u : List Nat) : evFn Γ4 8 8 184 (impTs 0 [.ptr [.row 1 q04 (.fl .f32 q08), .row 1 q0p (.fl .f32 q0t), .row 1 q0o (.fl .f32 q0u)]]).1 (impTs 0 [.ptr [.row 1 q04 (.fl .f32 q08), .row 1 q0p (.fl .f32 q0t), .row 1 q0o (.fl .f32 q0u)]]).2 (expo (impTs 0 [.ptr [.row 1 q04 (.fl .f32 q08), .row 1 q0p (.fl .f32 q0t), .row 1 q0o (.fl .f32 q0u)]]).2.length) = zfy q04 q08 q0p q0t q0o q0u (fun c0_ => some ((AV.v (TV.one (At.bool c0_))), [])) := by kernel_rfl
theorem z58 : SumOne Try.prog 184 z5t := sum_of (Γ := Γ4) (fuel := 8) (d := 8) tyTab_ok (FnL.ok fnTab_ok _ _) (LpL.ok lt4_ok) (SumL.ok tb4_ok _) mixed (by
  intro pts v news hp hc
  clear hc
  unfold z5t at hp
  split at hp
  · rename_i q04 q08 q0p q0t q0o q0u
    exact Eq.trans (Eq.trans (zrn q04 q08 q0p q0t q0o q0u) (zpn (zo4 q04 q08 q0p q0t q0o q0u) rfl q04 q08 q0p q0t q0o q0u (fun c0_ => some c0_))) (fin_out (o := (zo4 q04 q08 q0p q0t q0o q0u)) (x := zg3 q04 q08 q0p q0t q0o q0u) (d := default) (V := fun r => ((AV.v (TV.one (At.bool r))), [])) (fun r => rfl) hp)
  · cases hp)
noncomputable def z07 : Nat → St → Option (Bool × LO)
  | 1, (St.mk [(0, (AV.v (TV.one (At.vw 0 0 sn 1)))), (1, (AV.v (TV.one (At.fn 154 [])))), (7, (AV.v (TV.one (At.int IntKind.i64 t7)))), (8, (AV.v (TV.one (At.int IntKind.i64 t8))))] [(Blk.mk Bool.false (Body.fl FloatKind.f32 b0))]) => some ((z4h sn t7 b0 t8), (LO.two (z48 sn t7 b0 t8) (LO.one Ex.ret (St.mk [(4, (AV.v (TV.one (At.int IntKind.i64 (z6c sn t7 b0 t8)))))] [(Blk.mk Bool.false (Body.fl FloatKind.f32 b0))])) (LO.one (Ex.exit 0) (St.mk [(0, (AV.v (TV.one (At.vw 0 0 sn 1)))), (1, (AV.v (TV.one (At.fn 154 [])))), (7, (AV.v (TV.one (At.int IntKind.i64 t7)))), (8, (AV.v (TV.one (At.int IntKind.i64 (z7r sn t7 b0 t8))))), (9, (AV.v (TV.one (At.bool (z7s sn t7 b0 t8)))))] [(Blk.mk Bool.false (Body.fl FloatKind.f32 b0))]))))
  | _, _ => none
def z5r (sn : Nat) (t7 : Int) (b0 : List Nat) : Option ((Int) ⊕ (Int × Bool)) → Option (Ex × St)
  | none => none
  | some (Sum.inl r) => some (Ex.ret, (St.mk [(4, (AV.v (TV.one (At.int IntKind.i64 r))))] [(Blk.mk Bool.false (Body.fl FloatKind.f32 b0))]))
  | some (Sum.inr r) => some ((Ex.exit 0), (St.mk [(0, (AV.v (TV.one (At.vw 0 0 sn 1)))), (1, (AV.v (TV.one (At.fn 154 [])))), (7, (AV.v (TV.one (At.int IntKind.i64 t7)))), (8, (AV.v (TV.one (At.int IntKind.i64 r.1)))), (9, (AV.v (TV.one (At.bool r.2))))] [(Blk.mk Bool.false (Body.fl FloatKind.f32 b0))]))
def zfr (sn : Nat) (t7 : Int) (b0 : List Nat) (x : Option ((Int) ⊕ (Int × Bool))) : LO := (LO.two (oL x) (LO.one Ex.ret (St.mk [(4, (AV.v (TV.one (At.int IntKind.i64 ((tL x).getD default)))))] [(Blk.mk Bool.false (Body.fl FloatKind.f32 b0))])) (LO.one (Ex.exit 0) (St.mk [(0, (AV.v (TV.one (At.vw 0 0 sn 1)))), (1, (AV.v (TV.one (At.fn 154 [])))), (7, (AV.v (TV.one (At.int IntKind.i64 t7)))), (8, (AV.v (TV.one (At.int IntKind.i64 ((tR x).getD default).1)))), (9, (AV.v (TV.one (At.bool ((tR x).getD default).2))))] [(Blk.mk Bool.false (Body.fl FloatKind.f32 b0))])))
theorem zg8 (sn : Nat) (t7 : Int) (b0 : List Nat) : ∀ x : Option ((Int) ⊕ (Int × Bool)), x.isSome = true → (z5r sn t7 b0) x = some (pick (zfr sn t7 b0 x))
  | none, h => by cases h
  | some (Sum.inl r), _ => rfl
  | some (Sum.inr r), _ => rfl
theorem zga (sn : Nat) (t7 : Int) (t8 : Int) (b0 : List Nat) (K : Ex → St → Option (Ex × St)) : evC (R := Ex × St) Γ4 (evFn Γ4 8 8) 178 1 fi178.nt fi178.live fi178.nl 8 (findL 2 (loopsIn fi178.code)) (St.mk [(0, (AV.v (TV.one (At.vw 0 0 sn 1)))), (1, (AV.v (TV.one (At.fn 154 [])))), (7, (AV.v (TV.one (At.int IntKind.i64 t7)))), (8, (AV.v (TV.one (At.int IntKind.i64 t8))))] [(Blk.mk Bool.false (Body.fl FloatKind.f32 b0))]) K = z1s sn t7 b0 t8 (fun t8' => K .normal (St.mk [(0, (AV.v (TV.one (At.vw 0 0 sn 1)))), (1, (AV.v (TV.one (At.fn 154 [])))), (7, (AV.v (TV.one (At.int IntKind.i64 t7)))), (8, (AV.v (TV.one (At.int IntKind.i64 t8'))))] [(Blk.mk Bool.false (Body.fl FloatKind.f32 b0))])) (fun c0_ => K Ex.ret (St.mk [(4, (AV.v (TV.one (At.int IntKind.i64 c0_))))] [(Blk.mk Bool.false (Body.fl FloatKind.f32 b0))])) (fun c0_ c1_ => K (Ex.exit 0) (St.mk [(0, (AV.v (TV.one (At.vw 0 0 sn 1)))), (1, (AV.v (TV.one (At.fn 154 [])))), (7, (AV.v (TV.one (At.int IntKind.i64 t7)))), (8, (AV.v (TV.one (At.int IntKind.i64 c0_)))), (9, (AV.v (TV.one (At.bool c1_))))] [(Blk.mk Bool.false (Body.fl FloatKind.f32 b0))])) := by kernel_rfl
theorem zgc (sn : Nat) (t7 : Int) (b0 : List Nat) : ∀ (n : Nat) (t8 : Int), iter 178 2 1 (evC (R := Ex × St) Γ4 (evFn Γ4 8 8) 178 1 fi178.nt fi178.live fi178.nl 8 (findL 2 (loopsIn fi178.code))) n (St.mk [(0, (AV.v (TV.one (At.vw 0 0 sn 1)))), (1, (AV.v (TV.one (At.fn 154 [])))), (7, (AV.v (TV.one (At.int IntKind.i64 t7)))), (8, (AV.v (TV.one (At.int IntKind.i64 t8))))] [(Blk.mk Bool.false (Body.fl FloatKind.f32 b0))]) (fun e st => some (e, st)) = (z5r sn t7 b0) (z0p sn t7 b0 n t8) := by
  intro n
  induction n with
  | zero => intros; rfl
  | succ n ih =>
    intro t8
    refine Eq.trans (iter_succ ..) (Eq.trans (zga sn t7 t8 b0 (nextK 178 2 1 (evC (R := Ex × St) Γ4 (evFn Γ4 8 8) 178 1 fi178.nt fi178.live fi178.nl 8 (findL 2 (loopsIn fi178.code))) n (fun e st => some (e, st)))) (Eq.trans ?_ (zec (z5r sn t7 b0) rfl sn t7 b0 t8 (fun t8' => z0p sn t7 b0 n t8') (fun c0_ => some (Sum.inl c0_)) (fun c0_ c1_ => some (Sum.inr (c0_, c1_))))))
    exact congrArg (fun kn_ => z1s sn t7 b0 t8 kn_ (fun c0_ => (z5r sn t7 b0) (some (Sum.inl c0_))) (fun c0_ c1_ => (z5r sn t7 b0) (some (Sum.inr (c0_, c1_))))) (funext fun t8' => ih t8')
theorem z0a : LoopOne Try.prog fnTab 178 2 z07 := lp_of (Γ := Γ4) tyTab_ok (FnL.ok fnTab_ok _ _) (LpL.ok lt4_ok) (SumL.ok tb4_ok _) mixed (fi := fi178) (by kernel_rfl) (by kernel_rfl) (by
  intro lo st out hp
  unfold z07 at hp
  split at hp
  · rename_i sn t7 t8 b0
    injection hp with hp
    injection hp with h1 h2
    subst h2
    exact ⟨8, 8, big, Eq.trans (zgc sn t7 b0 big t8) (zg8 sn t7 b0 (z0p sn t7 b0 big t8) h1)⟩
  · cases hp)
noncomputable def tb5 : List (Nat × (List PT → Option (Bool × AV × List Blk))) := [(156, z0w), (181, z1b), (182, z1v), (189, z1y), (26, z2n), (55, z24), (89, z3q), (102, z5w), (112, z1u), (114, z32), (115, z27), (123, z2l), (126, z4e), (157, z5u), (160, z1t), (162, z4g), (167, z25), (187, z26), (83, z0z), (85, z42), (90, z3e), (103, z43), (111, z2j), (116, z2u), (117, z44), (138, z2v), (148, z1r), (150, z16), (169, z2i), (185, z2w), (52, z3v), (154, z2f), (158, z5h), (166, z2g), (104, z2q), (119, z36), (120, z2s), (168, z2p), (188, z2c), (54, z4u), (121, z3g), (122, z31), (165, z4t), (178, z0b), (178, z06), (184, z5t)]
noncomputable def lt5 : List ((Nat × Nat) × (Nat → St → Option (Bool × LO))) := [((166, 3), z17), ((120, 3), z1f), ((168, 4), z1e), ((188, 17), z12), ((122, 4), z1m), ((178, 2), z04), ((178, 2), z02), ((184, 5), z3l), ((178, 2), z07)]
noncomputable def Γ5 : Ctx := ⟨tyTab, fnTab, tblSum tb5, tblLp lt5⟩
theorem tb5_ok : SumL Try.prog tb5 := SumL.cons z0r (SumL.cons z15 (SumL.cons z1k (SumL.cons z1j (SumL.cons z22 (SumL.cons z1p (SumL.cons z2t (SumL.cons z4n (SumL.cons z1g (SumL.cons z2h (SumL.cons z1n (SumL.cons z23 (SumL.cons z3b (SumL.cons z4o (SumL.cons z1d (SumL.cons z38 (SumL.cons z1o (SumL.cons z1q (SumL.cons z0x (SumL.cons z35 (SumL.cons z2r (SumL.cons z34 (SumL.cons z21 (SumL.cons z2e (SumL.cons z33 (SumL.cons z2b (SumL.cons z1c (SumL.cons z13 (SumL.cons z1z (SumL.cons z2d (SumL.cons z2z (SumL.cons z1w (SumL.cons z41 (SumL.cons z1x (SumL.cons z28 (SumL.cons z2k (SumL.cons z29 (SumL.cons z2a (SumL.cons z20 (SumL.cons z3x (SumL.cons z2y (SumL.cons z2m (SumL.cons z3w (SumL.cons z0d (SumL.cons z09 (SumL.cons z58 (SumL.nil))))))))))))))))))))))))))))))))))))))))))))))
theorem lt5_ok : LpL Try.prog fnTab lt5 := LpL.cons z14 (LpL.cons z19 (LpL.cons z18 (LpL.cons z10 (LpL.cons z1i (LpL.cons z05 (LpL.cons z03 (LpL.cons z2x (LpL.cons z0a (LpL.nil)))))))))
noncomputable def z5b : List PT → Option (Bool × AV × List Blk)
  | [.agg [.row 1 q0l (.fl .f32 q0q), .row 1 q0m (.fl .f32 q0s), .row 1 q0n (.fl .f32 q0r), .row 3 q0z (.fl .f32 q14), .s (.int .i64 q1f), .s (.flt .f32 q1m), .s (.flt .f32 q1n)], .agg [.row 1 q1o (.fl .f32 q1t), .row 1 q1q (.fl .f32 q1w), .row 1 q1p (.fl .f32 q1v), .row 3 q22 (.fl .f32 q25), .s (.int .i64 q2j), .s (.flt .f32 q2m), .s (.flt .f32 q2n)]] => some ((zg6 q0l q0q q0m q0s q0n q0r q0z q14 q1f q1m q1n q1o q1t q1q q1w q1p q1v q22 q25 q2j q2m q2n), ((AV.v (TV.one (At.bool (ze1 q0l q0q q0m q0s q0n q0r q0z q14 q1f q1m q1n q1o q1t q1q q1w q1p q1v q22 q25 q2j q2m q2n)))), []))
  | _ => none
def zlq (q0l : Nat) (q0q : List Nat) (q0m : Nat) (q0s : List Nat) (q0n : Nat) (q0r : List Nat) (q0z : Nat) (q14 : List Nat) (q1f : Int) (q1m : Nat) (q1n : Nat) (q1o : Nat) (q1t : List Nat) (q1q : Nat) (q1w : List Nat) (q1p : Nat) (q1v : List Nat) (q22 : Nat) (q25 : List Nat) (q2j : Int) (q2m : Nat) (q2n : Nat) : Option (Bool) → Option (AV × List Blk)
  | some r => some ((AV.v (TV.one (At.bool r))), [])
  | none => none
theorem zqv (q0l : Nat) (q0q : List Nat) (q0m : Nat) (q0s : List Nat) (q0n : Nat) (q0r : List Nat) (q0z : Nat) (q14 : List Nat) (q1f : Int) (q1m : Nat) (q1n : Nat) (q1o : Nat) (q1t : List Nat) (q1q : Nat) (q1w : List Nat) (q1p : Nat) (q1v : List Nat) (q22 : Nat) (q25 : List Nat) (q2j : Int) (q2m : Nat) (q2n : Nat) : evFn Γ5 8 8 56 (impTs 0 [.agg [.row 1 q0l (.fl .f32 q0q), .row 1 q0m (.fl .f32 q0s), .row 1 q0n (.fl .f32 q0r), .row 3 q0z (.fl .f32 q14), .s (.int .i64 q1f), .s (.flt .f32 q1m), .s (.flt .f32 q1n)], .agg [.row 1 q1o (.fl .f32 q1t), .row 1 q1q (.fl .f32 q1w), .row 1 q1p (.fl .f32 q1v), .row 3 q22 (.fl .f32 q25), .s (.int .i64 q2j), .s (.flt .f32 q2m), .s (.flt .f32 q2n)]]).1 (impTs 0 [.agg [.row 1 q0l (.fl .f32 q0q), .row 1 q0m (.fl .f32 q0s), .row 1 q0n (.fl .f32 q0r), .row 3 q0z (.fl .f32 q14), .s (.int .i64 q1f), .s (.flt .f32 q1m), .s (.flt .f32 q1n)], .agg [.row 1 q1o (.fl .f32 q1t), .row 1 q1q (.fl .f32 q1w), .row 1 q1p (.fl .f32 q1v), .row 3 q22 (.fl .f32 q25), .s (.int .i64 q2j), .s (.flt .f32 q2m), .s (.flt .f32 q2n)]]).2 (expo (impTs 0 [.agg [.row 1 q0l (.fl .f32 q0q), .row 1 q0m (.fl .f32 q0s), .row 1 q0n (.fl .f32 q0r), .row 3 q0z (.fl .f32 q14), .s (.int .i64 q1f), .s (.flt .f32 q1m), .s (.flt .f32 q1n)], .agg [.row 1 q1o (.fl .f32 q1t), .row 1 q1q (.fl .f32 q1w), .row 1 q1p (.fl .f32 q1v), .row 3 q22 (.fl .f32 q25), .s (.int .i64 q2j), .s (.flt .f32 q2m), .s (.flt .f32 q2n)]]).2.length) = zc8 q0l q0q q0m q0s q0n q0r q0z q14 q1f q1m q1n q1o q1t q1q q1w q1p q1v q22 q25 q2j q2m q2n (fun c0_ => some ((AV.v (TV.one (At.bool c0_))), [])) := by kernel_rfl
theorem z4a : SumOne Try.prog 56 z5b := sum_of (Γ := Γ5) (fuel := 8) (d := 8) tyTab_ok (FnL.ok fnTab_ok _ _) (LpL.ok lt5_ok) (SumL.ok tb5_ok _) mixed (by
  intro pts v news hp hc
  clear hc
  unfold z5b at hp
  split at hp
  · rename_i q0l q0q q0m q0s q0n q0r q0z q14 q1f q1m q1n q1o q1t q1q q1w q1p q1v q22 q25 q2j q2m q2n
    exact Eq.trans (Eq.trans (zqv q0l q0q q0m q0s q0n q0r q0z q14 q1f q1m q1n q1o q1t q1q q1w q1p q1v q22 q25 q2j q2m q2n) (zo8 (zlq q0l q0q q0m q0s q0n q0r q0z q14 q1f q1m q1n q1o q1t q1q q1w q1p q1v q22 q25 q2j q2m q2n) rfl q0l q0q q0m q0s q0n q0r q0z q14 q1f q1m q1n q1o q1t q1q q1w q1p q1v q22 q25 q2j q2m q2n (fun c0_ => some c0_))) (fin_out (o := (zlq q0l q0q q0m q0s q0n q0r q0z q14 q1f q1m q1n q1o q1t q1q q1w q1p q1v q22 q25 q2j q2m q2n)) (x := zcb q0l q0q q0m q0s q0n q0r q0z q14 q1f q1m q1n q1o q1t q1q q1w q1p q1v q22 q25 q2j q2m q2n) (d := default) (V := fun r => ((AV.v (TV.one (At.bool r))), [])) (fun r => rfl) hp)
  · cases hp)
noncomputable def z63 : List PT → Option (Bool × AV × List Blk)
  | [.one (.s (.flt .f64 x))] => some ((zhk x), ((AV.v (TV.one (At.flt FloatKind.f64 (z9a x)))), []))
  | _ => none
def znn (x : Nat) : Option (Nat) → Option (AV × List Blk)
  | some r => some ((AV.v (TV.one (At.flt FloatKind.f64 r))), [])
  | none => none
theorem zrj (x : Nat) : evFn Γ5 8 8 170 (impTs 0 [.one (.s (.flt .f64 x))]).1 (impTs 0 [.one (.s (.flt .f64 x))]).2 (expo (impTs 0 [.one (.s (.flt .f64 x))]).2.length) = zfq x (fun c0_ => some ((AV.v (TV.one (At.flt FloatKind.f64 c0_))), [])) := by kernel_rfl
theorem z5n : SumOne Try.prog 170 z63 := sum_of (Γ := Γ5) (fuel := 8) (d := 8) tyTab_ok (FnL.ok fnTab_ok _ _) (LpL.ok lt5_ok) (SumL.ok tb5_ok _) mixed (by
  intro pts v news hp hc
  clear hc
  unfold z63 at hp
  split at hp
  · rename_i x
    exact Eq.trans (Eq.trans (zrj x) (zp9 (znn x) rfl x (fun c0_ => some c0_))) (fin_out (o := (znn x)) (x := zg5 x) (d := default) (V := fun r => ((AV.v (TV.one (At.flt FloatKind.f64 r))), [])) (fun r => rfl) hp)
  · cases hp)
noncomputable def z0h : List PT → Option (Bool × AV × List Blk)
  | [.one (.row 1 s_n (.fl .f32 s)), .fn 154 []] => some ((z7a s_n s), ((AV.v (TV.one (At.int IntKind.i64 (z73 s_n s)))), []))
  | _ => none
def zas (s_n : Nat) (s : List Nat) : Option (Int) → Option (AV × List Blk)
  | some r => some ((AV.v (TV.one (At.int IntKind.i64 r))), [])
  | none => none
theorem zh1 (s_n : Nat) (s : List Nat) : evFn Γ5 8 8 178 (impTs 0 [.one (.row 1 s_n (.fl .f32 s)), .fn 154 []]).1 (impTs 0 [.one (.row 1 s_n (.fl .f32 s)), .fn 154 []]).2 (expo (impTs 0 [.one (.row 1 s_n (.fl .f32 s)), .fn 154 []]).2.length) = z5a s_n s (fun c0_ => some ((AV.v (TV.one (At.int IntKind.i64 c0_))), [])) := by kernel_rfl
theorem z0l : SumOne Try.prog 178 z0h := sum_of (Γ := Γ5) (fuel := 8) (d := 8) tyTab_ok (FnL.ok fnTab_ok _ _) (LpL.ok lt5_ok) (SumL.ok tb5_ok _) mixed (by
  intro pts v news hp hc
  clear hc
  unfold z0h at hp
  split at hp
  · rename_i s_n s
    exact Eq.trans (Eq.trans (zh1 s_n s) (zfk (zas s_n s) rfl s_n s (fun c0_ => some c0_))) (fin_out (o := (zas s_n s)) (x := z5c s_n s) (d := default) (V := fun r => ((AV.v (TV.one (At.int IntKind.i64 r))), [])) (fun r => rfl) hp)
  · cases hp)
noncomputable def z5d : Nat → St → Option (Bool × LO)
  | 0, (St.mk [(4, (AV.v (TV.one (At.bool q2p)))), (5, (AV.v (TV.one (At.flt FloatKind.f64 z)))), (6, (AV.v (TV.one (At.flt FloatKind.f64 u)))), (7, (AV.v (TV.one (At.flt FloatKind.f64 p)))), (8, (AV.v (TV.one (At.flt FloatKind.f64 k))))] []) => some ((z9i u p k), (LO.one (Ex.exit 0) (St.mk [(4, (AV.v (TV.one (At.bool q2p)))), (5, (AV.v (TV.one (At.flt FloatKind.f64 z)))), (6, (AV.v (TV.one (At.flt FloatKind.f64 u)))), (7, (AV.v (TV.one (At.flt FloatKind.f64 (z89 u p k))))), (8, (AV.v (TV.one (At.flt FloatKind.f64 (zi8 u p k))))), (25, (AV.v (TV.one (At.bool (zi9 u p k)))))] [])))
  | _, _ => none
def zi5 (q2p : Bool) (z : Nat) (u : Nat) : Option ((Nat × Nat × Bool)) → Option (Ex × St)
  | none => none
  | some r => some ((Ex.exit 0), (St.mk [(4, (AV.v (TV.one (At.bool q2p)))), (5, (AV.v (TV.one (At.flt FloatKind.f64 z)))), (6, (AV.v (TV.one (At.flt FloatKind.f64 u)))), (7, (AV.v (TV.one (At.flt FloatKind.f64 r.1)))), (8, (AV.v (TV.one (At.flt FloatKind.f64 r.2.1)))), (25, (AV.v (TV.one (At.bool r.2.2))))] []))
def zqi (q2p : Bool) (z : Nat) (u : Nat) (x : Option ((Nat × Nat × Bool))) : LO := (LO.one (Ex.exit 0) (St.mk [(4, (AV.v (TV.one (At.bool q2p)))), (5, (AV.v (TV.one (At.flt FloatKind.f64 z)))), (6, (AV.v (TV.one (At.flt FloatKind.f64 u)))), (7, (AV.v (TV.one (At.flt FloatKind.f64 (x.getD default).1)))), (8, (AV.v (TV.one (At.flt FloatKind.f64 (x.getD default).2.1)))), (25, (AV.v (TV.one (At.bool (x.getD default).2.2))))] []))
theorem zqy (q2p : Bool) (z : Nat) (u : Nat) : ∀ x : Option ((Nat × Nat × Bool)), x.isSome = true → (zi5 q2p z u) x = some (pick (zqi q2p z u x))
  | none, h => by cases h
  | some r, _ => rfl
theorem zr7 (q2p : Bool) (z : Nat) (u : Nat) (p : Nat) (k : Nat) (K : Ex → St → Option (Ex × St)) : evC (R := Ex × St) Γ5 (evFn Γ5 8 8) 105 0 fi105.nt fi105.live fi105.nl 8 (findL 9 (loopsIn fi105.code)) (St.mk [(4, (AV.v (TV.one (At.bool q2p)))), (5, (AV.v (TV.one (At.flt FloatKind.f64 z)))), (6, (AV.v (TV.one (At.flt FloatKind.f64 u)))), (7, (AV.v (TV.one (At.flt FloatKind.f64 p)))), (8, (AV.v (TV.one (At.flt FloatKind.f64 k))))] []) K = z8q u p k (fun p' k' => K .normal (St.mk [(4, (AV.v (TV.one (At.bool q2p)))), (5, (AV.v (TV.one (At.flt FloatKind.f64 z)))), (6, (AV.v (TV.one (At.flt FloatKind.f64 u)))), (7, (AV.v (TV.one (At.flt FloatKind.f64 p')))), (8, (AV.v (TV.one (At.flt FloatKind.f64 k'))))] [])) (fun c0_ c1_ c2_ => K (Ex.exit 0) (St.mk [(4, (AV.v (TV.one (At.bool q2p)))), (5, (AV.v (TV.one (At.flt FloatKind.f64 z)))), (6, (AV.v (TV.one (At.flt FloatKind.f64 u)))), (7, (AV.v (TV.one (At.flt FloatKind.f64 c0_)))), (8, (AV.v (TV.one (At.flt FloatKind.f64 c1_)))), (25, (AV.v (TV.one (At.bool c2_))))] [])) := by kernel_rfl
theorem zr2 (q2p : Bool) (z : Nat) (u : Nat) : ∀ (n : Nat) (p : Nat) (k : Nat), iter 105 9 0 (evC (R := Ex × St) Γ5 (evFn Γ5 8 8) 105 0 fi105.nt fi105.live fi105.nl 8 (findL 9 (loopsIn fi105.code))) n (St.mk [(4, (AV.v (TV.one (At.bool q2p)))), (5, (AV.v (TV.one (At.flt FloatKind.f64 z)))), (6, (AV.v (TV.one (At.flt FloatKind.f64 u)))), (7, (AV.v (TV.one (At.flt FloatKind.f64 p)))), (8, (AV.v (TV.one (At.flt FloatKind.f64 k))))] []) (fun e st => some (e, st)) = (zi5 q2p z u) (z6j u n p k) := by
  intro n
  induction n with
  | zero => intros; rfl
  | succ n ih =>
    intro p k
    refine Eq.trans (iter_succ ..) (Eq.trans (zr7 q2p z u p k (nextK 105 9 0 (evC (R := Ex × St) Γ5 (evFn Γ5 8 8) 105 0 fi105.nt fi105.live fi105.nl 8 (findL 9 (loopsIn fi105.code))) n (fun e st => some (e, st)))) (Eq.trans ?_ (znv (zi5 q2p z u) rfl u p k (fun p' k' => z6j u n p' k') (fun c0_ c1_ c2_ => some (c0_, c1_, c2_)))))
    exact congrArg (fun kn_ => z8q u p k kn_ (fun c0_ c1_ c2_ => (zi5 q2p z u) (some (c0_, c1_, c2_)))) (funext fun p' => funext fun k' => ih p' k')
theorem z49 : LoopOne Try.prog fnTab 105 9 z5d := lp_of (Γ := Γ5) tyTab_ok (FnL.ok fnTab_ok _ _) (LpL.ok lt5_ok) (SumL.ok tb5_ok _) mixed (fi := fi105) (by kernel_rfl) (by kernel_rfl) (by
  intro lo st out hp
  unfold z5d at hp
  split at hp
  · rename_i q2p z u p k
    injection hp with hp
    injection hp with h1 h2
    subst h2
    exact ⟨8, 8, big, Eq.trans (zr2 q2p z u big p k) (zqy q2p z u (z6j u big p k) h1)⟩
  · cases hp)
noncomputable def tb6 : List (Nat × (List PT → Option (Bool × AV × List Blk))) := [(156, z0w), (181, z1b), (182, z1v), (189, z1y), (26, z2n), (55, z24), (89, z3q), (102, z5w), (112, z1u), (114, z32), (115, z27), (123, z2l), (126, z4e), (157, z5u), (160, z1t), (162, z4g), (167, z25), (187, z26), (83, z0z), (85, z42), (90, z3e), (103, z43), (111, z2j), (116, z2u), (117, z44), (138, z2v), (148, z1r), (150, z16), (169, z2i), (185, z2w), (52, z3v), (154, z2f), (158, z5h), (166, z2g), (104, z2q), (119, z36), (120, z2s), (168, z2p), (188, z2c), (54, z4u), (121, z3g), (122, z31), (165, z4t), (178, z0b), (178, z06), (184, z5t), (56, z5b), (170, z63), (178, z0h)]
noncomputable def lt6 : List ((Nat × Nat) × (Nat → St → Option (Bool × LO))) := [((166, 3), z17), ((120, 3), z1f), ((168, 4), z1e), ((188, 17), z12), ((122, 4), z1m), ((178, 2), z04), ((178, 2), z02), ((184, 5), z3l), ((178, 2), z07), ((105, 9), z5d)]
noncomputable def Γ6 : Ctx := ⟨tyTab, fnTab, tblSum tb6, tblLp lt6⟩
theorem tb6_ok : SumL Try.prog tb6 := SumL.cons z0r (SumL.cons z15 (SumL.cons z1k (SumL.cons z1j (SumL.cons z22 (SumL.cons z1p (SumL.cons z2t (SumL.cons z4n (SumL.cons z1g (SumL.cons z2h (SumL.cons z1n (SumL.cons z23 (SumL.cons z3b (SumL.cons z4o (SumL.cons z1d (SumL.cons z38 (SumL.cons z1o (SumL.cons z1q (SumL.cons z0x (SumL.cons z35 (SumL.cons z2r (SumL.cons z34 (SumL.cons z21 (SumL.cons z2e (SumL.cons z33 (SumL.cons z2b (SumL.cons z1c (SumL.cons z13 (SumL.cons z1z (SumL.cons z2d (SumL.cons z2z (SumL.cons z1w (SumL.cons z41 (SumL.cons z1x (SumL.cons z28 (SumL.cons z2k (SumL.cons z29 (SumL.cons z2a (SumL.cons z20 (SumL.cons z3x (SumL.cons z2y (SumL.cons z2m (SumL.cons z3w (SumL.cons z0d (SumL.cons z09 (SumL.cons z58 (SumL.cons z4a (SumL.cons z5n (SumL.cons z0l (SumL.nil)))))))))))))))))))))))))))))))))))))))))))))))))
theorem lt6_ok : LpL Try.prog fnTab lt6 := LpL.cons z14 (LpL.cons z19 (LpL.cons z18 (LpL.cons z10 (LpL.cons z1i (LpL.cons z05 (LpL.cons z03 (LpL.cons z2x (LpL.cons z0a (LpL.cons z49 (LpL.nil))))))))))
noncomputable def z6z : List PT → Option (Bool × AV × List Blk)
  | [.one (.s (.flt .f64 q1x))] => some ((ziw q1x), ((AV.v (TV.one (At.flt FloatKind.f64 (zhj q1x)))), []))
  | _ => none
def zp7 (q1x : Nat) : Option (Nat) → Option (AV × List Blk)
  | some r => some ((AV.v (TV.one (At.flt FloatKind.f64 r))), [])
  | none => none
theorem zrp (q1x : Nat) : evFn Γ6 8 8 105 (impTs 0 [.one (.s (.flt .f64 q1x))]).1 (impTs 0 [.one (.s (.flt .f64 q1x))]).2 (expo (impTs 0 [.one (.s (.flt .f64 q1x))]).2.length) = zgy q1x (fun c0_ => some ((AV.v (TV.one (At.flt FloatKind.f64 c0_))), [])) := by kernel_rfl
theorem z67 : SumOne Try.prog 105 z6z := sum_of (Γ := Γ6) (fuel := 8) (d := 8) tyTab_ok (FnL.ok fnTab_ok _ _) (LpL.ok lt6_ok) (SumL.ok tb6_ok _) mixed (by
  intro pts v news hp hc
  clear hc
  unfold z6z at hp
  split at hp
  · rename_i q1x
    exact Eq.trans (Eq.trans (zrp q1x) (zq9 (zp7 q1x) rfl q1x (fun c0_ => some c0_))) (fin_out (o := (zp7 q1x)) (x := zh0 q1x) (d := default) (V := fun r => ((AV.v (TV.one (At.flt FloatKind.f64 r))), [])) (fun r => rfl) hp)
  · cases hp)
noncomputable def z4f : List PT → Option (Bool × AV × List Blk)
  | [.one (.s (.flt .f32 x))] => some ((zgr x), ((AV.v (TV.one (At.flt FloatKind.f32 (z30 x)))), []))
  | _ => none
def zk5 (x : Nat) : Option (Nat) → Option (AV × List Blk)
  | some r => some ((AV.v (TV.one (At.flt FloatKind.f32 r))), [])
  | none => none
theorem zpp (x : Nat) : evFn Γ6 8 8 124 (impTs 0 [.one (.s (.flt .f32 x))]).1 (impTs 0 [.one (.s (.flt .f32 x))]).2 (expo (impTs 0 [.one (.s (.flt .f32 x))]).2.length) = zaw x (fun c0_ => some ((AV.v (TV.one (At.flt FloatKind.f32 c0_))), [])) := by kernel_rfl
theorem z3z : SumOne Try.prog 124 z4f := sum_of (Γ := Γ6) (fuel := 8) (d := 8) tyTab_ok (FnL.ok fnTab_ok _ _) (LpL.ok lt6_ok) (SumL.ok tb6_ok _) mixed (by
  intro pts v news hp hc
  clear hc
  unfold z4f at hp
  split at hp
  · rename_i x
    exact Eq.trans (Eq.trans (zpp x) (zmq (zk5 x) rfl x (fun c0_ => some c0_))) (fin_out (o := (zk5 x)) (x := zat x) (d := default) (V := fun r => ((AV.v (TV.one (At.flt FloatKind.f32 r))), [])) (fun r => rfl) hp)
  · cases hp)
noncomputable def z0e : List PT → Option (Bool × AV × List Blk)
  | [.one (.row 1 s_n (.fl .f32 s)), .fn 148 []] => some ((z6k s_n s), ((AV.v (TV.one (At.bool (z6f s_n s)))), []))
  | _ => none
def z9l (s_n : Nat) (s : List Nat) : Option (Bool) → Option (AV × List Blk)
  | some r => some ((AV.v (TV.one (At.bool r))), [])
  | none => none
theorem zg2 (s_n : Nat) (s : List Nat) : evFn Γ6 8 8 147 (impTs 0 [.one (.row 1 s_n (.fl .f32 s)), .fn 148 []]).1 (impTs 0 [.one (.row 1 s_n (.fl .f32 s)), .fn 148 []]).2 (expo (impTs 0 [.one (.row 1 s_n (.fl .f32 s)), .fn 148 []]).2.length) = z45 s_n s (fun c0_ => some ((AV.v (TV.one (At.bool c0_))), [])) := by kernel_rfl
theorem z0i : SumOne Try.prog 147 z0e := sum_of (Γ := Γ6) (fuel := 8) (d := 8) tyTab_ok (FnL.ok fnTab_ok _ _) (LpL.ok lt6_ok) (SumL.ok tb6_ok _) mixed (by
  intro pts v news hp hc
  clear hc
  unfold z0e at hp
  split at hp
  · rename_i s_n s
    exact Eq.trans (Eq.trans (zg2 s_n s) (zdl (z9l s_n s) rfl s_n s (fun c0_ => some c0_))) (fin_out (o := (z9l s_n s)) (x := z47 s_n s) (d := default) (V := fun r => ((AV.v (TV.one (At.bool r))), [])) (fun r => rfl) hp)
  · cases hp)
noncomputable def z08 : List PT → Option (Bool × AV × List Blk)
  | [.one (.row 1 s_n (.fl .f32 s)), .fn 150 []] => some ((z6e s_n s), ((AV.v (TV.one (At.bool (z65 s_n s)))), []))
  | _ => none
def z99 (s_n : Nat) (s : List Nat) : Option (Bool) → Option (AV × List Blk)
  | some r => some ((AV.v (TV.one (At.bool r))), [])
  | none => none
theorem zes (s_n : Nat) (s : List Nat) : evFn Γ6 8 8 147 (impTs 0 [.one (.row 1 s_n (.fl .f32 s)), .fn 150 []]).1 (impTs 0 [.one (.row 1 s_n (.fl .f32 s)), .fn 150 []]).2 (expo (impTs 0 [.one (.row 1 s_n (.fl .f32 s)), .fn 150 []]).2.length) = z3s s_n s (fun c0_ => some ((AV.v (TV.one (At.bool c0_))), [])) := by kernel_rfl
theorem z0f : SumOne Try.prog 147 z08 := sum_of (Γ := Γ6) (fuel := 8) (d := 8) tyTab_ok (FnL.ok fnTab_ok _ _) (LpL.ok lt6_ok) (SumL.ok tb6_ok _) mixed (by
  intro pts v news hp hc
  clear hc
  unfold z08 at hp
  split at hp
  · rename_i s_n s
    exact Eq.trans (Eq.trans (zes s_n s) (zcr (z99 s_n s) rfl s_n s (fun c0_ => some c0_))) (fin_out (o := (z99 s_n s)) (x := z3t s_n s) (d := default) (V := fun r => ((AV.v (TV.one (At.bool r))), [])) (fun r => rfl) hp)
  · cases hp)
noncomputable def z0g : List PT → Option (Bool × AV × List Blk)
  | [.one (.row 1 s_n (.fl .f32 s)), .fn 154 []] => some ((z6o s_n s), ((AV.v (TV.one (At.bool (z6h s_n s)))), []))
  | _ => none
def z9o (s_n : Nat) (s : List Nat) : Option (Bool) → Option (AV × List Blk)
  | some r => some ((AV.v (TV.one (At.bool r))), [])
  | none => none
theorem zg9 (s_n : Nat) (s : List Nat) : evFn Γ6 8 8 147 (impTs 0 [.one (.row 1 s_n (.fl .f32 s)), .fn 154 []]).1 (impTs 0 [.one (.row 1 s_n (.fl .f32 s)), .fn 154 []]).2 (expo (impTs 0 [.one (.row 1 s_n (.fl .f32 s)), .fn 154 []]).2.length) = z4j s_n s (fun c0_ => some ((AV.v (TV.one (At.bool c0_))), [])) := by kernel_rfl
theorem z0k : SumOne Try.prog 147 z0g := sum_of (Γ := Γ6) (fuel := 8) (d := 8) tyTab_ok (FnL.ok fnTab_ok _ _) (LpL.ok lt6_ok) (SumL.ok tb6_ok _) mixed (by
  intro pts v news hp hc
  clear hc
  unfold z0g at hp
  split at hp
  · rename_i s_n s
    exact Eq.trans (Eq.trans (zg9 s_n s) (ze0 (z9o s_n s) rfl s_n s (fun c0_ => some c0_))) (fin_out (o := (z9o s_n s)) (x := z4l s_n s) (d := default) (V := fun r => ((AV.v (TV.one (At.bool r))), [])) (fun r => rfl) hp)
  · cases hp)
noncomputable def z5o : List PT → Option (Bool × AV × List Blk)
  | [.one (.s (.flt .f32 x))] => some ((zhw x), ((AV.v (TV.one (At.flt FloatKind.f32 (z01 x)))), []))
  | _ => none
def zm2 (x : Nat) : Option (Nat) → Option (AV × List Blk)
  | some r => some ((AV.v (TV.one (At.flt FloatKind.f32 r))), [])
  | none => none
theorem zqx (x : Nat) : evFn Γ6 8 8 198 (impTs 0 [.one (.s (.flt .f32 x))]).1 (impTs 0 [.one (.s (.flt .f32 x))]).2 (expo (impTs 0 [.one (.s (.flt .f32 x))]).2.length) = zce x (fun c0_ => some ((AV.v (TV.one (At.flt FloatKind.f32 c0_))), [])) := by kernel_rfl
theorem z53 : SumOne Try.prog 198 z5o := sum_of (Γ := Γ6) (fuel := 8) (d := 8) tyTab_ok (FnL.ok fnTab_ok _ _) (LpL.ok lt6_ok) (SumL.ok tb6_ok _) mixed (by
  intro pts v news hp hc
  clear hc
  unfold z5o at hp
  split at hp
  · rename_i x
    exact Eq.trans (Eq.trans (zqx x) (znx (zm2 x) rfl x (fun c0_ => some c0_))) (fin_out (o := (zm2 x)) (x := zci x) (d := default) (V := fun r => ((AV.v (TV.one (At.flt FloatKind.f32 r))), [])) (fun r => rfl) hp)
  · cases hp)
noncomputable def z57 : Nat → St → Option (Bool × LO)
  | 5, (St.mk [(0, (AV.v (TV.one (At.ptr 4 0 7)))), (4, (AV.v (TV.one (At.flt FloatKind.f32 t4)))), (57, (AV.v (TV.one (At.int IntKind.i64 t57)))), (58, (AV.v (TV.one (At.int IntKind.i64 t58))))] [(Blk.mk Bool.false (Body.fl FloatKind.f32 b0)), (Blk.mk Bool.false (Body.fl FloatKind.f32 b1)), (Blk.mk Bool.false (Body.fl FloatKind.f32 b2)), (Blk.mk Bool.false (Body.fl FloatKind.f32 b3)), (Blk.mk Bool.false (Body.cells [(At.vw 0 0 q2c 1), (At.vw 1 0 q2b 1), (At.vw 2 0 q2a 1), (At.vw 3 0 q1u 3), (At.int IntKind.i64 q2l), (At.flt FloatKind.f32 q2k), (At.flt FloatKind.f32 q1r)]))]) => some ((z9v t57 b3 q1u q1r t4 t58), (LO.two (z9d t57 b3 q1u q1r t4 t58) (LO.one Ex.ret (St.mk [(2, (AV.v (TV.one (At.bool Bool.false))))] [(Blk.mk Bool.false (Body.fl FloatKind.f32 b0)), (Blk.mk Bool.false (Body.fl FloatKind.f32 b1)), (Blk.mk Bool.false (Body.fl FloatKind.f32 b2)), (Blk.mk Bool.false (Body.fl FloatKind.f32 b3)), (Blk.mk Bool.false (Body.cells [(At.vw 0 0 q2c 1), (At.vw 1 0 q2b 1), (At.vw 2 0 q2a 1), (At.vw 3 0 q1u 3), (At.int IntKind.i64 q2l), (At.flt FloatKind.f32 q2k), (At.flt FloatKind.f32 q1r)]))])) (LO.one (Ex.exit 0) (St.mk [(0, (AV.v (TV.one (At.ptr 4 0 7)))), (4, (AV.v (TV.one (At.flt FloatKind.f32 (zhn t57 b3 q1u q1r t4 t58))))), (57, (AV.v (TV.one (At.int IntKind.i64 t57)))), (58, (AV.v (TV.one (At.int IntKind.i64 (zho t57 b3 q1u q1r t4 t58))))), (59, (AV.v (TV.one (At.bool (zhm t57 b3 q1u q1r t4 t58)))))] [(Blk.mk Bool.false (Body.fl FloatKind.f32 b0)), (Blk.mk Bool.false (Body.fl FloatKind.f32 b1)), (Blk.mk Bool.false (Body.fl FloatKind.f32 b2)), (Blk.mk Bool.false (Body.fl FloatKind.f32 b3)), (Blk.mk Bool.false (Body.cells [(At.vw 0 0 q2c 1), (At.vw 1 0 q2b 1), (At.vw 2 0 q2a 1), (At.vw 3 0 q1u 3), (At.int IntKind.i64 q2l), (At.flt FloatKind.f32 q2k), (At.flt FloatKind.f32 q1r)]))]))))
  | _, _ => none
def ze8 (t57 : Int) (b0 : List Nat) (b1 : List Nat) (b2 : List Nat) (b3 : List Nat) (q2c : Nat) (q2b : Nat) (q2a : Nat) (q1u : Nat) (q2l : Int) (q2k : Nat) (q1r : Nat) : Option ((Unit) ⊕ (Nat × Int × Bool)) → Option (Ex × St)
  | none => none
  | some (Sum.inl r) => some (Ex.ret, (St.mk [(2, (AV.v (TV.one (At.bool Bool.false))))] [(Blk.mk Bool.false (Body.fl FloatKind.f32 b0)), (Blk.mk Bool.false (Body.fl FloatKind.f32 b1)), (Blk.mk Bool.false (Body.fl FloatKind.f32 b2)), (Blk.mk Bool.false (Body.fl FloatKind.f32 b3)), (Blk.mk Bool.false (Body.cells [(At.vw 0 0 q2c 1), (At.vw 1 0 q2b 1), (At.vw 2 0 q2a 1), (At.vw 3 0 q1u 3), (At.int IntKind.i64 q2l), (At.flt FloatKind.f32 q2k), (At.flt FloatKind.f32 q1r)]))]))
  | some (Sum.inr r) => some ((Ex.exit 0), (St.mk [(0, (AV.v (TV.one (At.ptr 4 0 7)))), (4, (AV.v (TV.one (At.flt FloatKind.f32 r.1)))), (57, (AV.v (TV.one (At.int IntKind.i64 t57)))), (58, (AV.v (TV.one (At.int IntKind.i64 r.2.1)))), (59, (AV.v (TV.one (At.bool r.2.2))))] [(Blk.mk Bool.false (Body.fl FloatKind.f32 b0)), (Blk.mk Bool.false (Body.fl FloatKind.f32 b1)), (Blk.mk Bool.false (Body.fl FloatKind.f32 b2)), (Blk.mk Bool.false (Body.fl FloatKind.f32 b3)), (Blk.mk Bool.false (Body.cells [(At.vw 0 0 q2c 1), (At.vw 1 0 q2b 1), (At.vw 2 0 q2a 1), (At.vw 3 0 q1u 3), (At.int IntKind.i64 q2l), (At.flt FloatKind.f32 q2k), (At.flt FloatKind.f32 q1r)]))]))
def zpg (t57 : Int) (b0 : List Nat) (b1 : List Nat) (b2 : List Nat) (b3 : List Nat) (q2c : Nat) (q2b : Nat) (q2a : Nat) (q1u : Nat) (q2l : Int) (q2k : Nat) (q1r : Nat) (x : Option ((Unit) ⊕ (Nat × Int × Bool))) : LO := (LO.two (oL x) (LO.one Ex.ret (St.mk [(2, (AV.v (TV.one (At.bool Bool.false))))] [(Blk.mk Bool.false (Body.fl FloatKind.f32 b0)), (Blk.mk Bool.false (Body.fl FloatKind.f32 b1)), (Blk.mk Bool.false (Body.fl FloatKind.f32 b2)), (Blk.mk Bool.false (Body.fl FloatKind.f32 b3)), (Blk.mk Bool.false (Body.cells [(At.vw 0 0 q2c 1), (At.vw 1 0 q2b 1), (At.vw 2 0 q2a 1), (At.vw 3 0 q1u 3), (At.int IntKind.i64 q2l), (At.flt FloatKind.f32 q2k), (At.flt FloatKind.f32 q1r)]))])) (LO.one (Ex.exit 0) (St.mk [(0, (AV.v (TV.one (At.ptr 4 0 7)))), (4, (AV.v (TV.one (At.flt FloatKind.f32 ((tR x).getD default).1)))), (57, (AV.v (TV.one (At.int IntKind.i64 t57)))), (58, (AV.v (TV.one (At.int IntKind.i64 ((tR x).getD default).2.1)))), (59, (AV.v (TV.one (At.bool ((tR x).getD default).2.2))))] [(Blk.mk Bool.false (Body.fl FloatKind.f32 b0)), (Blk.mk Bool.false (Body.fl FloatKind.f32 b1)), (Blk.mk Bool.false (Body.fl FloatKind.f32 b2)), (Blk.mk Bool.false (Body.fl FloatKind.f32 b3)), (Blk.mk Bool.false (Body.cells [(At.vw 0 0 q2c 1), (At.vw 1 0 q2b 1), (At.vw 2 0 q2a 1), (At.vw 3 0 q1u 3), (At.int IntKind.i64 q2l), (At.flt FloatKind.f32 q2k), (At.flt FloatKind.f32 q1r)]))])))
theorem zqh (t57 : Int) (b0 : List Nat) (b1 : List Nat) (b2 : List Nat) (b3 : List Nat) (q2c : Nat) (q2b : Nat) (q2a : Nat) (q1u : Nat) (q2l : Int) (q2k : Nat) (q1r : Nat) : ∀ x : Option ((Unit) ⊕ (Nat × Int × Bool)), x.isSome = true → (ze8 t57 b0 b1 b2 b3 q2c q2b q2a q1u q2l q2k q1r) x = some (pick (zpg t57 b0 b1 b2 b3 q2c q2b q2a q1u q2l q2k q1r x))
  | none, h => by cases h
  | some (Sum.inl r), _ => rfl
  | some (Sum.inr r), _ => rfl
theorem zq7 (t4 : Nat) (t57 : Int) (t58 : Int) (b0 : List Nat) (b1 : List Nat) (b2 : List Nat) (b3 : List Nat) (q2c : Nat) (q2b : Nat) (q2a : Nat) (q1u : Nat) (q2l : Int) (q2k : Nat) (q1r : Nat) (K : Ex → St → Option (Ex × St)) : evC (R := Ex × St) Γ6 (evFn Γ6 8 8) 161 5 fi161.nt fi161.live fi161.nl 8 (findL 6 (loopsIn fi161.code)) (St.mk [(0, (AV.v (TV.one (At.ptr 4 0 7)))), (4, (AV.v (TV.one (At.flt FloatKind.f32 t4)))), (57, (AV.v (TV.one (At.int IntKind.i64 t57)))), (58, (AV.v (TV.one (At.int IntKind.i64 t58))))] [(Blk.mk Bool.false (Body.fl FloatKind.f32 b0)), (Blk.mk Bool.false (Body.fl FloatKind.f32 b1)), (Blk.mk Bool.false (Body.fl FloatKind.f32 b2)), (Blk.mk Bool.false (Body.fl FloatKind.f32 b3)), (Blk.mk Bool.false (Body.cells [(At.vw 0 0 q2c 1), (At.vw 1 0 q2b 1), (At.vw 2 0 q2a 1), (At.vw 3 0 q1u 3), (At.int IntKind.i64 q2l), (At.flt FloatKind.f32 q2k), (At.flt FloatKind.f32 q1r)]))]) K = z8d t57 b3 q1u q1r t4 t58 (fun t4' t58' => K .normal (St.mk [(0, (AV.v (TV.one (At.ptr 4 0 7)))), (4, (AV.v (TV.one (At.flt FloatKind.f32 t4')))), (57, (AV.v (TV.one (At.int IntKind.i64 t57)))), (58, (AV.v (TV.one (At.int IntKind.i64 t58'))))] [(Blk.mk Bool.false (Body.fl FloatKind.f32 b0)), (Blk.mk Bool.false (Body.fl FloatKind.f32 b1)), (Blk.mk Bool.false (Body.fl FloatKind.f32 b2)), (Blk.mk Bool.false (Body.fl FloatKind.f32 b3)), (Blk.mk Bool.false (Body.cells [(At.vw 0 0 q2c 1), (At.vw 1 0 q2b 1), (At.vw 2 0 q2a 1), (At.vw 3 0 q1u 3), (At.int IntKind.i64 q2l), (At.flt FloatKind.f32 q2k), (At.flt FloatKind.f32 q1r)]))])) (fun _ => K Ex.ret (St.mk [(2, (AV.v (TV.one (At.bool Bool.false))))] [(Blk.mk Bool.false (Body.fl FloatKind.f32 b0)), (Blk.mk Bool.false (Body.fl FloatKind.f32 b1)), (Blk.mk Bool.false (Body.fl FloatKind.f32 b2)), (Blk.mk Bool.false (Body.fl FloatKind.f32 b3)), (Blk.mk Bool.false (Body.cells [(At.vw 0 0 q2c 1), (At.vw 1 0 q2b 1), (At.vw 2 0 q2a 1), (At.vw 3 0 q1u 3), (At.int IntKind.i64 q2l), (At.flt FloatKind.f32 q2k), (At.flt FloatKind.f32 q1r)]))])) (fun c0_ c1_ c2_ => K (Ex.exit 0) (St.mk [(0, (AV.v (TV.one (At.ptr 4 0 7)))), (4, (AV.v (TV.one (At.flt FloatKind.f32 c0_)))), (57, (AV.v (TV.one (At.int IntKind.i64 t57)))), (58, (AV.v (TV.one (At.int IntKind.i64 c1_)))), (59, (AV.v (TV.one (At.bool c2_))))] [(Blk.mk Bool.false (Body.fl FloatKind.f32 b0)), (Blk.mk Bool.false (Body.fl FloatKind.f32 b1)), (Blk.mk Bool.false (Body.fl FloatKind.f32 b2)), (Blk.mk Bool.false (Body.fl FloatKind.f32 b3)), (Blk.mk Bool.false (Body.cells [(At.vw 0 0 q2c 1), (At.vw 1 0 q2b 1), (At.vw 2 0 q2a 1), (At.vw 3 0 q1u 3), (At.int IntKind.i64 q2l), (At.flt FloatKind.f32 q2k), (At.flt FloatKind.f32 q1r)]))])) := by kernel_rfl
theorem zqf (t57 : Int) (b0 : List Nat) (b1 : List Nat) (b2 : List Nat) (b3 : List Nat) (q2c : Nat) (q2b : Nat) (q2a : Nat) (q1u : Nat) (q2l : Int) (q2k : Nat) (q1r : Nat) : ∀ (n : Nat) (t4 : Nat) (t58 : Int), iter 161 6 5 (evC (R := Ex × St) Γ6 (evFn Γ6 8 8) 161 5 fi161.nt fi161.live fi161.nl 8 (findL 6 (loopsIn fi161.code))) n (St.mk [(0, (AV.v (TV.one (At.ptr 4 0 7)))), (4, (AV.v (TV.one (At.flt FloatKind.f32 t4)))), (57, (AV.v (TV.one (At.int IntKind.i64 t57)))), (58, (AV.v (TV.one (At.int IntKind.i64 t58))))] [(Blk.mk Bool.false (Body.fl FloatKind.f32 b0)), (Blk.mk Bool.false (Body.fl FloatKind.f32 b1)), (Blk.mk Bool.false (Body.fl FloatKind.f32 b2)), (Blk.mk Bool.false (Body.fl FloatKind.f32 b3)), (Blk.mk Bool.false (Body.cells [(At.vw 0 0 q2c 1), (At.vw 1 0 q2b 1), (At.vw 2 0 q2a 1), (At.vw 3 0 q1u 3), (At.int IntKind.i64 q2l), (At.flt FloatKind.f32 q2k), (At.flt FloatKind.f32 q1r)]))]) (fun e st => some (e, st)) = (ze8 t57 b0 b1 b2 b3 q2c q2b q2a q1u q2l q2k q1r) (z56 t57 b3 q1u q1r n t4 t58) := by
  intro n
  induction n with
  | zero => intros; rfl
  | succ n ih =>
    intro t4 t58
    refine Eq.trans (iter_succ ..) (Eq.trans (zq7 t4 t57 t58 b0 b1 b2 b3 q2c q2b q2a q1u q2l q2k q1r (nextK 161 6 5 (evC (R := Ex × St) Γ6 (evFn Γ6 8 8) 161 5 fi161.nt fi161.live fi161.nl 8 (findL 6 (loopsIn fi161.code))) n (fun e st => some (e, st)))) (Eq.trans ?_ (zn8 (ze8 t57 b0 b1 b2 b3 q2c q2b q2a q1u q2l q2k q1r) rfl t57 b3 q1u q1r t4 t58 (fun t4' t58' => z56 t57 b3 q1u q1r n t4' t58') (fun _ => some (Sum.inl ())) (fun c0_ c1_ c2_ => some (Sum.inr (c0_, c1_, c2_))))))
    exact congrArg (fun kn_ => z8d t57 b3 q1u q1r t4 t58 kn_ (fun _ => (ze8 t57 b0 b1 b2 b3 q2c q2b q2a q1u q2l q2k q1r) (some (Sum.inl ()))) (fun c0_ c1_ c2_ => (ze8 t57 b0 b1 b2 b3 q2c q2b q2a q1u q2l q2k q1r) (some (Sum.inr (c0_, c1_, c2_))))) (funext fun t4' => funext fun t58' => ih t4' t58')
theorem z4d : LoopOne Try.prog fnTab 161 6 z57 := lp_of (Γ := Γ6) tyTab_ok (FnL.ok fnTab_ok _ _) (LpL.ok lt6_ok) (SumL.ok tb6_ok _) mixed (fi := fi161) (by kernel_rfl) (by kernel_rfl) (by
  intro lo st out hp
  unfold z57 at hp
  split at hp
  · rename_i t4 t57 t58 b0 b1 b2 b3 q2c q2b q2a q1u q2l q2k q1r
    injection hp with hp
    injection hp with h1 h2
    subst h2
    exact ⟨8, 8, big, Eq.trans (zqf t57 b0 b1 b2 b3 q2c q2b q2a q1u q2l q2k q1r big t4 t58) (zqh t57 b0 b1 b2 b3 q2c q2b q2a q1u q2l q2k q1r (z56 t57 b3 q1u q1r big t4 t58) h1)⟩
  · cases hp)
noncomputable def tb7 : List (Nat × (List PT → Option (Bool × AV × List Blk))) := [(156, z0w), (181, z1b), (182, z1v), (189, z1y), (26, z2n), (55, z24), (89, z3q), (102, z5w), (112, z1u), (114, z32), (115, z27), (123, z2l), (126, z4e), (157, z5u), (160, z1t), (162, z4g), (167, z25), (187, z26), (83, z0z), (85, z42), (90, z3e), (103, z43), (111, z2j), (116, z2u), (117, z44), (138, z2v), (148, z1r), (150, z16), (169, z2i), (185, z2w), (52, z3v), (154, z2f), (158, z5h), (166, z2g), (104, z2q), (119, z36), (120, z2s), (168, z2p), (188, z2c), (54, z4u), (121, z3g), (122, z31), (165, z4t), (178, z0b), (178, z06), (184, z5t), (56, z5b), (170, z63), (178, z0h), (105, z6z), (124, z4f), (147, z0e), (147, z08), (147, z0g), (198, z5o)]
noncomputable def lt7 : List ((Nat × Nat) × (Nat → St → Option (Bool × LO))) := [((166, 3), z17), ((120, 3), z1f), ((168, 4), z1e), ((188, 17), z12), ((122, 4), z1m), ((178, 2), z04), ((178, 2), z02), ((184, 5), z3l), ((178, 2), z07), ((105, 9), z5d), ((161, 6), z57)]
noncomputable def Γ7 : Ctx := ⟨tyTab, fnTab, tblSum tb7, tblLp lt7⟩
theorem tb7_ok : SumL Try.prog tb7 := SumL.cons z0r (SumL.cons z15 (SumL.cons z1k (SumL.cons z1j (SumL.cons z22 (SumL.cons z1p (SumL.cons z2t (SumL.cons z4n (SumL.cons z1g (SumL.cons z2h (SumL.cons z1n (SumL.cons z23 (SumL.cons z3b (SumL.cons z4o (SumL.cons z1d (SumL.cons z38 (SumL.cons z1o (SumL.cons z1q (SumL.cons z0x (SumL.cons z35 (SumL.cons z2r (SumL.cons z34 (SumL.cons z21 (SumL.cons z2e (SumL.cons z33 (SumL.cons z2b (SumL.cons z1c (SumL.cons z13 (SumL.cons z1z (SumL.cons z2d (SumL.cons z2z (SumL.cons z1w (SumL.cons z41 (SumL.cons z1x (SumL.cons z28 (SumL.cons z2k (SumL.cons z29 (SumL.cons z2a (SumL.cons z20 (SumL.cons z3x (SumL.cons z2y (SumL.cons z2m (SumL.cons z3w (SumL.cons z0d (SumL.cons z09 (SumL.cons z58 (SumL.cons z4a (SumL.cons z5n (SumL.cons z0l (SumL.cons z67 (SumL.cons z3z (SumL.cons z0i (SumL.cons z0f (SumL.cons z0k (SumL.cons z53 (SumL.nil)))))))))))))))))))))))))))))))))))))))))))))))))))))))
theorem lt7_ok : LpL Try.prog fnTab lt7 := LpL.cons z14 (LpL.cons z19 (LpL.cons z18 (LpL.cons z10 (LpL.cons z1i (LpL.cons z05 (LpL.cons z03 (LpL.cons z2x (LpL.cons z0a (LpL.cons z49 (LpL.cons z4d (LpL.nil)))))))))))
noncomputable def z54 : List PT → Option (Bool × AV × List Blk)
  | [.one (.row 1 q1c (.fl .f32 q1l))] => some ((zcz q1c q1l), ((AV.v (TV.one (At.bool (zby q1c q1l)))), []))
  | _ => none
def zjq (q1c : Nat) (q1l : List Nat) : Option (Bool) → Option (AV × List Blk)
  | some r => some ((AV.v (TV.one (At.bool r))), [])
  | none => none
theorem zpy (q1c : Nat) (q1l : List Nat) : evFn Γ7 8 8 77 (impTs 0 [.one (.row 1 q1c (.fl .f32 q1l))]).1 (impTs 0 [.one (.row 1 q1c (.fl .f32 q1l))]).2 (expo (impTs 0 [.one (.row 1 q1c (.fl .f32 q1l))]).2.length) = zb0 q1c q1l (fun c0_ => some ((AV.v (TV.one (At.bool c0_))), [])) := by kernel_rfl
theorem z4p : SumOne Try.prog 77 z54 := sum_of (Γ := Γ7) (fuel := 8) (d := 8) tyTab_ok (FnL.ok fnTab_ok _ _) (LpL.ok lt7_ok) (SumL.ok tb7_ok _) mixed (by
  intro pts v news hp hc
  clear hc
  unfold z54 at hp
  split at hp
  · rename_i q1c q1l
    exact Eq.trans (Eq.trans (zpy q1c q1l) (zmt (zjq q1c q1l) rfl q1c q1l (fun c0_ => some c0_))) (fin_out (o := (zjq q1c q1l)) (x := z9b q1c q1l) (d := default) (V := fun r => ((AV.v (TV.one (At.bool r))), [])) (fun r => rfl) hp)
  · cases hp)
noncomputable def z3y : List PT → Option (Bool × AV × List Blk)
  | [.one (.row 1 q1c (.fl .f32 q1l))] => some ((zbg q1c q1l), ((AV.v (TV.one (At.bool (zaq q1c q1l)))), []))
  | _ => none
def zj0 (q1c : Nat) (q1l : List Nat) : Option (Bool) → Option (AV × List Blk)
  | some r => some ((AV.v (TV.one (At.bool r))), [])
  | none => none
theorem znl (q1c : Nat) (q1l : List Nat) : evFn Γ7 8 8 88 (impTs 0 [.one (.row 1 q1c (.fl .f32 q1l))]).1 (impTs 0 [.one (.row 1 q1c (.fl .f32 q1l))]).2 (expo (impTs 0 [.one (.row 1 q1c (.fl .f32 q1l))]).2.length) = z9f q1c q1l (fun c0_ => some ((AV.v (TV.one (At.bool c0_))), [])) := by kernel_rfl
theorem z3p : SumOne Try.prog 88 z3y := sum_of (Γ := Γ7) (fuel := 8) (d := 8) tyTab_ok (FnL.ok fnTab_ok _ _) (LpL.ok lt7_ok) (SumL.ok tb7_ok _) mixed (by
  intro pts v news hp hc
  clear hc
  unfold z3y at hp
  split at hp
  · rename_i q1c q1l
    exact Eq.trans (Eq.trans (znl q1c q1l) (zl8 (zj0 q1c q1l) rfl q1c q1l (fun c0_ => some c0_))) (fin_out (o := (zj0 q1c q1l)) (x := z8h q1c q1l) (d := default) (V := fun r => ((AV.v (TV.one (At.bool r))), [])) (fun r => rfl) hp)
  · cases hp)
noncomputable def z5m : List PT → Option (Bool × AV × List Blk)
  | [.one (.row 1 q1c (.fl .f32 q1l))] => some ((zh4 q1c q1l), ((AV.v (TV.one (At.bool (zgp q1c q1l)))), []))
  | _ => none
def zkr (q1c : Nat) (q1l : List Nat) : Option (Bool) → Option (AV × List Blk)
  | some r => some ((AV.v (TV.one (At.bool r))), [])
  | none => none
theorem zqc (q1c : Nat) (q1l : List Nat) : evFn Γ7 8 8 97 (impTs 0 [.one (.row 1 q1c (.fl .f32 q1l))]).1 (impTs 0 [.one (.row 1 q1c (.fl .f32 q1l))]).2 (expo (impTs 0 [.one (.row 1 q1c (.fl .f32 q1l))]).2.length) = zbv q1c q1l (fun c0_ => some ((AV.v (TV.one (At.bool c0_))), [])) := by kernel_rfl
theorem z55 : SumOne Try.prog 97 z5m := sum_of (Γ := Γ7) (fuel := 8) (d := 8) tyTab_ok (FnL.ok fnTab_ok _ _) (LpL.ok lt7_ok) (SumL.ok tb7_ok _) mixed (by
  intro pts v news hp hc
  clear hc
  unfold z5m at hp
  split at hp
  · rename_i q1c q1l
    exact Eq.trans (Eq.trans (zqc q1c q1l) (zn9 (zkr q1c q1l) rfl q1c q1l (fun c0_ => some c0_))) (fin_out (o := (zkr q1c q1l)) (x := zbl q1c q1l) (d := default) (V := fun r => ((AV.v (TV.one (At.bool r))), [])) (fun r => rfl) hp)
  · cases hp)
noncomputable def z4z : List PT → Option (Bool × AV × List Blk)
  | [.one (.s (.flt .f32 x))] => some ((zd0 x), ((AV.v (TV.one (At.flt FloatKind.f32 (z8v x)))), []))
  | _ => none
def zjy (x : Nat) : Option (Nat) → Option (AV × List Blk)
  | some r => some ((AV.v (TV.one (At.flt FloatKind.f32 r))), [])
  | none => none
theorem zpm (x : Nat) : evFn Γ7 8 8 109 (impTs 0 [.one (.s (.flt .f32 x))]).1 (impTs 0 [.one (.s (.flt .f32 x))]).2 (expo (impTs 0 [.one (.s (.flt .f32 x))]).2.length) = zb6 x (fun c0_ => some ((AV.v (TV.one (At.flt FloatKind.f32 c0_))), [])) := by kernel_rfl
theorem z4q : SumOne Try.prog 109 z4z := sum_of (Γ := Γ7) (fuel := 8) (d := 8) tyTab_ok (FnL.ok fnTab_ok _ _) (LpL.ok lt7_ok) (SumL.ok tb7_ok _) mixed (by
  intro pts v news hp hc
  clear hc
  unfold z4z at hp
  split at hp
  · rename_i x
    exact Eq.trans (Eq.trans (zpm x) (zmm (zjy x) rfl x (fun c0_ => some c0_))) (fin_out (o := (zjy x)) (x := zay x) (d := default) (V := fun r => ((AV.v (TV.one (At.flt FloatKind.f32 r))), [])) (fun r => rfl) hp)
  · cases hp)
noncomputable def z6r : List PT → Option (Bool × AV × List Blk)
  | [.ptr [.row 1 q00 (.fl .f32 q05), .row 1 q02 (.fl .f32 q07), .row 1 q01 (.fl .f32 q06), .row 3 q03 (.fl .f32 q0c), .s (.int .i64 q0g), .s (.flt .f32 q0j), .s (.flt .f32 q0i)]] => some ((zil q00 q05 q02 q07 q01 q06 q03 q0c q0g q0j q0i), ((AV.v (TV.one (At.bool (zig q00 q05 q02 q07 q01 q06 q03 q0c q0g q0j q0i)))), []))
  | _ => none
def zny (q00 : Nat) (q05 : List Nat) (q02 : Nat) (q07 : List Nat) (q01 : Nat) (q06 : List Nat) (q03 : Nat) (q0c : List Nat) (q0g : Int) (q0j : Nat) (q0i : Nat) : Option (Bool) → Option (AV × List Blk)
  | some r => some ((AV.v (TV.one (At.bool r))), [])
  | none => none
theorem zrg (q00 : Nat) (q05 : List Nat) (q02 : Nat) (q07 : List Nat) (q01 : Nat) (q06 : List Nat) (q03 : Nat) (q0c : List Nat) (q0g : Int) (q0j : Nat) (q0i : Nat) : evFn Γ7 8 8 161 (impTs 0 [.ptr [.row 1 q00 (.fl .f32 q05), .row 1 q02 (.fl .f32 q07), .row 1 q01 (.fl .f32 q06), .row 3 q03 (.fl .f32 q0c), .s (.int .i64 q0g), .s (.flt .f32 q0j), .s (.flt .f32 q0i)]]).1 (impTs 0 [.ptr [.row 1 q00 (.fl .f32 q05), .row 1 q02 (.fl .f32 q07), .row 1 q01 (.fl .f32 q06), .row 3 q03 (.fl .f32 q0c), .s (.int .i64 q0g), .s (.flt .f32 q0j), .s (.flt .f32 q0i)]]).2 (expo (impTs 0 [.ptr [.row 1 q00 (.fl .f32 q05), .row 1 q02 (.fl .f32 q07), .row 1 q01 (.fl .f32 q06), .row 3 q03 (.fl .f32 q0c), .s (.int .i64 q0g), .s (.flt .f32 q0j), .s (.flt .f32 q0i)]]).2.length) = zfx q00 q05 q02 q07 q01 q06 q03 q0c q0g q0j q0i (fun c0_ => some ((AV.v (TV.one (At.bool c0_))), [])) := by kernel_rfl
theorem z64 : SumOne Try.prog 161 z6r := sum_of (Γ := Γ7) (fuel := 8) (d := 8) tyTab_ok (FnL.ok fnTab_ok _ _) (LpL.ok lt7_ok) (SumL.ok tb7_ok _) mixed (by
  intro pts v news hp hc
  clear hc
  unfold z6r at hp
  split at hp
  · rename_i q00 q05 q02 q07 q01 q06 q03 q0c q0g q0j q0i
    exact Eq.trans (Eq.trans (zrg q00 q05 q02 q07 q01 q06 q03 q0c q0g q0j q0i) (zpr (zny q00 q05 q02 q07 q01 q06 q03 q0c q0g q0j q0i) rfl q00 q05 q02 q07 q01 q06 q03 q0c q0g q0j q0i (fun c0_ => some c0_))) (fin_out (o := (zny q00 q05 q02 q07 q01 q06 q03 q0c q0g q0j q0i)) (x := zfp q00 q05 q02 q07 q01 q06 q03 q0c q0g q0j q0i) (d := default) (V := fun r => ((AV.v (TV.one (At.bool r))), [])) (fun r => rfl) hp)
  · cases hp)
noncomputable def tb8 : List (Nat × (List PT → Option (Bool × AV × List Blk))) := [(156, z0w), (181, z1b), (182, z1v), (189, z1y), (26, z2n), (55, z24), (89, z3q), (102, z5w), (112, z1u), (114, z32), (115, z27), (123, z2l), (126, z4e), (157, z5u), (160, z1t), (162, z4g), (167, z25), (187, z26), (83, z0z), (85, z42), (90, z3e), (103, z43), (111, z2j), (116, z2u), (117, z44), (138, z2v), (148, z1r), (150, z16), (169, z2i), (185, z2w), (52, z3v), (154, z2f), (158, z5h), (166, z2g), (104, z2q), (119, z36), (120, z2s), (168, z2p), (188, z2c), (54, z4u), (121, z3g), (122, z31), (165, z4t), (178, z0b), (178, z06), (184, z5t), (56, z5b), (170, z63), (178, z0h), (105, z6z), (124, z4f), (147, z0e), (147, z08), (147, z0g), (198, z5o), (77, z54), (88, z3y), (97, z5m), (109, z4z), (161, z6r)]
noncomputable def lt8 : List ((Nat × Nat) × (Nat → St → Option (Bool × LO))) := [((166, 3), z17), ((120, 3), z1f), ((168, 4), z1e), ((188, 17), z12), ((122, 4), z1m), ((178, 2), z04), ((178, 2), z02), ((184, 5), z3l), ((178, 2), z07), ((105, 9), z5d), ((161, 6), z57)]
noncomputable def Γ8 : Ctx := ⟨tyTab, fnTab, tblSum tb8, tblLp lt8⟩
theorem tb8_ok : SumL Try.prog tb8 := SumL.cons z0r (SumL.cons z15 (SumL.cons z1k (SumL.cons z1j (SumL.cons z22 (SumL.cons z1p (SumL.cons z2t (SumL.cons z4n (SumL.cons z1g (SumL.cons z2h (SumL.cons z1n (SumL.cons z23 (SumL.cons z3b (SumL.cons z4o (SumL.cons z1d (SumL.cons z38 (SumL.cons z1o (SumL.cons z1q (SumL.cons z0x (SumL.cons z35 (SumL.cons z2r (SumL.cons z34 (SumL.cons z21 (SumL.cons z2e (SumL.cons z33 (SumL.cons z2b (SumL.cons z1c (SumL.cons z13 (SumL.cons z1z (SumL.cons z2d (SumL.cons z2z (SumL.cons z1w (SumL.cons z41 (SumL.cons z1x (SumL.cons z28 (SumL.cons z2k (SumL.cons z29 (SumL.cons z2a (SumL.cons z20 (SumL.cons z3x (SumL.cons z2y (SumL.cons z2m (SumL.cons z3w (SumL.cons z0d (SumL.cons z09 (SumL.cons z58 (SumL.cons z4a (SumL.cons z5n (SumL.cons z0l (SumL.cons z67 (SumL.cons z3z (SumL.cons z0i (SumL.cons z0f (SumL.cons z0k (SumL.cons z53 (SumL.cons z4p (SumL.cons z3p (SumL.cons z55 (SumL.cons z4q (SumL.cons z64 (SumL.nil))))))))))))))))))))))))))))))))))))))))))))))))))))))))))))
theorem lt8_ok : LpL Try.prog fnTab lt8 := LpL.cons z14 (LpL.cons z19 (LpL.cons z18 (LpL.cons z10 (LpL.cons z1i (LpL.cons z05 (LpL.cons z03 (LpL.cons z2x (LpL.cons z0a (LpL.cons z49 (LpL.cons z4d (LpL.nil)))))))))))
noncomputable def z52 : List PT → Option (Bool × AV × List Blk)
  | [.one (.s (.flt .f32 x)), .one (.s (.flt .f32 y))] => some ((zff x y), ((AV.tup [(TV.one (At.flt FloatKind.f32 (ze4 x y))), (TV.one (At.flt FloatKind.f32 (zei x y))), (TV.one (At.bool (zdx x y)))]), []))
  | _ => none
def zjb (x : Nat) (y : Nat) : Option (Nat × Nat × Bool) → Option (AV × List Blk)
  | some r => some ((AV.tup [(TV.one (At.flt FloatKind.f32 r.1)), (TV.one (At.flt FloatKind.f32 r.2.1)), (TV.one (At.bool r.2.2))]), [])
  | none => none
theorem zp4 (x : Nat) (y : Nat) : evFn Γ8 8 8 79 (impTs 0 [.one (.s (.flt .f32 x)), .one (.s (.flt .f32 y))]).1 (impTs 0 [.one (.s (.flt .f32 x)), .one (.s (.flt .f32 y))]).2 (expo (impTs 0 [.one (.s (.flt .f32 x)), .one (.s (.flt .f32 y))]).2.length) = za9 x y (fun c0_ c1_ c2_ => some ((AV.tup [(TV.one (At.flt FloatKind.f32 c0_)), (TV.one (At.flt FloatKind.f32 c1_)), (TV.one (At.bool c2_))]), [])) := by kernel_rfl
theorem z4s : SumOne Try.prog 79 z52 := sum_of (Γ := Γ8) (fuel := 8) (d := 8) tyTab_ok (FnL.ok fnTab_ok _ _) (LpL.ok lt8_ok) (SumL.ok tb8_ok _) mixed (by
  intro pts v news hp hc
  clear hc
  unfold z52 at hp
  split at hp
  · rename_i x y
    exact Eq.trans (Eq.trans (zp4 x y) (zla (zjb x y) rfl x y (fun c0_ c1_ c2_ => some (c0_, c1_, c2_)))) (fin_out (o := (zjb x y)) (x := z8a x y) (d := default) (V := fun r => ((AV.tup [(TV.one (At.flt FloatKind.f32 r.1)), (TV.one (At.flt FloatKind.f32 r.2.1)), (TV.one (At.bool r.2.2))]), [])) (fun r => rfl) hp)
  · cases hp)
noncomputable def z50 : List PT → Option (Bool × AV × List Blk)
  | [.ptr [.row 1 q09 (.fl .f32 q0d), .row 1 q0a (.fl .f32 q0e), .row 1 q0b (.fl .f32 q0f), .row 3 q0h (.fl .f32 q0k), .s (.int .i64 q0w), .s (.flt .f32 q13), .s (.flt .f32 q12)], .one (.s (.int .i64 i))] => some ((zfb q09 q0d q0a q0e q0b q0f q0h q0k q0w q13 q12 i), ((AV.v (TV.one (At.bool (zdw q09 q0d q0a q0e q0b q0f q0h q0k q0w q13 q12 i)))), []))
  | _ => none
def zjc (q09 : Nat) (q0d : List Nat) (q0a : Nat) (q0e : List Nat) (q0b : Nat) (q0f : List Nat) (q0h : Nat) (q0k : List Nat) (q0w : Int) (q13 : Nat) (q12 : Nat) (i : Int) : Option (Bool) → Option (AV × List Blk)
  | some r => some ((AV.v (TV.one (At.bool r))), [])
  | none => none
theorem zoe (q09 : Nat) (q0d : List Nat) (q0a : Nat) (q0e : List Nat) (q0b : Nat) (q0f : List Nat) (q0h : Nat) (q0k : List Nat) (q0w : Int) (q13 : Nat) (q12 : Nat) (i : Int) : evFn Γ8 8 8 113 (impTs 0 [.ptr [.row 1 q09 (.fl .f32 q0d), .row 1 q0a (.fl .f32 q0e), .row 1 q0b (.fl .f32 q0f), .row 3 q0h (.fl .f32 q0k), .s (.int .i64 q0w), .s (.flt .f32 q13), .s (.flt .f32 q12)], .one (.s (.int .i64 i))]).1 (impTs 0 [.ptr [.row 1 q09 (.fl .f32 q0d), .row 1 q0a (.fl .f32 q0e), .row 1 q0b (.fl .f32 q0f), .row 3 q0h (.fl .f32 q0k), .s (.int .i64 q0w), .s (.flt .f32 q13), .s (.flt .f32 q12)], .one (.s (.int .i64 i))]).2 (expo (impTs 0 [.ptr [.row 1 q09 (.fl .f32 q0d), .row 1 q0a (.fl .f32 q0e), .row 1 q0b (.fl .f32 q0f), .row 3 q0h (.fl .f32 q0k), .s (.int .i64 q0w), .s (.flt .f32 q13), .s (.flt .f32 q12)], .one (.s (.int .i64 i))]).2.length) = za4 q09 q0d q0a q0e q0b q0f q0h q0k q0w q13 q12 i (fun c0_ => some ((AV.v (TV.one (At.bool c0_))), [])) := by kernel_rfl
theorem z4v : SumOne Try.prog 113 z50 := sum_of (Γ := Γ8) (fuel := 8) (d := 8) tyTab_ok (FnL.ok fnTab_ok _ _) (LpL.ok lt8_ok) (SumL.ok tb8_ok _) mixed (by
  intro pts v news hp hc
  clear hc
  unfold z50 at hp
  split at hp
  · rename_i q09 q0d q0a q0e q0b q0f q0h q0k q0w q13 q12 i
    exact Eq.trans (Eq.trans (zoe q09 q0d q0a q0e q0b q0f q0h q0k q0w q13 q12 i) (zlo (zjc q09 q0d q0a q0e q0b q0f q0h q0k q0w q13 q12 i) rfl q09 q0d q0a q0e q0b q0f q0h q0k q0w q13 q12 i (fun c0_ => some c0_))) (fin_out (o := (zjc q09 q0d q0a q0e q0b q0f q0h q0k q0w q13 q12 i)) (x := za0 q09 q0d q0a q0e q0b q0f q0h q0k q0w q13 q12 i) (d := default) (V := fun r => ((AV.v (TV.one (At.bool r))), [])) (fun r => rfl) hp)
  · cases hp)
noncomputable def z0j : Nat → St → Option (Bool × LO)
  | 5, (St.mk [(0, (AV.v (TV.one (At.vw 0 0 sn 1)))), (1, (AV.v (TV.one (At.fn 179 [(At.ptr 4 0 1)])))), (7, (AV.v (TV.one (At.int IntKind.i64 t7)))), (8, (AV.v (TV.one (At.int IntKind.i64 t8))))] [(Blk.mk Bool.false (Body.fl FloatKind.f32 b0)), (Blk.mk Bool.false (Body.fl FloatKind.f32 b1)), (Blk.mk Bool.false (Body.fl FloatKind.f32 b2)), (Blk.mk Bool.true (Body.cells [(At.vw 0 0 q18 1), (At.vw 1 0 q1j 1), (At.vw 2 0 q1k 1)])), (Blk.mk Bool.true (Body.cells [(At.flt FloatKind.f32 b4)]))]) => some ((z3j sn t7 b0 b4 t8), (LO.two (z3f sn t7 b0 b4 t8) (LO.one Ex.ret (St.mk [(4, (AV.v (TV.one (At.int IntKind.i64 (z0q sn t7 b0 b4 t8)))))] [(Blk.mk Bool.false (Body.fl FloatKind.f32 b0)), (Blk.mk Bool.false (Body.fl FloatKind.f32 b1)), (Blk.mk Bool.false (Body.fl FloatKind.f32 b2)), (Blk.mk Bool.true (Body.cells [(At.vw 0 0 q18 1), (At.vw 1 0 q1j 1), (At.vw 2 0 q1k 1)])), (Blk.mk Bool.true (Body.cells [(At.flt FloatKind.f32 b4)]))])) (LO.one (Ex.exit 0) (St.mk [(0, (AV.v (TV.one (At.vw 0 0 sn 1)))), (1, (AV.v (TV.one (At.fn 179 [(At.ptr 4 0 1)])))), (7, (AV.v (TV.one (At.int IntKind.i64 t7)))), (8, (AV.v (TV.one (At.int IntKind.i64 (z76 sn t7 b0 b4 t8))))), (9, (AV.v (TV.one (At.bool (z74 sn t7 b0 b4 t8)))))] [(Blk.mk Bool.false (Body.fl FloatKind.f32 b0)), (Blk.mk Bool.false (Body.fl FloatKind.f32 b1)), (Blk.mk Bool.false (Body.fl FloatKind.f32 b2)), (Blk.mk Bool.true (Body.cells [(At.vw 0 0 q18 1), (At.vw 1 0 q1j 1), (At.vw 2 0 q1k 1)])), (Blk.mk Bool.true (Body.cells [(At.flt FloatKind.f32 b4)]))]))))
  | _, _ => none
def z59 (sn : Nat) (t7 : Int) (b0 : List Nat) (b1 : List Nat) (b2 : List Nat) (q18 : Nat) (q1j : Nat) (q1k : Nat) (b4 : Nat) : Option ((Int) ⊕ (Int × Bool)) → Option (Ex × St)
  | none => none
  | some (Sum.inl r) => some (Ex.ret, (St.mk [(4, (AV.v (TV.one (At.int IntKind.i64 r))))] [(Blk.mk Bool.false (Body.fl FloatKind.f32 b0)), (Blk.mk Bool.false (Body.fl FloatKind.f32 b1)), (Blk.mk Bool.false (Body.fl FloatKind.f32 b2)), (Blk.mk Bool.true (Body.cells [(At.vw 0 0 q18 1), (At.vw 1 0 q1j 1), (At.vw 2 0 q1k 1)])), (Blk.mk Bool.true (Body.cells [(At.flt FloatKind.f32 b4)]))]))
  | some (Sum.inr r) => some ((Ex.exit 0), (St.mk [(0, (AV.v (TV.one (At.vw 0 0 sn 1)))), (1, (AV.v (TV.one (At.fn 179 [(At.ptr 4 0 1)])))), (7, (AV.v (TV.one (At.int IntKind.i64 t7)))), (8, (AV.v (TV.one (At.int IntKind.i64 r.1)))), (9, (AV.v (TV.one (At.bool r.2))))] [(Blk.mk Bool.false (Body.fl FloatKind.f32 b0)), (Blk.mk Bool.false (Body.fl FloatKind.f32 b1)), (Blk.mk Bool.false (Body.fl FloatKind.f32 b2)), (Blk.mk Bool.true (Body.cells [(At.vw 0 0 q18 1), (At.vw 1 0 q1j 1), (At.vw 2 0 q1k 1)])), (Blk.mk Bool.true (Body.cells [(At.flt FloatKind.f32 b4)]))]))
def zdi (sn : Nat) (t7 : Int) (b0 : List Nat) (b1 : List Nat) (b2 : List Nat) (q18 : Nat) (q1j : Nat) (q1k : Nat) (b4 : Nat) (x : Option ((Int) ⊕ (Int × Bool))) : LO := (LO.two (oL x) (LO.one Ex.ret (St.mk [(4, (AV.v (TV.one (At.int IntKind.i64 ((tL x).getD default)))))] [(Blk.mk Bool.false (Body.fl FloatKind.f32 b0)), (Blk.mk Bool.false (Body.fl FloatKind.f32 b1)), (Blk.mk Bool.false (Body.fl FloatKind.f32 b2)), (Blk.mk Bool.true (Body.cells [(At.vw 0 0 q18 1), (At.vw 1 0 q1j 1), (At.vw 2 0 q1k 1)])), (Blk.mk Bool.true (Body.cells [(At.flt FloatKind.f32 b4)]))])) (LO.one (Ex.exit 0) (St.mk [(0, (AV.v (TV.one (At.vw 0 0 sn 1)))), (1, (AV.v (TV.one (At.fn 179 [(At.ptr 4 0 1)])))), (7, (AV.v (TV.one (At.int IntKind.i64 t7)))), (8, (AV.v (TV.one (At.int IntKind.i64 ((tR x).getD default).1)))), (9, (AV.v (TV.one (At.bool ((tR x).getD default).2))))] [(Blk.mk Bool.false (Body.fl FloatKind.f32 b0)), (Blk.mk Bool.false (Body.fl FloatKind.f32 b1)), (Blk.mk Bool.false (Body.fl FloatKind.f32 b2)), (Blk.mk Bool.true (Body.cells [(At.vw 0 0 q18 1), (At.vw 1 0 q1j 1), (At.vw 2 0 q1k 1)])), (Blk.mk Bool.true (Body.cells [(At.flt FloatKind.f32 b4)]))])))
theorem zdv (sn : Nat) (t7 : Int) (b0 : List Nat) (b1 : List Nat) (b2 : List Nat) (q18 : Nat) (q1j : Nat) (q1k : Nat) (b4 : Nat) : ∀ x : Option ((Int) ⊕ (Int × Bool)), x.isSome = true → (z59 sn t7 b0 b1 b2 q18 q1j q1k b4) x = some (pick (zdi sn t7 b0 b1 b2 q18 q1j q1k b4 x))
  | none, h => by cases h
  | some (Sum.inl r), _ => rfl
  | some (Sum.inr r), _ => rfl
theorem zeh (sn : Nat) (t7 : Int) (t8 : Int) (b0 : List Nat) (b1 : List Nat) (b2 : List Nat) (q18 : Nat) (q1j : Nat) (q1k : Nat) (b4 : Nat) (K : Ex → St → Option (Ex × St)) : evC (R := Ex × St) Γ8 (evFn Γ8 8 8) 178 5 fi178.nt fi178.live fi178.nl 8 (findL 2 (loopsIn fi178.code)) (St.mk [(0, (AV.v (TV.one (At.vw 0 0 sn 1)))), (1, (AV.v (TV.one (At.fn 179 [(At.ptr 4 0 1)])))), (7, (AV.v (TV.one (At.int IntKind.i64 t7)))), (8, (AV.v (TV.one (At.int IntKind.i64 t8))))] [(Blk.mk Bool.false (Body.fl FloatKind.f32 b0)), (Blk.mk Bool.false (Body.fl FloatKind.f32 b1)), (Blk.mk Bool.false (Body.fl FloatKind.f32 b2)), (Blk.mk Bool.true (Body.cells [(At.vw 0 0 q18 1), (At.vw 1 0 q1j 1), (At.vw 2 0 q1k 1)])), (Blk.mk Bool.true (Body.cells [(At.flt FloatKind.f32 b4)]))]) K = z1a sn t7 b0 b4 t8 (fun t8' => K .normal (St.mk [(0, (AV.v (TV.one (At.vw 0 0 sn 1)))), (1, (AV.v (TV.one (At.fn 179 [(At.ptr 4 0 1)])))), (7, (AV.v (TV.one (At.int IntKind.i64 t7)))), (8, (AV.v (TV.one (At.int IntKind.i64 t8'))))] [(Blk.mk Bool.false (Body.fl FloatKind.f32 b0)), (Blk.mk Bool.false (Body.fl FloatKind.f32 b1)), (Blk.mk Bool.false (Body.fl FloatKind.f32 b2)), (Blk.mk Bool.true (Body.cells [(At.vw 0 0 q18 1), (At.vw 1 0 q1j 1), (At.vw 2 0 q1k 1)])), (Blk.mk Bool.true (Body.cells [(At.flt FloatKind.f32 b4)]))])) (fun c0_ => K Ex.ret (St.mk [(4, (AV.v (TV.one (At.int IntKind.i64 c0_))))] [(Blk.mk Bool.false (Body.fl FloatKind.f32 b0)), (Blk.mk Bool.false (Body.fl FloatKind.f32 b1)), (Blk.mk Bool.false (Body.fl FloatKind.f32 b2)), (Blk.mk Bool.true (Body.cells [(At.vw 0 0 q18 1), (At.vw 1 0 q1j 1), (At.vw 2 0 q1k 1)])), (Blk.mk Bool.true (Body.cells [(At.flt FloatKind.f32 b4)]))])) (fun c0_ c1_ => K (Ex.exit 0) (St.mk [(0, (AV.v (TV.one (At.vw 0 0 sn 1)))), (1, (AV.v (TV.one (At.fn 179 [(At.ptr 4 0 1)])))), (7, (AV.v (TV.one (At.int IntKind.i64 t7)))), (8, (AV.v (TV.one (At.int IntKind.i64 c0_)))), (9, (AV.v (TV.one (At.bool c1_))))] [(Blk.mk Bool.false (Body.fl FloatKind.f32 b0)), (Blk.mk Bool.false (Body.fl FloatKind.f32 b1)), (Blk.mk Bool.false (Body.fl FloatKind.f32 b2)), (Blk.mk Bool.true (Body.cells [(At.vw 0 0 q18 1), (At.vw 1 0 q1j 1), (At.vw 2 0 q1k 1)])), (Blk.mk Bool.true (Body.cells [(At.flt FloatKind.f32 b4)]))])) := by kernel_rfl
theorem zen (sn : Nat) (t7 : Int) (b0 : List Nat) (b1 : List Nat) (b2 : List Nat) (q18 : Nat) (q1j : Nat) (q1k : Nat) (b4 : Nat) : ∀ (n : Nat) (t8 : Int), iter 178 2 5 (evC (R := Ex × St) Γ8 (evFn Γ8 8 8) 178 5 fi178.nt fi178.live fi178.nl 8 (findL 2 (loopsIn fi178.code))) n (St.mk [(0, (AV.v (TV.one (At.vw 0 0 sn 1)))), (1, (AV.v (TV.one (At.fn 179 [(At.ptr 4 0 1)])))), (7, (AV.v (TV.one (At.int IntKind.i64 t7)))), (8, (AV.v (TV.one (At.int IntKind.i64 t8))))] [(Blk.mk Bool.false (Body.fl FloatKind.f32 b0)), (Blk.mk Bool.false (Body.fl FloatKind.f32 b1)), (Blk.mk Bool.false (Body.fl FloatKind.f32 b2)), (Blk.mk Bool.true (Body.cells [(At.vw 0 0 q18 1), (At.vw 1 0 q1j 1), (At.vw 2 0 q1k 1)])), (Blk.mk Bool.true (Body.cells [(At.flt FloatKind.f32 b4)]))]) (fun e st => some (e, st)) = (z59 sn t7 b0 b1 b2 q18 q1j q1k b4) (z0c sn t7 b0 b4 n t8) := by
  intro n
  induction n with
  | zero => intros; rfl
  | succ n ih =>
    intro t8
    refine Eq.trans (iter_succ ..) (Eq.trans (zeh sn t7 t8 b0 b1 b2 q18 q1j q1k b4 (nextK 178 2 5 (evC (R := Ex × St) Γ8 (evFn Γ8 8 8) 178 5 fi178.nt fi178.live fi178.nl 8 (findL 2 (loopsIn fi178.code))) n (fun e st => some (e, st)))) (Eq.trans ?_ (zca (z59 sn t7 b0 b1 b2 q18 q1j q1k b4) rfl sn t7 b0 b4 t8 (fun t8' => z0c sn t7 b0 b4 n t8') (fun c0_ => some (Sum.inl c0_)) (fun c0_ c1_ => some (Sum.inr (c0_, c1_))))))
    exact congrArg (fun kn_ => z1a sn t7 b0 b4 t8 kn_ (fun c0_ => (z59 sn t7 b0 b1 b2 q18 q1j q1k b4) (some (Sum.inl c0_))) (fun c0_ c1_ => (z59 sn t7 b0 b1 b2 q18 q1j q1k b4) (some (Sum.inr (c0_, c1_))))) (funext fun t8' => ih t8')
theorem z0m : LoopOne Try.prog fnTab 178 2 z0j := lp_of (Γ := Γ8) tyTab_ok (FnL.ok fnTab_ok _ _) (LpL.ok lt8_ok) (SumL.ok tb8_ok _) mixed (fi := fi178) (by kernel_rfl) (by kernel_rfl) (by
  intro lo st out hp
  unfold z0j at hp
  split at hp
  · rename_i sn t7 t8 b0 b1 b2 q18 q1j q1k b4
    injection hp with hp
    injection hp with h1 h2
    subst h2
    exact ⟨8, 8, big, Eq.trans (zen sn t7 b0 b1 b2 q18 q1j q1k b4 big t8) (zdv sn t7 b0 b1 b2 q18 q1j q1k b4 (z0c sn t7 b0 b4 big t8) h1)⟩
  · cases hp)
noncomputable def z4y : Nat → St → Option (Bool × LO)
  | 4, (St.mk [(0, (AV.v (TV.one (At.ptr 3 0 3)))), (8, (AV.v (TV.one (At.flt FloatKind.f32 t8)))), (9, (AV.v (TV.one (At.int IntKind.i64 t9)))), (10, (AV.v (TV.one (At.int IntKind.i64 t10))))] [(Blk.mk Bool.false (Body.fl FloatKind.f32 b0)), (Blk.mk Bool.false (Body.fl FloatKind.f32 b1)), (Blk.mk Bool.false (Body.fl FloatKind.f32 b2)), (Blk.mk Bool.false (Body.cells [(At.vw 0 0 q18 1), (At.vw 1 0 q1j 1), (At.vw 2 0 q1k 1)]))]) => some ((zfc t8 b0 q18 t10), (LO.one (Ex.exit 0) (St.mk [(0, (AV.v (TV.one (At.ptr 3 0 3)))), (8, (AV.v (TV.one (At.flt FloatKind.f32 t8)))), (9, (AV.v (TV.one (At.int IntKind.i64 t9)))), (10, (AV.v (TV.one (At.int IntKind.i64 (z00 t8 b0 q18 t10))))), (36, (AV.v (TV.one (At.bool (zgm t8 b0 q18 t10)))))] [(Blk.mk Bool.false (Body.fl FloatKind.f32 b0)), (Blk.mk Bool.false (Body.fl FloatKind.f32 b1)), (Blk.mk Bool.false (Body.fl FloatKind.f32 b2)), (Blk.mk Bool.false (Body.cells [(At.vw 0 0 q18 1), (At.vw 1 0 q1j 1), (At.vw 2 0 q1k 1)]))])))
  | _, _ => none
def zfi (t8 : Nat) (t9 : Int) (b0 : List Nat) (b1 : List Nat) (b2 : List Nat) (q18 : Nat) (q1j : Nat) (q1k : Nat) : Option ((Int × Bool)) → Option (Ex × St)
  | none => none
  | some r => some ((Ex.exit 0), (St.mk [(0, (AV.v (TV.one (At.ptr 3 0 3)))), (8, (AV.v (TV.one (At.flt FloatKind.f32 t8)))), (9, (AV.v (TV.one (At.int IntKind.i64 t9)))), (10, (AV.v (TV.one (At.int IntKind.i64 r.1)))), (36, (AV.v (TV.one (At.bool r.2))))] [(Blk.mk Bool.false (Body.fl FloatKind.f32 b0)), (Blk.mk Bool.false (Body.fl FloatKind.f32 b1)), (Blk.mk Bool.false (Body.fl FloatKind.f32 b2)), (Blk.mk Bool.false (Body.cells [(At.vw 0 0 q18 1), (At.vw 1 0 q1j 1), (At.vw 2 0 q1k 1)]))]))
def zo5 (t8 : Nat) (t9 : Int) (b0 : List Nat) (b1 : List Nat) (b2 : List Nat) (q18 : Nat) (q1j : Nat) (q1k : Nat) (x : Option ((Int × Bool))) : LO := (LO.one (Ex.exit 0) (St.mk [(0, (AV.v (TV.one (At.ptr 3 0 3)))), (8, (AV.v (TV.one (At.flt FloatKind.f32 t8)))), (9, (AV.v (TV.one (At.int IntKind.i64 t9)))), (10, (AV.v (TV.one (At.int IntKind.i64 (x.getD default).1)))), (36, (AV.v (TV.one (At.bool (x.getD default).2))))] [(Blk.mk Bool.false (Body.fl FloatKind.f32 b0)), (Blk.mk Bool.false (Body.fl FloatKind.f32 b1)), (Blk.mk Bool.false (Body.fl FloatKind.f32 b2)), (Blk.mk Bool.false (Body.cells [(At.vw 0 0 q18 1), (At.vw 1 0 q1j 1), (At.vw 2 0 q1k 1)]))]))
theorem zom (t8 : Nat) (t9 : Int) (b0 : List Nat) (b1 : List Nat) (b2 : List Nat) (q18 : Nat) (q1j : Nat) (q1k : Nat) : ∀ x : Option ((Int × Bool)), x.isSome = true → (zfi t8 t9 b0 b1 b2 q18 q1j q1k) x = some (pick (zo5 t8 t9 b0 b1 b2 q18 q1j q1k x))
  | none, h => by cases h
  | some r, _ => rfl
theorem zp0 (t8 : Nat) (t9 : Int) (t10 : Int) (b0 : List Nat) (b1 : List Nat) (b2 : List Nat) (q18 : Nat) (q1j : Nat) (q1k : Nat) (K : Ex → St → Option (Ex × St)) : evC (R := Ex × St) Γ8 (evFn Γ8 8 8) 193 4 fi193.nt fi193.live fi193.nl 8 (findL 4 (loopsIn fi193.code)) (St.mk [(0, (AV.v (TV.one (At.ptr 3 0 3)))), (8, (AV.v (TV.one (At.flt FloatKind.f32 t8)))), (9, (AV.v (TV.one (At.int IntKind.i64 t9)))), (10, (AV.v (TV.one (At.int IntKind.i64 t10))))] [(Blk.mk Bool.false (Body.fl FloatKind.f32 b0)), (Blk.mk Bool.false (Body.fl FloatKind.f32 b1)), (Blk.mk Bool.false (Body.fl FloatKind.f32 b2)), (Blk.mk Bool.false (Body.cells [(At.vw 0 0 q18 1), (At.vw 1 0 q1j 1), (At.vw 2 0 q1k 1)]))]) K = z7t t8 b0 q18 t10 (fun t10' => K .normal (St.mk [(0, (AV.v (TV.one (At.ptr 3 0 3)))), (8, (AV.v (TV.one (At.flt FloatKind.f32 t8)))), (9, (AV.v (TV.one (At.int IntKind.i64 t9)))), (10, (AV.v (TV.one (At.int IntKind.i64 t10'))))] [(Blk.mk Bool.false (Body.fl FloatKind.f32 b0)), (Blk.mk Bool.false (Body.fl FloatKind.f32 b1)), (Blk.mk Bool.false (Body.fl FloatKind.f32 b2)), (Blk.mk Bool.false (Body.cells [(At.vw 0 0 q18 1), (At.vw 1 0 q1j 1), (At.vw 2 0 q1k 1)]))])) (fun c0_ c1_ => K (Ex.exit 0) (St.mk [(0, (AV.v (TV.one (At.ptr 3 0 3)))), (8, (AV.v (TV.one (At.flt FloatKind.f32 t8)))), (9, (AV.v (TV.one (At.int IntKind.i64 t9)))), (10, (AV.v (TV.one (At.int IntKind.i64 c0_)))), (36, (AV.v (TV.one (At.bool c1_))))] [(Blk.mk Bool.false (Body.fl FloatKind.f32 b0)), (Blk.mk Bool.false (Body.fl FloatKind.f32 b1)), (Blk.mk Bool.false (Body.fl FloatKind.f32 b2)), (Blk.mk Bool.false (Body.cells [(At.vw 0 0 q18 1), (At.vw 1 0 q1j 1), (At.vw 2 0 q1k 1)]))])) := by kernel_rfl
theorem zok (t8 : Nat) (t9 : Int) (b0 : List Nat) (b1 : List Nat) (b2 : List Nat) (q18 : Nat) (q1j : Nat) (q1k : Nat) : ∀ (n : Nat) (t10 : Int), iter 193 4 4 (evC (R := Ex × St) Γ8 (evFn Γ8 8 8) 193 4 fi193.nt fi193.live fi193.nl 8 (findL 4 (loopsIn fi193.code))) n (St.mk [(0, (AV.v (TV.one (At.ptr 3 0 3)))), (8, (AV.v (TV.one (At.flt FloatKind.f32 t8)))), (9, (AV.v (TV.one (At.int IntKind.i64 t9)))), (10, (AV.v (TV.one (At.int IntKind.i64 t10))))] [(Blk.mk Bool.false (Body.fl FloatKind.f32 b0)), (Blk.mk Bool.false (Body.fl FloatKind.f32 b1)), (Blk.mk Bool.false (Body.fl FloatKind.f32 b2)), (Blk.mk Bool.false (Body.cells [(At.vw 0 0 q18 1), (At.vw 1 0 q1j 1), (At.vw 2 0 q1k 1)]))]) (fun e st => some (e, st)) = (zfi t8 t9 b0 b1 b2 q18 q1j q1k) (z68 t8 b0 q18 n t10) := by
  intro n
  induction n with
  | zero => intros; rfl
  | succ n ih =>
    intro t10
    refine Eq.trans (iter_succ ..) (Eq.trans (zp0 t8 t9 t10 b0 b1 b2 q18 q1j q1k (nextK 193 4 4 (evC (R := Ex × St) Γ8 (evFn Γ8 8 8) 193 4 fi193.nt fi193.live fi193.nl 8 (findL 4 (loopsIn fi193.code))) n (fun e st => some (e, st)))) (Eq.trans ?_ (zlp (zfi t8 t9 b0 b1 b2 q18 q1j q1k) rfl t8 b0 q18 t10 (fun t10' => z68 t8 b0 q18 n t10') (fun c0_ c1_ => some (c0_, c1_)))))
    exact congrArg (fun kn_ => z7t t8 b0 q18 t10 kn_ (fun c0_ c1_ => (zfi t8 t9 b0 b1 b2 q18 q1j q1k) (some (c0_, c1_)))) (funext fun t10' => ih t10')
theorem z4r : LoopOne Try.prog fnTab 193 4 z4y := lp_of (Γ := Γ8) tyTab_ok (FnL.ok fnTab_ok _ _) (LpL.ok lt8_ok) (SumL.ok tb8_ok _) mixed (fi := fi193) (by kernel_rfl) (by kernel_rfl) (by
  intro lo st out hp
  unfold z4y at hp
  split at hp
  · rename_i t8 t9 t10 b0 b1 b2 q18 q1j q1k
    injection hp with hp
    injection hp with h1 h2
    subst h2
    exact ⟨8, 8, big, Eq.trans (zok t8 t9 b0 b1 b2 q18 q1j q1k big t10) (zom t8 t9 b0 b1 b2 q18 q1j q1k (z68 t8 b0 q18 big t10) h1)⟩
  · cases hp)
noncomputable def tb9 : List (Nat × (List PT → Option (Bool × AV × List Blk))) := [(156, z0w), (181, z1b), (182, z1v), (189, z1y), (26, z2n), (55, z24), (89, z3q), (102, z5w), (112, z1u), (114, z32), (115, z27), (123, z2l), (126, z4e), (157, z5u), (160, z1t), (162, z4g), (167, z25), (187, z26), (83, z0z), (85, z42), (90, z3e), (103, z43), (111, z2j), (116, z2u), (117, z44), (138, z2v), (148, z1r), (150, z16), (169, z2i), (185, z2w), (52, z3v), (154, z2f), (158, z5h), (166, z2g), (104, z2q), (119, z36), (120, z2s), (168, z2p), (188, z2c), (54, z4u), (121, z3g), (122, z31), (165, z4t), (178, z0b), (178, z06), (184, z5t), (56, z5b), (170, z63), (178, z0h), (105, z6z), (124, z4f), (147, z0e), (147, z08), (147, z0g), (198, z5o), (77, z54), (88, z3y), (97, z5m), (109, z4z), (161, z6r), (79, z52), (113, z50)]
noncomputable def lt9 : List ((Nat × Nat) × (Nat → St → Option (Bool × LO))) := [((166, 3), z17), ((120, 3), z1f), ((168, 4), z1e), ((188, 17), z12), ((122, 4), z1m), ((178, 2), z04), ((178, 2), z02), ((184, 5), z3l), ((178, 2), z07), ((105, 9), z5d), ((161, 6), z57), ((178, 2), z0j), ((193, 4), z4y)]
noncomputable def Γ9 : Ctx := ⟨tyTab, fnTab, tblSum tb9, tblLp lt9⟩
theorem tb9_ok : SumL Try.prog tb9 := SumL.cons z0r (SumL.cons z15 (SumL.cons z1k (SumL.cons z1j (SumL.cons z22 (SumL.cons z1p (SumL.cons z2t (SumL.cons z4n (SumL.cons z1g (SumL.cons z2h (SumL.cons z1n (SumL.cons z23 (SumL.cons z3b (SumL.cons z4o (SumL.cons z1d (SumL.cons z38 (SumL.cons z1o (SumL.cons z1q (SumL.cons z0x (SumL.cons z35 (SumL.cons z2r (SumL.cons z34 (SumL.cons z21 (SumL.cons z2e (SumL.cons z33 (SumL.cons z2b (SumL.cons z1c (SumL.cons z13 (SumL.cons z1z (SumL.cons z2d (SumL.cons z2z (SumL.cons z1w (SumL.cons z41 (SumL.cons z1x (SumL.cons z28 (SumL.cons z2k (SumL.cons z29 (SumL.cons z2a (SumL.cons z20 (SumL.cons z3x (SumL.cons z2y (SumL.cons z2m (SumL.cons z3w (SumL.cons z0d (SumL.cons z09 (SumL.cons z58 (SumL.cons z4a (SumL.cons z5n (SumL.cons z0l (SumL.cons z67 (SumL.cons z3z (SumL.cons z0i (SumL.cons z0f (SumL.cons z0k (SumL.cons z53 (SumL.cons z4p (SumL.cons z3p (SumL.cons z55 (SumL.cons z4q (SumL.cons z64 (SumL.cons z4s (SumL.cons z4v (SumL.nil))))))))))))))))))))))))))))))))))))))))))))))))))))))))))))))
theorem lt9_ok : LpL Try.prog fnTab lt9 := LpL.cons z14 (LpL.cons z19 (LpL.cons z18 (LpL.cons z10 (LpL.cons z1i (LpL.cons z05 (LpL.cons z03 (LpL.cons z2x (LpL.cons z0a (LpL.cons z49 (LpL.cons z4d (LpL.cons z0m (LpL.cons z4r (LpL.nil)))))))))))))
noncomputable def z3a : List PT → Option (Bool × AV × List Blk)
  | [.agg [.row 1 q04 (.fl .f32 q08), .row 1 q0p (.fl .f32 q0t), .row 1 q0o (.fl .f32 q0u)], .one (.s (.flt .f32 x1))] => some ((zbe q04 q08 q0p q0t q0o q0u x1), ((AV.tup [(TV.one (At.int IntKind.i64 (z62 q04 q08 q0p q0t q0o q0u x1))), (TV.one (At.int IntKind.i64 (z61 q04 q08 q0p q0t q0o q0u x1))), (TV.one (At.flt FloatKind.f32 (z6n q04 q08 q0p q0t q0o q0u x1))), (TV.one (At.flt FloatKind.f32 (z7z q04 q08 q0p q0t q0o q0u x1))), (TV.one (At.flt FloatKind.f32 (z8r q04 q08 q0p q0t q0o q0u x1)))]), []))
  | _ => none
def zic (q04 : Nat) (q08 : List Nat) (q0p : Nat) (q0t : List Nat) (q0o : Nat) (q0u : List Nat) (x1 : Nat) : Option (Int × Int × Nat × Nat × Nat) → Option (AV × List Blk)
  | some r => some ((AV.tup [(TV.one (At.int IntKind.i64 r.1)), (TV.one (At.int IntKind.i64 r.2.1)), (TV.one (At.flt FloatKind.f32 r.2.2.1)), (TV.one (At.flt FloatKind.f32 r.2.2.2.1)), (TV.one (At.flt FloatKind.f32 r.2.2.2.2))]), [])
  | none => none
theorem zl7 (q04 : Nat) (q08 : List Nat) (q0p : Nat) (q0t : List Nat) (q0o : Nat) (q0u : List Nat) (x1 : Nat) : evFn Γ9 8 8 146 (impTs 0 [.agg [.row 1 q04 (.fl .f32 q08), .row 1 q0p (.fl .f32 q0t), .row 1 q0o (.fl .f32 q0u)], .one (.s (.flt .f32 x1))]).1 (impTs 0 [.agg [.row 1 q04 (.fl .f32 q08), .row 1 q0p (.fl .f32 q0t), .row 1 q0o (.fl .f32 q0u)], .one (.s (.flt .f32 x1))]).2 (expo (impTs 0 [.agg [.row 1 q04 (.fl .f32 q08), .row 1 q0p (.fl .f32 q0t), .row 1 q0o (.fl .f32 q0u)], .one (.s (.flt .f32 x1))]).2.length) = z7p q04 q08 q0p q0t q0o q0u x1 (fun c0_ c1_ c2_ c3_ c4_ => some ((AV.tup [(TV.one (At.int IntKind.i64 c0_)), (TV.one (At.int IntKind.i64 c1_)), (TV.one (At.flt FloatKind.f32 c2_)), (TV.one (At.flt FloatKind.f32 c3_)), (TV.one (At.flt FloatKind.f32 c4_))]), [])) := by kernel_rfl
theorem z3c : SumOne Try.prog 146 z3a := sum_of (Γ := Γ9) (fuel := 8) (d := 8) tyTab_ok (FnL.ok fnTab_ok _ _) (LpL.ok lt9_ok) (SumL.ok tb9_ok _) mixed (by
  intro pts v news hp hc
  clear hc
  unfold z3a at hp
  split at hp
  · rename_i q04 q08 q0p q0t q0o q0u x1
    exact Eq.trans (Eq.trans (zl7 q04 q08 q0p q0t q0o q0u x1) (zj5 (zic q04 q08 q0p q0t q0o q0u x1) rfl q04 q08 q0p q0t q0o q0u x1 (fun c0_ c1_ c2_ c3_ c4_ => some (c0_, c1_, c2_, c3_, c4_)))) (fin_out (o := (zic q04 q08 q0p q0t q0o q0u x1)) (x := z5i q04 q08 q0p q0t q0o q0u x1) (d := default) (V := fun r => ((AV.tup [(TV.one (At.int IntKind.i64 r.1)), (TV.one (At.int IntKind.i64 r.2.1)), (TV.one (At.flt FloatKind.f32 r.2.2.1)), (TV.one (At.flt FloatKind.f32 r.2.2.2.1)), (TV.one (At.flt FloatKind.f32 r.2.2.2.2))]), [])) (fun r => rfl) hp)
  · cases hp)
noncomputable def z6l : List PT → Option (Bool × AV × List Blk)
  | [.ptr [.row 1 q04 (.fl .f32 q08), .row 1 q0p (.fl .f32 q0t), .row 1 q0o (.fl .f32 q0u)], .one (.s (.flt .f32 x1))] => some ((zi2 q04 q08 q0p q0t q0o q0u x1), ((AV.tup [(TV.one (At.int IntKind.i64 (z9u q04 q08 q0p q0t q0o q0u x1))), (TV.one (At.int IntKind.i64 (ze9 q04 q08 q0p q0t q0o q0u x1))), (TV.one (At.flt FloatKind.f32 (zh8 q04 q08 q0p q0t q0o q0u x1))), (TV.one (At.flt FloatKind.f32 (zin q04 q08 q0p q0t q0o q0u x1)))]), []))
  | _ => none
def zm0 (q04 : Nat) (q08 : List Nat) (q0p : Nat) (q0t : List Nat) (q0o : Nat) (q0u : List Nat) (x1 : Nat) : Option (Int × Int × Nat × Nat) → Option (AV × List Blk)
  | some r => some ((AV.tup [(TV.one (At.int IntKind.i64 r.1)), (TV.one (At.int IntKind.i64 r.2.1)), (TV.one (At.flt FloatKind.f32 r.2.2.1)), (TV.one (At.flt FloatKind.f32 r.2.2.2))]), [])
  | none => none
theorem zr4 (q04 : Nat) (q08 : List Nat) (q0p : Nat) (q0t : List Nat) (q0o : Nat) (q0u : List Nat) (x1 : Nat) : evFn Γ9 8 8 193 (impTs 0 [.ptr [.row 1 q04 (.fl .f32 q08), .row 1 q0p (.fl .f32 q0t), .row 1 q0o (.fl .f32 q0u)], .one (.s (.flt .f32 x1))]).1 (impTs 0 [.ptr [.row 1 q04 (.fl .f32 q08), .row 1 q0p (.fl .f32 q0t), .row 1 q0o (.fl .f32 q0u)], .one (.s (.flt .f32 x1))]).2 (expo (impTs 0 [.ptr [.row 1 q04 (.fl .f32 q08), .row 1 q0p (.fl .f32 q0t), .row 1 q0o (.fl .f32 q0u)], .one (.s (.flt .f32 x1))]).2.length) = zbb q04 q08 q0p q0t q0o q0u x1 (fun c0_ c1_ c2_ c3_ => some ((AV.tup [(TV.one (At.int IntKind.i64 c0_)), (TV.one (At.int IntKind.i64 c1_)), (TV.one (At.flt FloatKind.f32 c2_)), (TV.one (At.flt FloatKind.f32 c3_))]), [])) := by kernel_rfl
theorem z69 : SumOne Try.prog 193 z6l := sum_of (Γ := Γ9) (fuel := 8) (d := 8) tyTab_ok (FnL.ok fnTab_ok _ _) (LpL.ok lt9_ok) (SumL.ok tb9_ok _) mixed (by
  intro pts v news hp hc
  clear hc
  unfold z6l at hp
  split at hp
  · rename_i q04 q08 q0p q0t q0o q0u x1
    exact Eq.trans (Eq.trans (zr4 q04 q08 q0p q0t q0o q0u x1) (znz (zm0 q04 q08 q0p q0t q0o q0u x1) rfl q04 q08 q0p q0t q0o q0u x1 (fun c0_ c1_ c2_ c3_ => some (c0_, c1_, c2_, c3_)))) (fin_out (o := (zm0 q04 q08 q0p q0t q0o q0u x1)) (x := z86 q04 q08 q0p q0t q0o q0u x1) (d := default) (V := fun r => ((AV.tup [(TV.one (At.int IntKind.i64 r.1)), (TV.one (At.int IntKind.i64 r.2.1)), (TV.one (At.flt FloatKind.f32 r.2.2.1)), (TV.one (At.flt FloatKind.f32 r.2.2.2))]), [])) (fun r => rfl) hp)
  · cases hp)
noncomputable def z37 : Nat → St → Option (Bool × LO)
  | 3, (St.mk [(1, (AV.v (TV.one (At.ptr 3 0 3)))), (42, (AV.v (TV.one (At.vw 0 0 q29 1)))), (43, (AV.v (TV.one (At.int IntKind.i64 t43)))), (44, (AV.v (TV.one (At.int IntKind.i64 t44))))] [(Blk.mk Bool.false (Body.fl FloatKind.f32 b0)), (Blk.mk Bool.false (Body.fl FloatKind.f32 b1)), (Blk.mk Bool.false (Body.fl FloatKind.f32 b2)), (Blk.mk Bool.true (Body.cells [(At.vw 0 0 q18 1), (At.vw 1 0 q1j 1), (At.vw 2 0 q1k 1)]))]) => some ((z7q q29 t43 b0 q18 t44), (LO.two (z7h q29 t43 b0 q18 t44) (LO.one Ex.ret (St.mk [(2, (AV.v (TV.one (At.bool Bool.false))))] [(Blk.mk Bool.false (Body.fl FloatKind.f32 b0)), (Blk.mk Bool.false (Body.fl FloatKind.f32 b1)), (Blk.mk Bool.false (Body.fl FloatKind.f32 b2))])) (LO.one (Ex.exit 0) (St.mk [(1, (AV.v (TV.one (At.ptr 3 0 3)))), (42, (AV.v (TV.one (At.vw 0 0 q29 1)))), (43, (AV.v (TV.one (At.int IntKind.i64 t43)))), (44, (AV.v (TV.one (At.int IntKind.i64 (zc1 q29 t43 b0 q18 t44))))), (45, (AV.v (TV.one (At.bool (zc4 q29 t43 b0 q18 t44)))))] [(Blk.mk Bool.false (Body.fl FloatKind.f32 b0)), (Blk.mk Bool.false (Body.fl FloatKind.f32 b1)), (Blk.mk Bool.false (Body.fl FloatKind.f32 b2)), (Blk.mk Bool.true (Body.cells [(At.vw 0 0 q18 1), (At.vw 1 0 q1j 1), (At.vw 2 0 q1k 1)]))]))))
  | _, _ => none
def z98 (q29 : Nat) (t43 : Int) (b0 : List Nat) (b1 : List Nat) (b2 : List Nat) (q18 : Nat) (q1j : Nat) (q1k : Nat) : Option ((Unit) ⊕ (Int × Bool)) → Option (Ex × St)
  | none => none
  | some (Sum.inl r) => some (Ex.ret, (St.mk [(2, (AV.v (TV.one (At.bool Bool.false))))] [(Blk.mk Bool.false (Body.fl FloatKind.f32 b0)), (Blk.mk Bool.false (Body.fl FloatKind.f32 b1)), (Blk.mk Bool.false (Body.fl FloatKind.f32 b2))]))
  | some (Sum.inr r) => some ((Ex.exit 0), (St.mk [(1, (AV.v (TV.one (At.ptr 3 0 3)))), (42, (AV.v (TV.one (At.vw 0 0 q29 1)))), (43, (AV.v (TV.one (At.int IntKind.i64 t43)))), (44, (AV.v (TV.one (At.int IntKind.i64 r.1)))), (45, (AV.v (TV.one (At.bool r.2))))] [(Blk.mk Bool.false (Body.fl FloatKind.f32 b0)), (Blk.mk Bool.false (Body.fl FloatKind.f32 b1)), (Blk.mk Bool.false (Body.fl FloatKind.f32 b2)), (Blk.mk Bool.true (Body.cells [(At.vw 0 0 q18 1), (At.vw 1 0 q1j 1), (At.vw 2 0 q1k 1)]))]))
def zkd (q29 : Nat) (t43 : Int) (b0 : List Nat) (b1 : List Nat) (b2 : List Nat) (q18 : Nat) (q1j : Nat) (q1k : Nat) (x : Option ((Unit) ⊕ (Int × Bool))) : LO := (LO.two (oL x) (LO.one Ex.ret (St.mk [(2, (AV.v (TV.one (At.bool Bool.false))))] [(Blk.mk Bool.false (Body.fl FloatKind.f32 b0)), (Blk.mk Bool.false (Body.fl FloatKind.f32 b1)), (Blk.mk Bool.false (Body.fl FloatKind.f32 b2))])) (LO.one (Ex.exit 0) (St.mk [(1, (AV.v (TV.one (At.ptr 3 0 3)))), (42, (AV.v (TV.one (At.vw 0 0 q29 1)))), (43, (AV.v (TV.one (At.int IntKind.i64 t43)))), (44, (AV.v (TV.one (At.int IntKind.i64 ((tR x).getD default).1)))), (45, (AV.v (TV.one (At.bool ((tR x).getD default).2))))] [(Blk.mk Bool.false (Body.fl FloatKind.f32 b0)), (Blk.mk Bool.false (Body.fl FloatKind.f32 b1)), (Blk.mk Bool.false (Body.fl FloatKind.f32 b2)), (Blk.mk Bool.true (Body.cells [(At.vw 0 0 q18 1), (At.vw 1 0 q1j 1), (At.vw 2 0 q1k 1)]))])))
theorem zl6 (q29 : Nat) (t43 : Int) (b0 : List Nat) (b1 : List Nat) (b2 : List Nat) (q18 : Nat) (q1j : Nat) (q1k : Nat) : ∀ x : Option ((Unit) ⊕ (Int × Bool)), x.isSome = true → (z98 q29 t43 b0 b1 b2 q18 q1j q1k) x = some (pick (zkd q29 t43 b0 b1 b2 q18 q1j q1k x))
  | none, h => by cases h
  | some (Sum.inl r), _ => rfl
  | some (Sum.inr r), _ => rfl
theorem zl0 (q29 : Nat) (t43 : Int) (t44 : Int) (b0 : List Nat) (b1 : List Nat) (b2 : List Nat) (q18 : Nat) (q1j : Nat) (q1k : Nat) (K : Ex → St → Option (Ex × St)) : evC (R := Ex × St) Γ9 (evFn Γ9 8 8) 57 3 fi57.nt fi57.live fi57.nl 8 (findL 5 (loopsIn fi57.code)) (St.mk [(1, (AV.v (TV.one (At.ptr 3 0 3)))), (42, (AV.v (TV.one (At.vw 0 0 q29 1)))), (43, (AV.v (TV.one (At.int IntKind.i64 t43)))), (44, (AV.v (TV.one (At.int IntKind.i64 t44))))] [(Blk.mk Bool.false (Body.fl FloatKind.f32 b0)), (Blk.mk Bool.false (Body.fl FloatKind.f32 b1)), (Blk.mk Bool.false (Body.fl FloatKind.f32 b2)), (Blk.mk Bool.true (Body.cells [(At.vw 0 0 q18 1), (At.vw 1 0 q1j 1), (At.vw 2 0 q1k 1)]))]) K = z6b q29 t43 b0 q18 t44 (fun t44' => K .normal (St.mk [(1, (AV.v (TV.one (At.ptr 3 0 3)))), (42, (AV.v (TV.one (At.vw 0 0 q29 1)))), (43, (AV.v (TV.one (At.int IntKind.i64 t43)))), (44, (AV.v (TV.one (At.int IntKind.i64 t44'))))] [(Blk.mk Bool.false (Body.fl FloatKind.f32 b0)), (Blk.mk Bool.false (Body.fl FloatKind.f32 b1)), (Blk.mk Bool.false (Body.fl FloatKind.f32 b2)), (Blk.mk Bool.true (Body.cells [(At.vw 0 0 q18 1), (At.vw 1 0 q1j 1), (At.vw 2 0 q1k 1)]))])) (fun _ => K Ex.ret (St.mk [(2, (AV.v (TV.one (At.bool Bool.false))))] [(Blk.mk Bool.false (Body.fl FloatKind.f32 b0)), (Blk.mk Bool.false (Body.fl FloatKind.f32 b1)), (Blk.mk Bool.false (Body.fl FloatKind.f32 b2))])) (fun c0_ c1_ => K (Ex.exit 0) (St.mk [(1, (AV.v (TV.one (At.ptr 3 0 3)))), (42, (AV.v (TV.one (At.vw 0 0 q29 1)))), (43, (AV.v (TV.one (At.int IntKind.i64 t43)))), (44, (AV.v (TV.one (At.int IntKind.i64 c0_)))), (45, (AV.v (TV.one (At.bool c1_))))] [(Blk.mk Bool.false (Body.fl FloatKind.f32 b0)), (Blk.mk Bool.false (Body.fl FloatKind.f32 b1)), (Blk.mk Bool.false (Body.fl FloatKind.f32 b2)), (Blk.mk Bool.true (Body.cells [(At.vw 0 0 q18 1), (At.vw 1 0 q1j 1), (At.vw 2 0 q1k 1)]))])) := by kernel_rfl
theorem zl1 (q29 : Nat) (t43 : Int) (b0 : List Nat) (b1 : List Nat) (b2 : List Nat) (q18 : Nat) (q1j : Nat) (q1k : Nat) : ∀ (n : Nat) (t44 : Int), iter 57 5 3 (evC (R := Ex × St) Γ9 (evFn Γ9 8 8) 57 3 fi57.nt fi57.live fi57.nl 8 (findL 5 (loopsIn fi57.code))) n (St.mk [(1, (AV.v (TV.one (At.ptr 3 0 3)))), (42, (AV.v (TV.one (At.vw 0 0 q29 1)))), (43, (AV.v (TV.one (At.int IntKind.i64 t43)))), (44, (AV.v (TV.one (At.int IntKind.i64 t44))))] [(Blk.mk Bool.false (Body.fl FloatKind.f32 b0)), (Blk.mk Bool.false (Body.fl FloatKind.f32 b1)), (Blk.mk Bool.false (Body.fl FloatKind.f32 b2)), (Blk.mk Bool.true (Body.cells [(At.vw 0 0 q18 1), (At.vw 1 0 q1j 1), (At.vw 2 0 q1k 1)]))]) (fun e st => some (e, st)) = (z98 q29 t43 b0 b1 b2 q18 q1j q1k) (z3r q29 t43 b0 q18 n t44) := by
  intro n
  induction n with
  | zero => intros; rfl
  | succ n ih =>
    intro t44
    refine Eq.trans (iter_succ ..) (Eq.trans (zl0 q29 t43 t44 b0 b1 b2 q18 q1j q1k (nextK 57 5 3 (evC (R := Ex × St) Γ9 (evFn Γ9 8 8) 57 3 fi57.nt fi57.live fi57.nl 8 (findL 5 (loopsIn fi57.code))) n (fun e st => some (e, st)))) (Eq.trans ?_ (zj4 (z98 q29 t43 b0 b1 b2 q18 q1j q1k) rfl q29 t43 b0 q18 t44 (fun t44' => z3r q29 t43 b0 q18 n t44') (fun _ => some (Sum.inl ())) (fun c0_ c1_ => some (Sum.inr (c0_, c1_))))))
    exact congrArg (fun kn_ => z6b q29 t43 b0 q18 t44 kn_ (fun _ => (z98 q29 t43 b0 b1 b2 q18 q1j q1k) (some (Sum.inl ()))) (fun c0_ c1_ => (z98 q29 t43 b0 b1 b2 q18 q1j q1k) (some (Sum.inr (c0_, c1_))))) (funext fun t44' => ih t44')
theorem z3d : LoopOne Try.prog fnTab 57 5 z37 := lp_of (Γ := Γ9) tyTab_ok (FnL.ok fnTab_ok _ _) (LpL.ok lt9_ok) (SumL.ok tb9_ok _) mixed (fi := fi57) (by kernel_rfl) (by kernel_rfl) (by
  intro lo st out hp
  unfold z37 at hp
  split at hp
  · rename_i q29 t43 t44 b0 b1 b2 q18 q1j q1k
    injection hp with hp
    injection hp with h1 h2
    subst h2
    exact ⟨8, 8, big, Eq.trans (zl1 q29 t43 b0 b1 b2 q18 q1j q1k big t44) (zl6 q29 t43 b0 b1 b2 q18 q1j q1k (z3r q29 t43 b0 q18 big t44) h1)⟩
  · cases hp)
noncomputable def tb10 : List (Nat × (List PT → Option (Bool × AV × List Blk))) := [(156, z0w), (181, z1b), (182, z1v), (189, z1y), (26, z2n), (55, z24), (89, z3q), (102, z5w), (112, z1u), (114, z32), (115, z27), (123, z2l), (126, z4e), (157, z5u), (160, z1t), (162, z4g), (167, z25), (187, z26), (83, z0z), (85, z42), (90, z3e), (103, z43), (111, z2j), (116, z2u), (117, z44), (138, z2v), (148, z1r), (150, z16), (169, z2i), (185, z2w), (52, z3v), (154, z2f), (158, z5h), (166, z2g), (104, z2q), (119, z36), (120, z2s), (168, z2p), (188, z2c), (54, z4u), (121, z3g), (122, z31), (165, z4t), (178, z0b), (178, z06), (184, z5t), (56, z5b), (170, z63), (178, z0h), (105, z6z), (124, z4f), (147, z0e), (147, z08), (147, z0g), (198, z5o), (77, z54), (88, z3y), (97, z5m), (109, z4z), (161, z6r), (79, z52), (113, z50), (146, z3a), (193, z6l)]
noncomputable def lt10 : List ((Nat × Nat) × (Nat → St → Option (Bool × LO))) := [((166, 3), z17), ((120, 3), z1f), ((168, 4), z1e), ((188, 17), z12), ((122, 4), z1m), ((178, 2), z04), ((178, 2), z02), ((184, 5), z3l), ((178, 2), z07), ((105, 9), z5d), ((161, 6), z57), ((178, 2), z0j), ((193, 4), z4y), ((57, 5), z37)]
noncomputable def Γ10 : Ctx := ⟨tyTab, fnTab, tblSum tb10, tblLp lt10⟩
theorem tb10_ok : SumL Try.prog tb10 := SumL.cons z0r (SumL.cons z15 (SumL.cons z1k (SumL.cons z1j (SumL.cons z22 (SumL.cons z1p (SumL.cons z2t (SumL.cons z4n (SumL.cons z1g (SumL.cons z2h (SumL.cons z1n (SumL.cons z23 (SumL.cons z3b (SumL.cons z4o (SumL.cons z1d (SumL.cons z38 (SumL.cons z1o (SumL.cons z1q (SumL.cons z0x (SumL.cons z35 (SumL.cons z2r (SumL.cons z34 (SumL.cons z21 (SumL.cons z2e (SumL.cons z33 (SumL.cons z2b (SumL.cons z1c (SumL.cons z13 (SumL.cons z1z (SumL.cons z2d (SumL.cons z2z (SumL.cons z1w (SumL.cons z41 (SumL.cons z1x (SumL.cons z28 (SumL.cons z2k (SumL.cons z29 (SumL.cons z2a (SumL.cons z20 (SumL.cons z3x (SumL.cons z2y (SumL.cons z2m (SumL.cons z3w (SumL.cons z0d (SumL.cons z09 (SumL.cons z58 (SumL.cons z4a (SumL.cons z5n (SumL.cons z0l (SumL.cons z67 (SumL.cons z3z (SumL.cons z0i (SumL.cons z0f (SumL.cons z0k (SumL.cons z53 (SumL.cons z4p (SumL.cons z3p (SumL.cons z55 (SumL.cons z4q (SumL.cons z64 (SumL.cons z4s (SumL.cons z4v (SumL.cons z3c (SumL.cons z69 (SumL.nil))))))))))))))))))))))))))))))))))))))))))))))))))))))))))))))))
theorem lt10_ok : LpL Try.prog fnTab lt10 := LpL.cons z14 (LpL.cons z19 (LpL.cons z18 (LpL.cons z10 (LpL.cons z1i (LpL.cons z05 (LpL.cons z03 (LpL.cons z2x (LpL.cons z0a (LpL.cons z49 (LpL.cons z4d (LpL.cons z0m (LpL.cons z4r (LpL.cons z3d (LpL.nil))))))))))))))
noncomputable def z5e : List PT → Option (Bool × AV × List Blk)
  | [.agg [.row 1 q04 (.fl .f32 q08), .row 1 q0p (.fl .f32 q0t), .row 1 q0o (.fl .f32 q0u)]] => some ((zd2 q04 q08 q0p q0t q0o q0u), ((AV.v (TV.one (At.bool (zc6 q04 q08 q0p q0t q0o q0u)))), []))
  | _ => none
def zis (q04 : Nat) (q08 : List Nat) (q0p : Nat) (q0t : List Nat) (q0o : Nat) (q0u : List Nat) : Option (Bool) → Option (AV × List Blk)
  | some r => some ((AV.v (TV.one (At.bool r))), [])
  | none => none
theorem zna (q04 : Nat) (q08 : List Nat) (q0p : Nat) (q0t : List Nat) (q0o : Nat) (q0u : List Nat) : evFn Γ10 8 8 57 (impTs 0 [.agg [.row 1 q04 (.fl .f32 q08), .row 1 q0p (.fl .f32 q0t), .row 1 q0o (.fl .f32 q0u)]]).1 (impTs 0 [.agg [.row 1 q04 (.fl .f32 q08), .row 1 q0p (.fl .f32 q0t), .row 1 q0o (.fl .f32 q0u)]]).2 (expo (impTs 0 [.agg [.row 1 q04 (.fl .f32 q08), .row 1 q0p (.fl .f32 q0t), .row 1 q0o (.fl .f32 q0u)]]).2.length) = z96 q04 q08 q0p q0t q0o q0u (fun c0_ => some ((AV.v (TV.one (At.bool c0_))), [])) := by kernel_rfl
theorem z5g : SumOne Try.prog 57 z5e := sum_of (Γ := Γ10) (fuel := 8) (d := 8) tyTab_ok (FnL.ok fnTab_ok _ _) (LpL.ok lt10_ok) (SumL.ok tb10_ok _) mixed (by
  intro pts v news hp hc
  clear hc
  unfold z5e at hp
  split at hp
  · rename_i q04 q08 q0p q0t q0o q0u
    exact Eq.trans (Eq.trans (zna q04 q08 q0p q0t q0o q0u) (zkg (zis q04 q08 q0p q0t q0o q0u) rfl q04 q08 q0p q0t q0o q0u (fun c0_ => some c0_))) (fin_out (o := (zis q04 q08 q0p q0t q0o q0u)) (x := z95 q04 q08 q0p q0t q0o q0u) (d := default) (V := fun r => ((AV.v (TV.one (At.bool r))), [])) (fun r => rfl) hp)
  · cases hp)
noncomputable def z5y : List PT → Option (Bool × AV × List Blk)
  | [.agg [.row 1 q0v (.fl .f32 q15), .row 1 q0x (.fl .f32 q1a), .row 1 q0y (.fl .f32 q19)], .one (.row 1 q1c (.fl .f32 q1l)), .one (.s (.flt .f32 q1i))] => some ((zbx q0v q15 q0x q1a q0y q19 q1c q1l q1i), ((AV.v (TV.one (At.flt FloatKind.f32 (z8i q0v q15 q0x q1a q0y q19 q1c q1l q1i)))), []))
  | _ => none
def zjk (q0v : Nat) (q15 : List Nat) (q0x : Nat) (q1a : List Nat) (q0y : Nat) (q19 : List Nat) (q1c : Nat) (q1l : List Nat) (q1i : Nat) : Option (Nat) → Option (AV × List Blk)
  | some r => some ((AV.v (TV.one (At.flt FloatKind.f32 r))), [])
  | none => none
theorem zol (q0v : Nat) (q15 : List Nat) (q0x : Nat) (q1a : List Nat) (q0y : Nat) (q19 : List Nat) (q1c : Nat) (q1l : List Nat) (q1i : Nat) : evFn Γ10 8 8 76 (impTs 0 [.agg [.row 1 q0v (.fl .f32 q15), .row 1 q0x (.fl .f32 q1a), .row 1 q0y (.fl .f32 q19)], .one (.row 1 q1c (.fl .f32 q1l)), .one (.s (.flt .f32 q1i))]).1 (impTs 0 [.agg [.row 1 q0v (.fl .f32 q15), .row 1 q0x (.fl .f32 q1a), .row 1 q0y (.fl .f32 q19)], .one (.row 1 q1c (.fl .f32 q1l)), .one (.s (.flt .f32 q1i))]).2 (expo (impTs 0 [.agg [.row 1 q0v (.fl .f32 q15), .row 1 q0x (.fl .f32 q1a), .row 1 q0y (.fl .f32 q19)], .one (.row 1 q1c (.fl .f32 q1l)), .one (.s (.flt .f32 q1i))]).2.length) = za2 q0v q15 q0x q1a q0y q19 q1c q1l q1i (fun c0_ => some ((AV.v (TV.one (At.flt FloatKind.f32 c0_))), [])) := by kernel_rfl
theorem z5v : SumOne Try.prog 76 z5y := sum_of (Γ := Γ10) (fuel := 8) (d := 8) tyTab_ok (FnL.ok fnTab_ok _ _) (LpL.ok lt10_ok) (SumL.ok tb10_ok _) mixed (by
  intro pts v news hp hc
  clear hc
  unfold z5y at hp
  split at hp
  · rename_i q0v q15 q0x q1a q0y q19 q1c q1l q1i
    exact Eq.trans (Eq.trans (zol q0v q15 q0x q1a q0y q19 q1c q1l q1i) (zld (zjk q0v q15 q0x q1a q0y q19 q1c q1l q1i) rfl q0v q15 q0x q1a q0y q19 q1c q1l q1i (fun c0_ => some c0_))) (fin_out (o := (zjk q0v q15 q0x q1a q0y q19 q1c q1l q1i)) (x := za6 q0v q15 q0x q1a q0y q19 q1c q1l q1i) (d := default) (V := fun r => ((AV.v (TV.one (At.flt FloatKind.f32 r))), [])) (fun r => rfl) hp)
  · cases hp)
noncomputable def z7u : List PT → Option (Bool × AV × List Blk)
  | [.ptr [.row 1 q0v (.fl .f32 q15), .row 1 q0x (.fl .f32 q1a), .row 1 q0y (.fl .f32 q19)], .one (.row 1 q1c (.fl .f32 q1l)), .one (.s (.flt .f32 q1i))] => some ((zhp q0v q15 q0x q1a q0y q19 q1c q1l q1i), ((AV.v (TV.one (At.flt FloatKind.f32 (zgw q0v q15 q0x q1a q0y q19 q1c q1l q1i)))), []))
  | _ => none
def znr (q0v : Nat) (q15 : List Nat) (q0x : Nat) (q1a : List Nat) (q0y : Nat) (q19 : List Nat) (q1c : Nat) (q1l : List Nat) (q1i : Nat) : Option (Nat) → Option (AV × List Blk)
  | some r => some ((AV.v (TV.one (At.flt FloatKind.f32 r))), [])
  | none => none
theorem zrh (q0v : Nat) (q15 : List Nat) (q0x : Nat) (q1a : List Nat) (q0y : Nat) (q19 : List Nat) (q1c : Nat) (q1l : List Nat) (q1i : Nat) : evFn Γ10 8 8 186 (impTs 0 [.ptr [.row 1 q0v (.fl .f32 q15), .row 1 q0x (.fl .f32 q1a), .row 1 q0y (.fl .f32 q19)], .one (.row 1 q1c (.fl .f32 q1l)), .one (.s (.flt .f32 q1i))]).1 (impTs 0 [.ptr [.row 1 q0v (.fl .f32 q15), .row 1 q0x (.fl .f32 q1a), .row 1 q0y (.fl .f32 q19)], .one (.row 1 q1c (.fl .f32 q1l)), .one (.s (.flt .f32 q1i))]).2 (expo (impTs 0 [.ptr [.row 1 q0v (.fl .f32 q15), .row 1 q0x (.fl .f32 q1a), .row 1 q0y (.fl .f32 q19)], .one (.row 1 q1c (.fl .f32 q1l)), .one (.s (.flt .f32 q1i))]).2.length) = zfl q0v q15 q0x q1a q0y q19 q1c q1l q1i (fun c0_ => some ((AV.v (TV.one (At.flt FloatKind.f32 c0_))), [])) := by kernel_rfl
theorem z7n : SumOne Try.prog 186 z7u := sum_of (Γ := Γ10) (fuel := 8) (d := 8) tyTab_ok (FnL.ok fnTab_ok _ _) (LpL.ok lt10_ok) (SumL.ok tb10_ok _) mixed (by
  intro pts v news hp hc
  clear hc
  unfold z7u at hp
  split at hp
  · rename_i q0v q15 q0x q1a q0y q19 q1c q1l q1i
    exact Eq.trans (Eq.trans (zrh q0v q15 q0x q1a q0y q19 q1c q1l q1i) (zpi (znr q0v q15 q0x q1a q0y q19 q1c q1l q1i) rfl q0v q15 q0x q1a q0y q19 q1c q1l q1i (fun c0_ => some c0_))) (fin_out (o := (znr q0v q15 q0x q1a q0y q19 q1c q1l q1i)) (x := zfj q0v q15 q0x q1a q0y q19 q1c q1l q1i) (d := default) (V := fun r => ((AV.v (TV.one (At.flt FloatKind.f32 r))), [])) (fun r => rfl) hp)
  · cases hp)
noncomputable def tb11 : List (Nat × (List PT → Option (Bool × AV × List Blk))) := [(156, z0w), (181, z1b), (182, z1v), (189, z1y), (26, z2n), (55, z24), (89, z3q), (102, z5w), (112, z1u), (114, z32), (115, z27), (123, z2l), (126, z4e), (157, z5u), (160, z1t), (162, z4g), (167, z25), (187, z26), (83, z0z), (85, z42), (90, z3e), (103, z43), (111, z2j), (116, z2u), (117, z44), (138, z2v), (148, z1r), (150, z16), (169, z2i), (185, z2w), (52, z3v), (154, z2f), (158, z5h), (166, z2g), (104, z2q), (119, z36), (120, z2s), (168, z2p), (188, z2c), (54, z4u), (121, z3g), (122, z31), (165, z4t), (178, z0b), (178, z06), (184, z5t), (56, z5b), (170, z63), (178, z0h), (105, z6z), (124, z4f), (147, z0e), (147, z08), (147, z0g), (198, z5o), (77, z54), (88, z3y), (97, z5m), (109, z4z), (161, z6r), (79, z52), (113, z50), (146, z3a), (193, z6l), (57, z5e), (76, z5y), (186, z7u)]
noncomputable def lt11 : List ((Nat × Nat) × (Nat → St → Option (Bool × LO))) := [((166, 3), z17), ((120, 3), z1f), ((168, 4), z1e), ((188, 17), z12), ((122, 4), z1m), ((178, 2), z04), ((178, 2), z02), ((184, 5), z3l), ((178, 2), z07), ((105, 9), z5d), ((161, 6), z57), ((178, 2), z0j), ((193, 4), z4y), ((57, 5), z37)]
noncomputable def Γ11 : Ctx := ⟨tyTab, fnTab, tblSum tb11, tblLp lt11⟩
theorem tb11_ok : SumL Try.prog tb11 := SumL.cons z0r (SumL.cons z15 (SumL.cons z1k (SumL.cons z1j (SumL.cons z22 (SumL.cons z1p (SumL.cons z2t (SumL.cons z4n (SumL.cons z1g (SumL.cons z2h (SumL.cons z1n (SumL.cons z23 (SumL.cons z3b (SumL.cons z4o (SumL.cons z1d (SumL.cons z38 (SumL.cons z1o (SumL.cons z1q (SumL.cons z0x (SumL.cons z35 (SumL.cons z2r (SumL.cons z34 (SumL.cons z21 (SumL.cons z2e (SumL.cons z33 (SumL.cons z2b (SumL.cons z1c (SumL.cons z13 (SumL.cons z1z (SumL.cons z2d (SumL.cons z2z (SumL.cons z1w (SumL.cons z41 (SumL.cons z1x (SumL.cons z28 (SumL.cons z2k (SumL.cons z29 (SumL.cons z2a (SumL.cons z20 (SumL.cons z3x (SumL.cons z2y (SumL.cons z2m (SumL.cons z3w (SumL.cons z0d (SumL.cons z09 (SumL.cons z58 (SumL.cons z4a (SumL.cons z5n (SumL.cons z0l (SumL.cons z67 (SumL.cons z3z (SumL.cons z0i (SumL.cons z0f (SumL.cons z0k (SumL.cons z53 (SumL.cons z4p (SumL.cons z3p (SumL.cons z55 (SumL.cons z4q (SumL.cons z64 (SumL.cons z4s (SumL.cons z4v (SumL.cons z3c (SumL.cons z69 (SumL.cons z5g (SumL.cons z5v (SumL.cons z7n (SumL.nil)))))))))))))))))))))))))))))))))))))))))))))))))))))))))))))))))))
theorem lt11_ok : LpL Try.prog fnTab lt11 := LpL.cons z14 (LpL.cons z19 (LpL.cons z18 (LpL.cons z10 (LpL.cons z1i (LpL.cons z05 (LpL.cons z03 (LpL.cons z2x (LpL.cons z0a (LpL.cons z49 (LpL.cons z4d (LpL.cons z0m (LpL.cons z4r (LpL.cons z3d (LpL.nil))))))))))))))
noncomputable def z5q : List PT → Option (Bool × AV × List Blk)
  | [.agg [.row 1 q09 (.fl .f32 q0d), .row 1 q0a (.fl .f32 q0e), .row 1 q0b (.fl .f32 q0f), .row 3 q0h (.fl .f32 q0k), .s (.int .i64 q0w), .s (.flt .f32 q13), .s (.flt .f32 q12)], .one (.s (.int .i64 i)), .one (.s (.flt .f32 q1e)), .one (.s (.flt .f32 q1b))] => some ((zd3 q09 q0d q0a q0e q0b q0f q0h q0k q0w q13 q12 i q1e q1b), ((AV.tup [(TV.one (At.flt FloatKind.f32 (z81 q09 q0d q0a q0e q0b q0f q0h q0k q0w q13 q12 i q1e q1b))), (TV.one (At.flt FloatKind.f32 (z82 q09 q0d q0a q0e q0b q0f q0h q0k q0w q13 q12 i q1e q1b)))]), []))
  | _ => none
def ziu (q09 : Nat) (q0d : List Nat) (q0a : Nat) (q0e : List Nat) (q0b : Nat) (q0f : List Nat) (q0h : Nat) (q0k : List Nat) (q0w : Int) (q13 : Nat) (q12 : Nat) (i : Int) (q1e : Nat) (q1b : Nat) : Option (Nat × Nat) → Option (AV × List Blk)
  | some r => some ((AV.tup [(TV.one (At.flt FloatKind.f32 r.1)), (TV.one (At.flt FloatKind.f32 r.2))]), [])
  | none => none
theorem znd (q09 : Nat) (q0d : List Nat) (q0a : Nat) (q0e : List Nat) (q0b : Nat) (q0f : List Nat) (q0h : Nat) (q0k : List Nat) (q0w : Int) (q13 : Nat) (q12 : Nat) (i : Int) (q1e : Nat) (q1b : Nat) : evFn Γ11 8 8 87 (impTs 0 [.agg [.row 1 q09 (.fl .f32 q0d), .row 1 q0a (.fl .f32 q0e), .row 1 q0b (.fl .f32 q0f), .row 3 q0h (.fl .f32 q0k), .s (.int .i64 q0w), .s (.flt .f32 q13), .s (.flt .f32 q12)], .one (.s (.int .i64 i)), .one (.s (.flt .f32 q1e)), .one (.s (.flt .f32 q1b))]).1 (impTs 0 [.agg [.row 1 q09 (.fl .f32 q0d), .row 1 q0a (.fl .f32 q0e), .row 1 q0b (.fl .f32 q0f), .row 3 q0h (.fl .f32 q0k), .s (.int .i64 q0w), .s (.flt .f32 q13), .s (.flt .f32 q12)], .one (.s (.int .i64 i)), .one (.s (.flt .f32 q1e)), .one (.s (.flt .f32 q1b))]).2 (expo (impTs 0 [.agg [.row 1 q09 (.fl .f32 q0d), .row 1 q0a (.fl .f32 q0e), .row 1 q0b (.fl .f32 q0f), .row 3 q0h (.fl .f32 q0k), .s (.int .i64 q0w), .s (.flt .f32 q13), .s (.flt .f32 q12)], .one (.s (.int .i64 i)), .one (.s (.flt .f32 q1e)), .one (.s (.flt .f32 q1b))]).2.length) = z97 q09 q0d q0a q0e q0b q0f q0h q0k q0w q13 q12 i q1e q1b (fun c0_ c1_ => some ((AV.tup [(TV.one (At.flt FloatKind.f32 c0_)), (TV.one (At.flt FloatKind.f32 c1_))]), [])) := by kernel_rfl
theorem z5s : SumOne Try.prog 87 z5q := sum_of (Γ := Γ11) (fuel := 8) (d := 8) tyTab_ok (FnL.ok fnTab_ok _ _) (LpL.ok lt11_ok) (SumL.ok tb11_ok _) mixed (by
  intro pts v news hp hc
  clear hc
  unfold z5q at hp
  split at hp
  · rename_i q09 q0d q0a q0e q0b q0f q0h q0k q0w q13 q12 i q1e q1b
    exact Eq.trans (Eq.trans (znd q09 q0d q0a q0e q0b q0f q0h q0k q0w q13 q12 i q1e q1b) (zkh (ziu q09 q0d q0a q0e q0b q0f q0h q0k q0w q13 q12 i q1e q1b) rfl q09 q0d q0a q0e q0b q0f q0h q0k q0w q13 q12 i q1e q1b (fun c0_ c1_ => some (c0_, c1_)))) (fin_out (o := (ziu q09 q0d q0a q0e q0b q0f q0h q0k q0w q13 q12 i q1e q1b)) (x := z8b q09 q0d q0a q0e q0b q0f q0h q0k q0w q13 q12 i q1e q1b) (d := default) (V := fun r => ((AV.tup [(TV.one (At.flt FloatKind.f32 r.1)), (TV.one (At.flt FloatKind.f32 r.2))]), [])) (fun r => rfl) hp)
  · cases hp)
noncomputable def z7i : List PT → Option (Bool × AV × List Blk)
  | [.ptr [.row 1 q0v (.fl .f32 q15), .row 1 q0x (.fl .f32 q1a), .row 1 q0y (.fl .f32 q19)], .one (.s (.flt .f32 q1i))] => some ((zhx q0v q15 q0x q1a q0y q19 q1i), ((AV.v (TV.one (At.flt FloatKind.f32 (zeb q0v q15 q0x q1a q0y q19 q1i)))), []))
  | _ => none
def zle (q0v : Nat) (q15 : List Nat) (q0x : Nat) (q1a : List Nat) (q0y : Nat) (q19 : List Nat) (q1i : Nat) : Option (Nat) → Option (AV × List Blk)
  | some r => some ((AV.v (TV.one (At.flt FloatKind.f32 r))), [])
  | none => none
theorem zqs (q0v : Nat) (q15 : List Nat) (q0x : Nat) (q1a : List Nat) (q0y : Nat) (q19 : List Nat) (q1i : Nat) : evFn Γ11 8 8 163 (impTs 0 [.ptr [.row 1 q0v (.fl .f32 q15), .row 1 q0x (.fl .f32 q1a), .row 1 q0y (.fl .f32 q19)], .one (.s (.flt .f32 q1i))]).1 (impTs 0 [.ptr [.row 1 q0v (.fl .f32 q15), .row 1 q0x (.fl .f32 q1a), .row 1 q0y (.fl .f32 q19)], .one (.s (.flt .f32 q1i))]).2 (expo (impTs 0 [.ptr [.row 1 q0v (.fl .f32 q15), .row 1 q0x (.fl .f32 q1a), .row 1 q0y (.fl .f32 q19)], .one (.s (.flt .f32 q1i))]).2.length) = zcg q0v q15 q0x q1a q0y q19 q1i (fun c0_ => some ((AV.v (TV.one (At.flt FloatKind.f32 c0_))), [])) := by kernel_rfl
end Go.Proofs.Ytdhmognknjpemaa
