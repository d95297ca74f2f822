/-
  What functions answer: that the evaluator answers so. Printed by a program.
-/
import Derived.Test.YtdmbbllcgpicbaaPlateProfileC
set_option linter.unusedVariables false
set_option linter.unusedSimpArgs false
set_option maxRecDepth 100000
set_option maxHeartbeats 4000000
namespace Go.Proofs.Ytdmbbllcgpicbaa
open Go Go.Rf
def z0z : List PT → Option (Bool × AV × List Blk)
  | [.one (.s (.flt .f64 x))] => some (bnot (nanQ .f64 x), A1 (.int .u64 x), [])
  | _ => none
theorem z0s : SumOne Try.prog 129 z0z := by
  intro pts v news hp w vals hv
  unfold z0z at hp
  split at hp
  · rename_i x
    injection hp with hp
    injection hp with h1 hp
    injection hp with h2 h3
    subst h2
    subst h3
    obtain ⟨l, hl⟩ : ∃ l, l = vals.toList := ⟨_, rfl⟩
    rw [← hl] at hv
    cases hv with
    | cons a1 a2 =>
      cases a2
      obtain ⟨b, hb1, hb2, hb3⟩ := a1
      subst hb1
      rename_i hx
      have hvals : vals = #[.float .f64 b] := by rw [← Array.toList_inj, ← hl]
      subst hvals
      have hn : nanB .f64 b = false := by rw [← nanB_cn, hb3]; simpa [bnot, nanQ] using h1
      rw [cn_of_not hn] at hb3
      subst hb3
      refine .inl ⟨_, w, by (simp only [callFunc, Sem.run_bind, run_program, Result.andThen_ok, Try.func129]; rfl), NoB, ⟨⟨(fun t b' h => by cases t <;> cases h), (fun t t' b1 b2 x x' _ h => by cases t <;> cases h)⟩, (fun t x h => by cases h), Fr.refl _ w⟩, rfl⟩
  · cases hp
def z0j : List PT → Option (Bool × AV × List Blk)
  | [.one (.s (.int .u64 x))] => some (okU .f64 x, A1 (.flt .f64 (cnI .f64 x)), [])
  | _ => none
theorem z0f : SumOne Try.prog 133 z0j := by
  intro pts v news hp w vals hv
  unfold z0j at hp
  split at hp
  · rename_i x
    injection hp with hp
    injection hp with h1 hp
    injection hp with h2 h3
    subst h2
    subst h3
    obtain ⟨l, hl⟩ : ∃ l, l = vals.toList := ⟨_, rfl⟩
    rw [← hl] at hv
    cases hv with
    | cons a1 a2 =>
      cases a2
      have hb1 : _ = Value.int .u64 x := a1
      subst hb1
      rename_i hx
      have hvals : vals = #[.int .u64 x] := by rw [← Array.toList_inj, ← hl]
      subst hvals
      have hw := okU_lt h1
      refine .inl ⟨_, w, by (simp only [callFunc, Sem.run_bind, run_program, Result.andThen_ok, Try.func133]; rfl), NoB, ⟨⟨(fun t b' h => by cases t <;> cases h), (fun t t' b1 b2 x x' _ h => by cases t <;> cases h)⟩, (fun t x h => by cases h), Fr.refl _ w⟩, ⟨_, rfl, hw, rfl⟩⟩
  · cases hp
def z0y : List PT → Option (Bool × AV × List Blk)
  | [.one (.s (.flt .f32 x))] => some (bnot (nanQ .f32 x), A1 (.int .u32 x), [])
  | _ => none
theorem z0r : SumOne Try.prog 137 z0y := by
  intro pts v news hp w vals hv
  unfold z0y at hp
  split at hp
  · rename_i x
    injection hp with hp
    injection hp with h1 hp
    injection hp with h2 h3
    subst h2
    subst h3
    obtain ⟨l, hl⟩ : ∃ l, l = vals.toList := ⟨_, rfl⟩
    rw [← hl] at hv
    cases hv with
    | cons a1 a2 =>
      cases a2
      obtain ⟨b, hb1, hb2, hb3⟩ := a1
      subst hb1
      rename_i hx
      have hvals : vals = #[.float .f32 b] := by rw [← Array.toList_inj, ← hl]
      subst hvals
      have hn : nanB .f32 b = false := by rw [← nanB_cn, hb3]; simpa [bnot, nanQ] using h1
      rw [cn_of_not hn] at hb3
      subst hb3
      refine .inl ⟨_, w, by (simp only [callFunc, Sem.run_bind, run_program, Result.andThen_ok, Try.func137]; rfl), NoB, ⟨⟨(fun t b' h => by cases t <;> cases h), (fun t t' b1 b2 x x' _ h => by cases t <;> cases h)⟩, (fun t x h => by cases h), Fr.refl _ w⟩, rfl⟩
  · cases hp
def z1p : List PT → Option (Bool × AV × List Blk)
  | [.one (.s (.flt .f64 x))] => some (bnot (nanQ .f64 x), A1 (.flt .f64 (fint .zero x)), [])
  | _ => none
theorem z0x : SumOne Try.prog 139 z1p := by
  intro pts v news hp w vals hv
  unfold z1p at hp
  split at hp
  · rename_i x
    injection hp with hp
    injection hp with h1 hp
    injection hp with h2 h3
    subst h2
    subst h3
    obtain ⟨l, hl⟩ : ∃ l, l = vals.toList := ⟨_, rfl⟩
    rw [← hl] at hv
    cases hv with
    | cons a1 a2 =>
      cases a2
      obtain ⟨b, hb1, hb2, hb3⟩ := a1
      subst hb1
      rename_i hx
      have hvals : vals = #[.float .f64 b] := by rw [← Array.toList_inj, ← hl]
      subst hvals
      have hn : nanB .f64 b = false := by rw [← nanB_cn, hb3]; simpa [bnot, nanQ] using h1
      rw [cn_of_not hn] at hb3
      subst hb3
      refine .inl ⟨_, w, by (simp only [callFunc, Sem.run_bind, run_program, Result.andThen_ok, Try.func139]; change (do let v ← Extern.MathFloor.toIntegral "math.archTrunc" .zero #[.float .f64 b]; pure (.value v) : Sem Next).run Try.prog w = _; rw [Sem.run_bind, run_fint hn]; rfl), NoB, ⟨⟨(fun t b' h => by cases t <;> cases h), (fun t t' b1 b2 x x' _ h => by cases t <;> cases h)⟩, (fun t x h => by cases h), Fr.refl _ w⟩, fint_rel hn⟩
  · cases hp
noncomputable def tb0 : List (Nat × (List PT → Option (Bool × AV × List Blk))) := [(129, z0z), (133, z0j), (137, z0y), (139, z1p)]
noncomputable def lt0 : List ((Nat × Nat) × (Nat → St → Option (Bool × LO))) := []
noncomputable def Γ0 : Ctx := ⟨tyTab, fnTab, tblSum tb0, tblLp lt0⟩
theorem tb0_ok : SumL Try.prog tb0 := SumL.cons z0s (SumL.cons z0f (SumL.cons z0r (SumL.cons z0x (SumL.nil))))
theorem lt0_ok : LpL Try.prog fnTab lt0 := LpL.nil
noncomputable def z1v : List PT → Option (Bool × AV × List Blk)
  | [.one (.s (.flt .f64 a)), .one (.s (.flt .f64 b))] => some ((zb3 a b), ((AV.v (TV.one (At.bool (zac a b)))), []))
  | _ => none
def zd5 (a : Nat) (b : Nat) : Option (Bool) → Option (AV × List Blk)
  | some r => some ((AV.v (TV.one (At.bool r))), [])
  | none => none
theorem zg0 (a : Nat) (b : Nat) : evFn Γ0 8 8 25 (impTs 0 [.one (.s (.flt .f64 a)), .one (.s (.flt .f64 b))]).1 (impTs 0 [.one (.s (.flt .f64 a)), .one (.s (.flt .f64 b))]).2 (expo (impTs 0 [.one (.s (.flt .f64 a)), .one (.s (.flt .f64 b))]).2.length) = z7d a b (fun c0_ => some ((AV.v (TV.one (At.bool c0_))), [])) := by kernel_rfl
theorem z12 : SumOne Try.prog 25 z1v := sum_of (Γ := Γ0) (fuel := 8) (d := 8) tyTab_ok (FnL.ok fnTab_ok _ _) (LpL.ok lt0_ok) (SumL.ok tb0_ok _) mixed (by
  intro pts v news hp hc
  clear hc
  unfold z1v at hp
  split at hp
  · rename_i a b
    exact Eq.trans (Eq.trans (zg0 a b) (zec (zd5 a b) rfl a b (fun c0_ => some c0_))) (fin_out (o := (zd5 a b)) (x := z7f a b) (d := default) (V := fun r => ((AV.v (TV.one (At.bool r))), [])) (fun r => rfl) hp)
  · cases hp)
noncomputable def z38 : List PT → Option (Bool × AV × List Blk)
  | [.one (.s (.int .i64 n_)), .one (.s (.int .i64 low)), .one (.s (.int .i64 q0t))] => some ((zcb n_ low q0t), ((AV.v (TV.one (At.bool (zc2 n_ low q0t)))), []))
  | _ => none
def zfa (n_ : Int) (low : Int) (q0t : Int) : Option (Bool) → Option (AV × List Blk)
  | some r => some ((AV.v (TV.one (At.bool r))), [])
  | none => none
theorem zh6 (n_ : Int) (low : Int) (q0t : Int) : evFn Γ0 8 8 59 (impTs 0 [.one (.s (.int .i64 n_)), .one (.s (.int .i64 low)), .one (.s (.int .i64 q0t))]).1 (impTs 0 [.one (.s (.int .i64 n_)), .one (.s (.int .i64 low)), .one (.s (.int .i64 q0t))]).2 (expo (impTs 0 [.one (.s (.int .i64 n_)), .one (.s (.int .i64 low)), .one (.s (.int .i64 q0t))]).2.length) = zae n_ low q0t (fun c0_ => some ((AV.v (TV.one (At.bool c0_))), [])) := by kernel_rfl
theorem z2g : SumOne Try.prog 59 z38 := sum_of (Γ := Γ0) (fuel := 8) (d := 8) tyTab_ok (FnL.ok fnTab_ok _ _) (LpL.ok lt0_ok) (SumL.ok tb0_ok _) mixed (by
  intro pts v news hp hc
  clear hc
  unfold z38 at hp
  split at hp
  · rename_i n_ low q0t
    exact Eq.trans (Eq.trans (zh6 n_ low q0t) (zg8 (zfa n_ low q0t) rfl n_ low q0t (fun c0_ => some c0_))) (fin_out (o := (zfa n_ low q0t)) (x := zan n_ low q0t) (d := default) (V := fun r => ((AV.v (TV.one (At.bool r))), [])) (fun r => rfl) hp)
  · cases hp)
noncomputable def z1u : List PT → Option (Bool × AV × List Blk)
  | [.one (.s (.flt .f32 x))] => some ((z65 x), ((AV.v (TV.one (At.bool (z5y x)))), []))
  | _ => none
def zcy (x : Nat) : Option (Bool) → Option (AV × List Blk)
  | some r => some ((AV.v (TV.one (At.bool r))), [])
  | none => none
theorem zg4 (x : Nat) : evFn Γ0 8 8 64 (impTs 0 [.one (.s (.flt .f32 x))]).1 (impTs 0 [.one (.s (.flt .f32 x))]).2 (expo (impTs 0 [.one (.s (.flt .f32 x))]).2.length) = z8y x (fun c0_ => some ((AV.v (TV.one (At.bool c0_))), [])) := by kernel_rfl
theorem z13 : SumOne Try.prog 64 z1u := sum_of (Γ := Γ0) (fuel := 8) (d := 8) tyTab_ok (FnL.ok fnTab_ok _ _) (LpL.ok lt0_ok) (SumL.ok tb0_ok _) mixed (by
  intro pts v news hp hc
  clear hc
  unfold z1u at hp
  split at hp
  · rename_i x
    exact Eq.trans (Eq.trans (zg4 x) (zeb (zcy x) rfl x (fun c0_ => some c0_))) (fin_out (o := (zcy x)) (x := z8z x) (d := default) (V := fun r => ((AV.v (TV.one (At.bool r))), [])) (fun r => rfl) hp)
  · cases hp)
noncomputable def z2r : List PT → Option (Bool × AV × List Blk)
  | [.one (.s (.int .i64 n_)), .one (.s (.int .i64 low)), .one (.s (.int .i64 q0t))] => some ((zc0 n_ low q0t), ((AV.v (TV.one (At.bool (zbq n_ low q0t)))), []))
  | _ => none
def zeo (n_ : Int) (low : Int) (q0t : Int) : Option (Bool) → Option (AV × List Blk)
  | some r => some ((AV.v (TV.one (At.bool r))), [])
  | none => none
theorem zgz (n_ : Int) (low : Int) (q0t : Int) : evFn Γ0 8 8 66 (impTs 0 [.one (.s (.int .i64 n_)), .one (.s (.int .i64 low)), .one (.s (.int .i64 q0t))]).1 (impTs 0 [.one (.s (.int .i64 n_)), .one (.s (.int .i64 low)), .one (.s (.int .i64 q0t))]).2 (expo (impTs 0 [.one (.s (.int .i64 n_)), .one (.s (.int .i64 low)), .one (.s (.int .i64 q0t))]).2.length) = z9g n_ low q0t (fun c0_ => some ((AV.v (TV.one (At.bool c0_))), [])) := by kernel_rfl
theorem z21 : SumOne Try.prog 66 z2r := sum_of (Γ := Γ0) (fuel := 8) (d := 8) tyTab_ok (FnL.ok fnTab_ok _ _) (LpL.ok lt0_ok) (SumL.ok tb0_ok _) mixed (by
  intro pts v news hp hc
  clear hc
  unfold z2r at hp
  split at hp
  · rename_i n_ low q0t
    exact Eq.trans (Eq.trans (zgz n_ low q0t) (zfs (zeo n_ low q0t) rfl n_ low q0t (fun c0_ => some c0_))) (fin_out (o := (zeo n_ low q0t)) (x := z9f n_ low q0t) (d := default) (V := fun r => ((AV.v (TV.one (At.bool r))), [])) (fun r => rfl) hp)
  · cases hp)
noncomputable def z24 : List PT → Option (Bool × AV × List Blk)
  | [.one (.s (.flt .f32 x)), .one (.s (.flt .f32 low)), .one (.s (.flt .f32 q0t))] => some ((zbj x low q0t), ((AV.v (TV.one (At.bool (zb1 x low q0t)))), []))
  | _ => none
def zdk (x : Nat) (low : Nat) (q0t : Nat) : Option (Bool) → Option (AV × List Blk)
  | some r => some ((AV.v (TV.one (At.bool r))), [])
  | none => none
theorem zgh (x : Nat) (low : Nat) (q0t : Nat) : evFn Γ0 8 8 68 (impTs 0 [.one (.s (.flt .f32 x)), .one (.s (.flt .f32 low)), .one (.s (.flt .f32 q0t))]).1 (impTs 0 [.one (.s (.flt .f32 x)), .one (.s (.flt .f32 low)), .one (.s (.flt .f32 q0t))]).2 (expo (impTs 0 [.one (.s (.flt .f32 x)), .one (.s (.flt .f32 low)), .one (.s (.flt .f32 q0t))]).2.length) = z81 x low q0t (fun c0_ => some ((AV.v (TV.one (At.bool c0_))), [])) := by kernel_rfl
theorem z1e : SumOne Try.prog 68 z24 := sum_of (Γ := Γ0) (fuel := 8) (d := 8) tyTab_ok (FnL.ok fnTab_ok _ _) (LpL.ok lt0_ok) (SumL.ok tb0_ok _) mixed (by
  intro pts v news hp hc
  clear hc
  unfold z24 at hp
  split at hp
  · rename_i x low q0t
    exact Eq.trans (Eq.trans (zgh x low q0t) (zes (zdk x low q0t) rfl x low q0t (fun c0_ => some c0_))) (fin_out (o := (zdk x low q0t)) (x := z84 x low q0t) (d := default) (V := fun r => ((AV.v (TV.one (At.bool r))), [])) (fun r => rfl) hp)
  · cases hp)
noncomputable def z25 : List PT → Option (Bool × AV × List Blk)
  | [.one (.s (.flt .f32 x))] => some ((z86 x), ((AV.v (TV.one (At.bool (z7q x)))), []))
  | _ => none
def zdj (x : Nat) : Option (Bool) → Option (AV × List Blk)
  | some r => some ((AV.v (TV.one (At.bool r))), [])
  | none => none
theorem zgj (x : Nat) : evFn Γ0 8 8 78 (impTs 0 [.one (.s (.flt .f32 x))]).1 (impTs 0 [.one (.s (.flt .f32 x))]).2 (expo (impTs 0 [.one (.s (.flt .f32 x))]).2.length) = z9o x (fun c0_ => some ((AV.v (TV.one (At.bool c0_))), [])) := by kernel_rfl
theorem z1f : SumOne Try.prog 78 z25 := sum_of (Γ := Γ0) (fuel := 8) (d := 8) tyTab_ok (FnL.ok fnTab_ok _ _) (LpL.ok lt0_ok) (SumL.ok tb0_ok _) mixed (by
  intro pts v news hp hc
  clear hc
  unfold z25 at hp
  split at hp
  · rename_i x
    exact Eq.trans (Eq.trans (zgj x) (zew (zdj x) rfl x (fun c0_ => some c0_))) (fin_out (o := (zdj x)) (x := z9i x) (d := default) (V := fun r => ((AV.v (TV.one (At.bool r))), [])) (fun r => rfl) hp)
  · cases hp)
noncomputable def z2s : List PT → Option (Bool × AV × List Blk)
  | [] => some (zc1, ((AV.v (TV.agg [(At.sl 0 0 0 1), (At.sl 1 0 0 1), (At.sl 2 0 0 1)])), [(Blk.mk Bool.true (Body.fl FloatKind.f32 z5v)), (Blk.mk Bool.true (Body.fl FloatKind.f32 z5x)), (Blk.mk Bool.true (Body.fl FloatKind.f32 z5w))]))
  | _ => none
def zeq  : Option ((List Nat) × (List Nat) × (List Nat)) → Option (AV × List Blk)
  | some r => some ((AV.v (TV.agg [(At.sl 0 0 0 1), (At.sl 1 0 0 1), (At.sl 2 0 0 1)])), [(Blk.mk Bool.true (Body.fl FloatKind.f32 r.1)), (Blk.mk Bool.true (Body.fl FloatKind.f32 r.2.1)), (Blk.mk Bool.true (Body.fl FloatKind.f32 r.2.2))])
  | none => none
theorem zh3  : evFn Γ0 8 8 91 (impTs 0 []).1 (impTs 0 []).2 (expo (impTs 0 []).2.length) = zb9 (fun c0_ c1_ c2_ => some ((AV.v (TV.agg [(At.sl 0 0 0 1), (At.sl 1 0 0 1), (At.sl 2 0 0 1)])), [(Blk.mk Bool.true (Body.fl FloatKind.f32 c0_)), (Blk.mk Bool.true (Body.fl FloatKind.f32 c1_)), (Blk.mk Bool.true (Body.fl FloatKind.f32 c2_))])) := by kernel_rfl
theorem z22 : SumOne Try.prog 91 z2s := sum_of (Γ := Γ0) (fuel := 8) (d := 8) tyTab_ok (FnL.ok fnTab_ok _ _) (LpL.ok lt0_ok) (SumL.ok tb0_ok _) mixed (by
  intro pts v news hp hc
  clear hc
  unfold z2s at hp
  split at hp
  · exact Eq.trans (Eq.trans (zh3) (zfp zeq rfl  (fun c0_ c1_ c2_ => some (c0_, c1_, c2_)))) (fin_out (o := zeq) (x := z8e) (d := default) (V := fun r => ((AV.v (TV.agg [(At.sl 0 0 0 1), (At.sl 1 0 0 1), (At.sl 2 0 0 1)])), [(Blk.mk Bool.true (Body.fl FloatKind.f32 r.1)), (Blk.mk Bool.true (Body.fl FloatKind.f32 r.2.1)), (Blk.mk Bool.true (Body.fl FloatKind.f32 r.2.2))])) (fun r => rfl) hp)
  · cases hp)
noncomputable def z3k : List PT → Option (Bool × AV × List Blk)
  | [] => some (zca, ((AV.v (TV.one (At.flt FloatKind.f64 zbd))), []))
  | _ => none
def zgc  : Option (Nat) → Option (AV × List Blk)
  | some r => some ((AV.v (TV.one (At.flt FloatKind.f64 r))), [])
  | none => none
theorem zhc  : evFn Γ0 8 8 122 (impTs 0 []).1 (impTs 0 []).2 (expo (impTs 0 []).2.length) = zbw (fun c0_ => some ((AV.v (TV.one (At.flt FloatKind.f64 c0_))), [])) := by kernel_rfl
theorem z33 : SumOne Try.prog 122 z3k := sum_of (Γ := Γ0) (fuel := 8) (d := 8) tyTab_ok (FnL.ok fnTab_ok _ _) (LpL.ok lt0_ok) (SumL.ok tb0_ok _) mixed (by
  intro pts v news hp hc
  clear hc
  unfold z3k at hp
  split at hp
  · exact Eq.trans (Eq.trans (zhc) (zgy zgc rfl  (fun c0_ => some c0_))) (fin_out (o := zgc) (x := zbt) (d := default) (V := fun r => ((AV.v (TV.one (At.flt FloatKind.f64 r))), [])) (fun r => rfl) hp)
  · cases hp)
noncomputable def z1t : List PT → Option (Bool × AV × List Blk)
  | [.one (.s (.flt .f64 x))] => some ((zb7 x), ((AV.v (TV.one (At.flt FloatKind.f32 (zab x)))), []))
  | _ => none
def zd0 (x : Nat) : Option (Nat) → Option (AV × List Blk)
  | some r => some ((AV.v (TV.one (At.flt FloatKind.f32 r))), [])
  | none => none
theorem zfx (x : Nat) : evFn Γ0 8 8 131 (impTs 0 [.one (.s (.flt .f64 x))]).1 (impTs 0 [.one (.s (.flt .f64 x))]).2 (expo (impTs 0 [.one (.s (.flt .f64 x))]).2.length) = z7o x (fun c0_ => some ((AV.v (TV.one (At.flt FloatKind.f32 c0_))), [])) := by kernel_rfl
theorem z15 : SumOne Try.prog 131 z1t := sum_of (Γ := Γ0) (fuel := 8) (d := 8) tyTab_ok (FnL.ok fnTab_ok _ _) (LpL.ok lt0_ok) (SumL.ok tb0_ok _) mixed (by
  intro pts v news hp hc
  clear hc
  unfold z1t at hp
  split at hp
  · rename_i x
    exact Eq.trans (Eq.trans (zfx x) (zed (zd0 x) rfl x (fun c0_ => some c0_))) (fin_out (o := (zd0 x)) (x := z7p x) (d := default) (V := fun r => ((AV.v (TV.one (At.flt FloatKind.f32 r))), [])) (fun r => rfl) hp)
  · cases hp)
noncomputable def z3j : List PT → Option (Bool × AV × List Blk)
  | [.one (.s (.flt .f64 x))] => some ((zcx x), ((AV.v (TV.one (At.flt FloatKind.f64 (zch x)))), []))
  | _ => none
def zgd (x : Nat) : Option (Nat) → Option (AV × List Blk)
  | some r => some ((AV.v (TV.one (At.flt FloatKind.f64 r))), [])
  | none => none
theorem zhb (x : Nat) : evFn Γ0 8 8 134 (impTs 0 [.one (.s (.flt .f64 x))]).1 (impTs 0 [.one (.s (.flt .f64 x))]).2 (expo (impTs 0 [.one (.s (.flt .f64 x))]).2.length) = zbs x (fun c0_ => some ((AV.v (TV.one (At.flt FloatKind.f64 c0_))), [])) := by kernel_rfl
theorem z34 : SumOne Try.prog 134 z3j := sum_of (Γ := Γ0) (fuel := 8) (d := 8) tyTab_ok (FnL.ok fnTab_ok _ _) (LpL.ok lt0_ok) (SumL.ok tb0_ok _) mixed (by
  intro pts v news hp hc
  clear hc
  unfold z3j at hp
  split at hp
  · rename_i x
    exact Eq.trans (Eq.trans (zhb x) (zgq (zgd x) rfl x (fun c0_ => some c0_))) (fin_out (o := (zgd x)) (x := zbr x) (d := default) (V := fun r => ((AV.v (TV.one (At.flt FloatKind.f64 r))), [])) (fun r => rfl) hp)
  · cases hp)
noncomputable def tb1 : List (Nat × (List PT → Option (Bool × AV × List Blk))) := [(129, z0z), (133, z0j), (137, z0y), (139, z1p), (25, z1v), (59, z38), (64, z1u), (66, z2r), (68, z24), (78, z25), (91, z2s), (122, z3k), (131, z1t), (134, z3j)]
noncomputable def lt1 : List ((Nat × Nat) × (Nat → St → Option (Bool × LO))) := []
noncomputable def Γ1 : Ctx := ⟨tyTab, fnTab, tblSum tb1, tblLp lt1⟩
theorem tb1_ok : SumL Try.prog tb1 := SumL.cons z0s (SumL.cons z0f (SumL.cons z0r (SumL.cons z0x (SumL.cons z12 (SumL.cons z2g (SumL.cons z13 (SumL.cons z21 (SumL.cons z1e (SumL.cons z1f (SumL.cons z22 (SumL.cons z33 (SumL.cons z15 (SumL.cons z34 (SumL.nil))))))))))))))
theorem lt1_ok : LpL Try.prog fnTab lt1 := LpL.nil
noncomputable def z2a : List PT → Option (Bool × AV × List Blk)
  | [.one (.s (.flt .f32 x))] => some ((z6x x), ((AV.v (TV.one (At.bool (z6k x)))), []))
  | _ => none
def zdi (x : Nat) : Option (Bool) → Option (AV × List Blk)
  | some r => some ((AV.v (TV.one (At.bool r))), [])
  | none => none
theorem zgi (x : Nat) : evFn Γ1 8 8 58 (impTs 0 [.one (.s (.flt .f32 x))]).1 (impTs 0 [.one (.s (.flt .f32 x))]).2 (expo (impTs 0 [.one (.s (.flt .f32 x))]).2.length) = z8a x (fun c0_ => some ((AV.v (TV.one (At.bool c0_))), [])) := by kernel_rfl
theorem z1l : SumOne Try.prog 58 z2a := sum_of (Γ := Γ1) (fuel := 8) (d := 8) tyTab_ok (FnL.ok fnTab_ok _ _) (LpL.ok lt1_ok) (SumL.ok tb1_ok _) mixed (by
  intro pts v news hp hc
  clear hc
  unfold z2a at hp
  split at hp
  · rename_i x
    exact Eq.trans (Eq.trans (zgi x) (zf2 (zdi x) rfl x (fun c0_ => some c0_))) (fin_out (o := (zdi x)) (x := z7x x) (d := default) (V := fun r => ((AV.v (TV.one (At.bool r))), [])) (fun r => rfl) hp)
  · cases hp)
noncomputable def z2o : List PT → Option (Bool × AV × List Blk)
  | [.one (.s (.flt .f32 x))] => some ((zbu x), ((AV.v (TV.one (At.bool (zbg x)))), []))
  | _ => none
def ze6 (x : Nat) : Option (Bool) → Option (AV × List Blk)
  | some r => some ((AV.v (TV.one (At.bool r))), [])
  | none => none
theorem zgt (x : Nat) : evFn Γ1 8 8 67 (impTs 0 [.one (.s (.flt .f32 x))]).1 (impTs 0 [.one (.s (.flt .f32 x))]).2 (expo (impTs 0 [.one (.s (.flt .f32 x))]).2.length) = z8v x (fun c0_ => some ((AV.v (TV.one (At.bool c0_))), [])) := by kernel_rfl
theorem z1x : SumOne Try.prog 67 z2o := sum_of (Γ := Γ1) (fuel := 8) (d := 8) tyTab_ok (FnL.ok fnTab_ok _ _) (LpL.ok lt1_ok) (SumL.ok tb1_ok _) mixed (by
  intro pts v news hp hc
  clear hc
  unfold z2o at hp
  split at hp
  · rename_i x
    exact Eq.trans (Eq.trans (zgt x) (zf5 (ze6 x) rfl x (fun c0_ => some c0_))) (fin_out (o := (ze6 x)) (x := z8w x) (d := default) (V := fun r => ((AV.v (TV.one (At.bool r))), [])) (fun r => rfl) hp)
  · cases hp)
noncomputable def z19 : List PT → Option (Bool × AV × List Blk)
  | [.one (.s (.flt .f32 x))] => some ((z9q x), ((AV.v (TV.one (At.bool (z93 x)))), []))
  | _ => none
def zcj (x : Nat) : Option (Bool) → Option (AV × List Blk)
  | some r => some ((AV.v (TV.one (At.bool r))), [])
  | none => none
theorem zf6 (x : Nat) : evFn Γ1 8 8 111 (impTs 0 [.one (.s (.flt .f32 x))]).1 (impTs 0 [.one (.s (.flt .f32 x))]).2 (expo (impTs 0 [.one (.s (.flt .f32 x))]).2.length) = z6r x (fun c0_ => some ((AV.v (TV.one (At.bool c0_))), [])) := by kernel_rfl
theorem z0v : SumOne Try.prog 111 z19 := sum_of (Γ := Γ1) (fuel := 8) (d := 8) tyTab_ok (FnL.ok fnTab_ok _ _) (LpL.ok lt1_ok) (SumL.ok tb1_ok _) mixed (by
  intro pts v news hp hc
  clear hc
  unfold z19 at hp
  split at hp
  · rename_i x
    exact Eq.trans (Eq.trans (zf6 x) (ze1 (zcj x) rfl x (fun c0_ => some c0_))) (fin_out (o := (zcj x)) (x := z6o x) (d := default) (V := fun r => ((AV.v (TV.one (At.bool r))), [])) (fun r => rfl) hp)
  · cases hp)
noncomputable def z2y : List PT → Option (Bool × AV × List Blk)
  | [.one (.s (.flt .f64 x))] => some ((zc4 x), ((AV.v (TV.one (At.bool (zbv x)))), []))
  | _ => none
def zep (x : Nat) : Option (Bool) → Option (AV × List Blk)
  | some r => some ((AV.v (TV.one (At.bool r))), [])
  | none => none
theorem zh0 (x : Nat) : evFn Γ1 8 8 123 (impTs 0 [.one (.s (.flt .f64 x))]).1 (impTs 0 [.one (.s (.flt .f64 x))]).2 (expo (impTs 0 [.one (.s (.flt .f64 x))]).2.length) = z9e x (fun c0_ => some ((AV.v (TV.one (At.bool c0_))), [])) := by kernel_rfl
theorem z29 : SumOne Try.prog 123 z2y := sum_of (Γ := Γ1) (fuel := 8) (d := 8) tyTab_ok (FnL.ok fnTab_ok _ _) (LpL.ok lt1_ok) (SumL.ok tb1_ok _) mixed (by
  intro pts v news hp hc
  clear hc
  unfold z2y at hp
  split at hp
  · rename_i x
    exact Eq.trans (Eq.trans (zh0 x) (zfm (zep x) rfl x (fun c0_ => some c0_))) (fin_out (o := (zep x)) (x := z9d x) (d := default) (V := fun r => ((AV.v (TV.one (At.bool r))), [])) (fun r => rfl) hp)
  · cases hp)
noncomputable def z0n : Nat → St → Option (Bool × LO)
  | 1, (St.mk [(0, (AV.v (TV.one (At.vw 0 0 an 1)))), (1, (AV.v (TV.one (At.int IntKind.i64 k)))), (5, (AV.v (TV.one (At.int IntKind.i64 i))))] [(Blk.mk Bool.false (Body.fl FloatKind.f32 b0))]) => some ((z7s an b0 k i), (LO.two (z77 an b0 k i) (LO.one Ex.ret (St.mk [(4, (AV.v (TV.one (At.int IntKind.i64 (Int.negSucc 0)))))] [(Blk.mk Bool.false (Body.fl FloatKind.f32 b0))])) (LO.one (Ex.exit 0) (St.mk [(0, (AV.v (TV.one (At.vw 0 0 an 1)))), (1, (AV.v (TV.one (At.int IntKind.i64 (z6t an b0 k i))))), (5, (AV.v (TV.one (At.int IntKind.i64 (z8k an b0 k i))))), (9, (AV.v (TV.one (At.bool (z8h an b0 k i)))))] [(Blk.mk Bool.false (Body.fl FloatKind.f32 b0))]))))
  | _, _ => none
def z6j (an : Nat) (b0 : List Nat) : Option ((Unit) ⊕ (Int × Int × Bool)) → Option (Ex × St)
  | none => none
  | some (Sum.inl r) => some (Ex.ret, (St.mk [(4, (AV.v (TV.one (At.int IntKind.i64 (Int.negSucc 0)))))] [(Blk.mk Bool.false (Body.fl FloatKind.f32 b0))]))
  | some (Sum.inr r) => some ((Ex.exit 0), (St.mk [(0, (AV.v (TV.one (At.vw 0 0 an 1)))), (1, (AV.v (TV.one (At.int IntKind.i64 r.1)))), (5, (AV.v (TV.one (At.int IntKind.i64 r.2.1)))), (9, (AV.v (TV.one (At.bool r.2.2))))] [(Blk.mk Bool.false (Body.fl FloatKind.f32 b0))]))
def zda (an : Nat) (b0 : List Nat) (x : Option ((Unit) ⊕ (Int × Int × Bool))) : LO := (LO.two (oL x) (LO.one Ex.ret (St.mk [(4, (AV.v (TV.one (At.int IntKind.i64 (Int.negSucc 0)))))] [(Blk.mk Bool.false (Body.fl FloatKind.f32 b0))])) (LO.one (Ex.exit 0) (St.mk [(0, (AV.v (TV.one (At.vw 0 0 an 1)))), (1, (AV.v (TV.one (At.int IntKind.i64 ((tR x).getD default).1)))), (5, (AV.v (TV.one (At.int IntKind.i64 ((tR x).getD default).2.1)))), (9, (AV.v (TV.one (At.bool ((tR x).getD default).2.2))))] [(Blk.mk Bool.false (Body.fl FloatKind.f32 b0))])))
theorem zdy (an : Nat) (b0 : List Nat) : ∀ x : Option ((Unit) ⊕ (Int × Int × Bool)), x.isSome = true → (z6j an b0) x = some (pick (zda an b0 x))
  | none, h => by cases h
  | some (Sum.inl r), _ => rfl
  | some (Sum.inr r), _ => rfl
theorem zdo (an : Nat) (k : Int) (i : Int) (b0 : List Nat) (K : Ex → St → Option (Ex × St)) : evC (R := Ex × St) Γ1 (evFn Γ1 8 8) 20 1 fi20.nt fi20.live fi20.nl 8 (findL 2 (loopsIn fi20.code)) (St.mk [(0, (AV.v (TV.one (At.vw 0 0 an 1)))), (1, (AV.v (TV.one (At.int IntKind.i64 k)))), (5, (AV.v (TV.one (At.int IntKind.i64 i))))] [(Blk.mk Bool.false (Body.fl FloatKind.f32 b0))]) K = z4s an b0 k i (fun k' i' => K .normal (St.mk [(0, (AV.v (TV.one (At.vw 0 0 an 1)))), (1, (AV.v (TV.one (At.int IntKind.i64 k')))), (5, (AV.v (TV.one (At.int IntKind.i64 i'))))] [(Blk.mk Bool.false (Body.fl FloatKind.f32 b0))])) (fun _ => K Ex.ret (St.mk [(4, (AV.v (TV.one (At.int IntKind.i64 (Int.negSucc 0)))))] [(Blk.mk Bool.false (Body.fl FloatKind.f32 b0))])) (fun c0_ c1_ c2_ => K (Ex.exit 0) (St.mk [(0, (AV.v (TV.one (At.vw 0 0 an 1)))), (1, (AV.v (TV.one (At.int IntKind.i64 c0_)))), (5, (AV.v (TV.one (At.int IntKind.i64 c1_)))), (9, (AV.v (TV.one (At.bool c2_))))] [(Blk.mk Bool.false (Body.fl FloatKind.f32 b0))])) := by kernel_rfl
theorem zds (an : Nat) (b0 : List Nat) : ∀ (n : Nat) (k : Int) (i : Int), iter 20 2 1 (evC (R := Ex × St) Γ1 (evFn Γ1 8 8) 20 1 fi20.nt fi20.live fi20.nl 8 (findL 2 (loopsIn fi20.code))) n (St.mk [(0, (AV.v (TV.one (At.vw 0 0 an 1)))), (1, (AV.v (TV.one (At.int IntKind.i64 k)))), (5, (AV.v (TV.one (At.int IntKind.i64 i))))] [(Blk.mk Bool.false (Body.fl FloatKind.f32 b0))]) (fun e st => some (e, st)) = (z6j an b0) (z3i an b0 n k i) := by
  intro n
  induction n with
  | zero => intros; rfl
  | succ n ih =>
    intro k i
    refine Eq.trans (iter_succ ..) (Eq.trans (zdo an k i b0 (nextK 20 2 1 (evC (R := Ex × St) Γ1 (evFn Γ1 8 8) 20 1 fi20.nt fi20.live fi20.nl 8 (findL 2 (loopsIn fi20.code))) n (fun e st => some (e, st)))) (Eq.trans ?_ (zcr (z6j an b0) rfl an b0 k i (fun k' i' => z3i an b0 n k' i') (fun _ => some (Sum.inl ())) (fun c0_ c1_ c2_ => some (Sum.inr (c0_, c1_, c2_))))))
    exact congrArg (fun kn_ => z4s an b0 k i kn_ (fun _ => (z6j an b0) (some (Sum.inl ()))) (fun c0_ c1_ c2_ => (z6j an b0) (some (Sum.inr (c0_, c1_, c2_))))) (funext fun k' => funext fun i' => ih k' i')
theorem z0i : LoopOne Try.prog fnTab 20 2 z0n := lp_of (Γ := Γ1) tyTab_ok (FnL.ok fnTab_ok _ _) (LpL.ok lt1_ok) (SumL.ok tb1_ok _) mixed (fi := fi20) (by kernel_rfl) (by kernel_rfl) (by
  intro lo st out hp
  unfold z0n at hp
  split at hp
  · rename_i an k i b0
    injection hp with hp
    injection hp with h1 h2
    subst h2
    exact ⟨8, 8, big, Eq.trans (zds an b0 big k i) (zdy an b0 (z3i an b0 big k i) h1)⟩
  · cases hp)
noncomputable def tb2 : List (Nat × (List PT → Option (Bool × AV × List Blk))) := [(129, z0z), (133, z0j), (137, z0y), (139, z1p), (25, z1v), (59, z38), (64, z1u), (66, z2r), (68, z24), (78, z25), (91, z2s), (122, z3k), (131, z1t), (134, z3j), (58, z2a), (67, z2o), (111, z19), (123, z2y)]
noncomputable def lt2 : List ((Nat × Nat) × (Nat → St → Option (Bool × LO))) := [((20, 2), z0n)]
noncomputable def Γ2 : Ctx := ⟨tyTab, fnTab, tblSum tb2, tblLp lt2⟩
theorem tb2_ok : SumL Try.prog tb2 := SumL.cons z0s (SumL.cons z0f (SumL.cons z0r (SumL.cons z0x (SumL.cons z12 (SumL.cons z2g (SumL.cons z13 (SumL.cons z21 (SumL.cons z1e (SumL.cons z1f (SumL.cons z22 (SumL.cons z33 (SumL.cons z15 (SumL.cons z34 (SumL.cons z1l (SumL.cons z1x (SumL.cons z0v (SumL.cons z29 (SumL.nil))))))))))))))))))
theorem lt2_ok : LpL Try.prog fnTab lt2 := LpL.cons z0i (LpL.nil)
noncomputable def z14 : List PT → Option (Bool × AV × List Blk)
  | [.one (.row 1 a_n (.fl .f32 a)), .one (.s (.int .i64 k))] => some ((z6g a_n a k), ((AV.v (TV.one (At.int IntKind.i64 (z3r a_n a k)))), []))
  | _ => none
def zcc (a_n : Nat) (a : List Nat) (k : Int) : Option (Int) → Option (AV × List Blk)
  | some r => some ((AV.v (TV.one (At.int IntKind.i64 r))), [])
  | none => none
theorem zey (a_n : Nat) (a : List Nat) (k : Int) : evFn Γ2 8 8 20 (impTs 0 [.one (.row 1 a_n (.fl .f32 a)), .one (.s (.int .i64 k))]).1 (impTs 0 [.one (.row 1 a_n (.fl .f32 a)), .one (.s (.int .i64 k))]).2 (expo (impTs 0 [.one (.row 1 a_n (.fl .f32 a)), .one (.s (.int .i64 k))]).2.length) = z6f a_n a k (fun c0_ => some ((AV.v (TV.one (At.int IntKind.i64 c0_))), [])) := by kernel_rfl
theorem z0t : SumOne Try.prog 20 z14 := sum_of (Γ := Γ2) (fuel := 8) (d := 8) tyTab_ok (FnL.ok fnTab_ok _ _) (LpL.ok lt2_ok) (SumL.ok tb2_ok _) mixed (by
  intro pts v news hp hc
  clear hc
  unfold z14 at hp
  split at hp
  · rename_i a_n a k
    exact Eq.trans (Eq.trans (zey a_n a k) (zdh (zcc a_n a k) rfl a_n a k (fun c0_ => some c0_))) (fin_out (o := (zcc a_n a k)) (x := z6h a_n a k) (d := default) (V := fun r => ((AV.v (TV.one (At.int IntKind.i64 r))), [])) (fun r => rfl) hp)
  · cases hp)
noncomputable def z1r : List PT → Option (Bool × AV × List Blk)
  | [.one (.s (.flt .f32 x))] => some ((zad x), ((AV.v (TV.one (At.bool (z9t x)))), []))
  | _ => none
def zct (x : Nat) : Option (Bool) → Option (AV × List Blk)
  | some r => some ((AV.v (TV.one (At.bool r))), [])
  | none => none
theorem zfu (x : Nat) : evFn Γ2 8 8 126 (impTs 0 [.one (.s (.flt .f32 x))]).1 (impTs 0 [.one (.s (.flt .f32 x))]).2 (expo (impTs 0 [.one (.s (.flt .f32 x))]).2.length) = z75 x (fun c0_ => some ((AV.v (TV.one (At.bool c0_))), [])) := by kernel_rfl
theorem z16 : SumOne Try.prog 126 z1r := sum_of (Γ := Γ2) (fuel := 8) (d := 8) tyTab_ok (FnL.ok fnTab_ok _ _) (LpL.ok lt2_ok) (SumL.ok tb2_ok _) mixed (by
  intro pts v news hp hc
  clear hc
  unfold z1r at hp
  split at hp
  · rename_i x
    exact Eq.trans (Eq.trans (zfu x) (ze5 (zct x) rfl x (fun c0_ => some c0_))) (fin_out (o := (zct x)) (x := z74 x) (d := default) (V := fun r => ((AV.v (TV.one (At.bool r))), [])) (fun r => rfl) hp)
  · cases hp)
noncomputable def z3d : List PT → Option (Bool × AV × List Blk)
  | [.one (.s (.flt .f64 x))] => some ((zc6 x), ((AV.v (TV.one (At.flt FloatKind.f64 (z8d x)))), []))
  | _ => none
def zfh (x : Nat) : Option (Nat) → Option (AV × List Blk)
  | some r => some ((AV.v (TV.one (At.flt FloatKind.f64 r))), [])
  | none => none
theorem zh7 (x : Nat) : evFn Γ2 8 8 138 (impTs 0 [.one (.s (.flt .f64 x))]).1 (impTs 0 [.one (.s (.flt .f64 x))]).2 (expo (impTs 0 [.one (.s (.flt .f64 x))]).2.length) = zao x (fun c0_ => some ((AV.v (TV.one (At.flt FloatKind.f64 c0_))), [])) := by kernel_rfl
theorem z2p : SumOne Try.prog 138 z3d := sum_of (Γ := Γ2) (fuel := 8) (d := 8) tyTab_ok (FnL.ok fnTab_ok _ _) (LpL.ok lt2_ok) (SumL.ok tb2_ok _) mixed (by
  intro pts v news hp hc
  clear hc
  unfold z3d at hp
  split at hp
  · rename_i x
    exact Eq.trans (Eq.trans (zh7 x) (zg6 (zfh x) rfl x (fun c0_ => some c0_))) (fin_out (o := (zfh x)) (x := zas x) (d := default) (V := fun r => ((AV.v (TV.one (At.flt FloatKind.f64 r))), [])) (fun r => rfl) hp)
  · cases hp)
noncomputable def z0w : Nat → St → Option (Bool × LO)
  | 2, (St.mk [(0, (AV.v (TV.one (At.vw 0 0 an 1)))), (1, (AV.v (TV.one (At.vw 1 0 bn 1)))), (5, (AV.v (TV.one (At.int IntKind.i64 i))))] [(Blk.mk Bool.false (Body.fl FloatKind.f32 b0)), (Blk.mk Bool.false (Body.fl FloatKind.f32 b1))]) => some ((z8g an bn b0 b1 i), (LO.two (z8b an bn b0 b1 i) (LO.one Ex.ret (St.mk [(4, (AV.v (TV.one (At.bool Bool.false))))] [(Blk.mk Bool.false (Body.fl FloatKind.f32 b0)), (Blk.mk Bool.false (Body.fl FloatKind.f32 b1))])) (LO.one (Ex.exit 0) (St.mk [(0, (AV.v (TV.one (At.vw 0 0 an 1)))), (1, (AV.v (TV.one (At.vw 1 0 bn 1)))), (5, (AV.v (TV.one (At.int IntKind.i64 (z9a an bn b0 b1 i))))), (14, (AV.v (TV.one (At.bool (z9b an bn b0 b1 i)))))] [(Blk.mk Bool.false (Body.fl FloatKind.f32 b0)), (Blk.mk Bool.false (Body.fl FloatKind.f32 b1))]))))
  | _, _ => none
def z6w (an : Nat) (bn : Nat) (b0 : List Nat) (b1 : List Nat) : Option ((Unit) ⊕ (Int × Bool)) → Option (Ex × St)
  | none => none
  | some (Sum.inl r) => some (Ex.ret, (St.mk [(4, (AV.v (TV.one (At.bool Bool.false))))] [(Blk.mk Bool.false (Body.fl FloatKind.f32 b0)), (Blk.mk Bool.false (Body.fl FloatKind.f32 b1))]))
  | some (Sum.inr r) => some ((Ex.exit 0), (St.mk [(0, (AV.v (TV.one (At.vw 0 0 an 1)))), (1, (AV.v (TV.one (At.vw 1 0 bn 1)))), (5, (AV.v (TV.one (At.int IntKind.i64 r.1)))), (14, (AV.v (TV.one (At.bool r.2))))] [(Blk.mk Bool.false (Body.fl FloatKind.f32 b0)), (Blk.mk Bool.false (Body.fl FloatKind.f32 b1))]))
def ze8 (an : Nat) (bn : Nat) (b0 : List Nat) (b1 : List Nat) (x : Option ((Unit) ⊕ (Int × Bool))) : LO := (LO.two (oL x) (LO.one Ex.ret (St.mk [(4, (AV.v (TV.one (At.bool Bool.false))))] [(Blk.mk Bool.false (Body.fl FloatKind.f32 b0)), (Blk.mk Bool.false (Body.fl FloatKind.f32 b1))])) (LO.one (Ex.exit 0) (St.mk [(0, (AV.v (TV.one (At.vw 0 0 an 1)))), (1, (AV.v (TV.one (At.vw 1 0 bn 1)))), (5, (AV.v (TV.one (At.int IntKind.i64 ((tR x).getD default).1)))), (14, (AV.v (TV.one (At.bool ((tR x).getD default).2))))] [(Blk.mk Bool.false (Body.fl FloatKind.f32 b0)), (Blk.mk Bool.false (Body.fl FloatKind.f32 b1))])))
theorem zeg (an : Nat) (bn : Nat) (b0 : List Nat) (b1 : List Nat) : ∀ x : Option ((Unit) ⊕ (Int × Bool)), x.isSome = true → (z6w an bn b0 b1) x = some (pick (ze8 an bn b0 b1 x))
  | none, h => by cases h
  | some (Sum.inl r), _ => rfl
  | some (Sum.inr r), _ => rfl
theorem zej (an : Nat) (bn : Nat) (i : Int) (b0 : List Nat) (b1 : List Nat) (K : Ex → St → Option (Ex × St)) : evC (R := Ex × St) Γ2 (evFn Γ2 8 8) 18 2 fi18.nt fi18.live fi18.nl 8 (findL 4 (loopsIn fi18.code)) (St.mk [(0, (AV.v (TV.one (At.vw 0 0 an 1)))), (1, (AV.v (TV.one (At.vw 1 0 bn 1)))), (5, (AV.v (TV.one (At.int IntKind.i64 i))))] [(Blk.mk Bool.false (Body.fl FloatKind.f32 b0)), (Blk.mk Bool.false (Body.fl FloatKind.f32 b1))]) K = z53 an bn b0 b1 i (fun i' => K .normal (St.mk [(0, (AV.v (TV.one (At.vw 0 0 an 1)))), (1, (AV.v (TV.one (At.vw 1 0 bn 1)))), (5, (AV.v (TV.one (At.int IntKind.i64 i'))))] [(Blk.mk Bool.false (Body.fl FloatKind.f32 b0)), (Blk.mk Bool.false (Body.fl FloatKind.f32 b1))])) (fun _ => K Ex.ret (St.mk [(4, (AV.v (TV.one (At.bool Bool.false))))] [(Blk.mk Bool.false (Body.fl FloatKind.f32 b0)), (Blk.mk Bool.false (Body.fl FloatKind.f32 b1))])) (fun c0_ c1_ => K (Ex.exit 0) (St.mk [(0, (AV.v (TV.one (At.vw 0 0 an 1)))), (1, (AV.v (TV.one (At.vw 1 0 bn 1)))), (5, (AV.v (TV.one (At.int IntKind.i64 c0_)))), (14, (AV.v (TV.one (At.bool c1_))))] [(Blk.mk Bool.false (Body.fl FloatKind.f32 b0)), (Blk.mk Bool.false (Body.fl FloatKind.f32 b1))])) := by kernel_rfl
theorem zek (an : Nat) (bn : Nat) (b0 : List Nat) (b1 : List Nat) : ∀ (n : Nat) (i : Int), iter 18 4 2 (evC (R := Ex × St) Γ2 (evFn Γ2 8 8) 18 2 fi18.nt fi18.live fi18.nl 8 (findL 4 (loopsIn fi18.code))) n (St.mk [(0, (AV.v (TV.one (At.vw 0 0 an 1)))), (1, (AV.v (TV.one (At.vw 1 0 bn 1)))), (5, (AV.v (TV.one (At.int IntKind.i64 i))))] [(Blk.mk Bool.false (Body.fl FloatKind.f32 b0)), (Blk.mk Bool.false (Body.fl FloatKind.f32 b1))]) (fun e st => some (e, st)) = (z6w an bn b0 b1) (z48 an bn b0 b1 n i) := by
  intro n
  induction n with
  | zero => intros; rfl
  | succ n ih =>
    intro i
    refine Eq.trans (iter_succ ..) (Eq.trans (zej an bn i b0 b1 (nextK 18 4 2 (evC (R := Ex × St) Γ2 (evFn Γ2 8 8) 18 2 fi18.nt fi18.live fi18.nl 8 (findL 4 (loopsIn fi18.code))) n (fun e st => some (e, st)))) (Eq.trans ?_ (zd7 (z6w an bn b0 b1) rfl an bn b0 b1 i (fun i' => z48 an bn b0 b1 n i') (fun _ => some (Sum.inl ())) (fun c0_ c1_ => some (Sum.inr (c0_, c1_))))))
    exact congrArg (fun kn_ => z53 an bn b0 b1 i kn_ (fun _ => (z6w an bn b0 b1) (some (Sum.inl ()))) (fun c0_ c1_ => (z6w an bn b0 b1) (some (Sum.inr (c0_, c1_))))) (funext fun i' => ih i')
theorem z0q : LoopOne Try.prog fnTab 18 4 z0w := lp_of (Γ := Γ2) tyTab_ok (FnL.ok fnTab_ok _ _) (LpL.ok lt2_ok) (SumL.ok tb2_ok _) mixed (fi := fi18) (by kernel_rfl) (by kernel_rfl) (by
  intro lo st out hp
  unfold z0w at hp
  split at hp
  · rename_i an bn i b0 b1
    injection hp with hp
    injection hp with h1 h2
    subst h2
    exact ⟨8, 8, big, Eq.trans (zek an bn b0 b1 big i) (zeg an bn b0 b1 (z48 an bn b0 b1 big i) h1)⟩
  · cases hp)
noncomputable def z0o : Nat → St → Option (Bool × LO)
  | 0, (St.mk [(4, (AV.v (TV.one (At.bool t4)))), (5, (AV.v (TV.one (At.flt FloatKind.f64 t5)))), (6, (AV.v (TV.one (At.flt FloatKind.f64 t6)))), (7, (AV.v (TV.one (At.flt FloatKind.f64 t7)))), (8, (AV.v (TV.one (At.int IntKind.i64 t8))))] []) => some ((z42 t6 t7 t8), (LO.one (Ex.exit 0) (St.mk [(4, (AV.v (TV.one (At.bool t4)))), (5, (AV.v (TV.one (At.flt FloatKind.f64 t5)))), (6, (AV.v (TV.one (At.flt FloatKind.f64 t6)))), (7, (AV.v (TV.one (At.flt FloatKind.f64 (z2h t6 t7 t8))))), (8, (AV.v (TV.one (At.int IntKind.i64 (z8q t6 t7 t8))))), (44, (AV.v (TV.one (At.bool (z8p t6 t7 t8)))))] [])))
  | _, _ => none
def z7u (t4 : Bool) (t5 : Nat) (t6 : Nat) : Option ((Nat × Int × Bool)) → Option (Ex × St)
  | none => none
  | some r => some ((Ex.exit 0), (St.mk [(4, (AV.v (TV.one (At.bool t4)))), (5, (AV.v (TV.one (At.flt FloatKind.f64 t5)))), (6, (AV.v (TV.one (At.flt FloatKind.f64 t6)))), (7, (AV.v (TV.one (At.flt FloatKind.f64 r.1)))), (8, (AV.v (TV.one (At.int IntKind.i64 r.2.1)))), (44, (AV.v (TV.one (At.bool r.2.2))))] []))
def zdg (t4 : Bool) (t5 : Nat) (t6 : Nat) (x : Option ((Nat × Int × Bool))) : LO := (LO.one (Ex.exit 0) (St.mk [(4, (AV.v (TV.one (At.bool t4)))), (5, (AV.v (TV.one (At.flt FloatKind.f64 t5)))), (6, (AV.v (TV.one (At.flt FloatKind.f64 t6)))), (7, (AV.v (TV.one (At.flt FloatKind.f64 (x.getD default).1)))), (8, (AV.v (TV.one (At.int IntKind.i64 (x.getD default).2.1)))), (44, (AV.v (TV.one (At.bool (x.getD default).2.2))))] []))
theorem zdr (t4 : Bool) (t5 : Nat) (t6 : Nat) : ∀ x : Option ((Nat × Int × Bool)), x.isSome = true → (z7u t4 t5 t6) x = some (pick (zdg t4 t5 t6 x))
  | none, h => by cases h
  | some r, _ => rfl
theorem zdq (t4 : Bool) (t5 : Nat) (t6 : Nat) (t7 : Nat) (t8 : Int) (K : Ex → St → Option (Ex × St)) : evC (R := Ex × St) Γ2 (evFn Γ2 8 8) 132 0 fi132.nt fi132.live fi132.nl 8 (findL 17 (loopsIn fi132.code)) (St.mk [(4, (AV.v (TV.one (At.bool t4)))), (5, (AV.v (TV.one (At.flt FloatKind.f64 t5)))), (6, (AV.v (TV.one (At.flt FloatKind.f64 t6)))), (7, (AV.v (TV.one (At.flt FloatKind.f64 t7)))), (8, (AV.v (TV.one (At.int IntKind.i64 t8))))] []) K = z4t t6 t7 t8 (fun t7' t8' => K .normal (St.mk [(4, (AV.v (TV.one (At.bool t4)))), (5, (AV.v (TV.one (At.flt FloatKind.f64 t5)))), (6, (AV.v (TV.one (At.flt FloatKind.f64 t6)))), (7, (AV.v (TV.one (At.flt FloatKind.f64 t7')))), (8, (AV.v (TV.one (At.int IntKind.i64 t8'))))] [])) (fun c0_ c1_ c2_ => K (Ex.exit 0) (St.mk [(4, (AV.v (TV.one (At.bool t4)))), (5, (AV.v (TV.one (At.flt FloatKind.f64 t5)))), (6, (AV.v (TV.one (At.flt FloatKind.f64 t6)))), (7, (AV.v (TV.one (At.flt FloatKind.f64 c0_)))), (8, (AV.v (TV.one (At.int IntKind.i64 c1_)))), (44, (AV.v (TV.one (At.bool c2_))))] [])) := by kernel_rfl
theorem ze3 (t4 : Bool) (t5 : Nat) (t6 : Nat) : ∀ (n : Nat) (t7 : Nat) (t8 : Int), iter 132 17 0 (evC (R := Ex × St) Γ2 (evFn Γ2 8 8) 132 0 fi132.nt fi132.live fi132.nl 8 (findL 17 (loopsIn fi132.code))) n (St.mk [(4, (AV.v (TV.one (At.bool t4)))), (5, (AV.v (TV.one (At.flt FloatKind.f64 t5)))), (6, (AV.v (TV.one (At.flt FloatKind.f64 t6)))), (7, (AV.v (TV.one (At.flt FloatKind.f64 t7)))), (8, (AV.v (TV.one (At.int IntKind.i64 t8))))] []) (fun e st => some (e, st)) = (z7u t4 t5 t6) (z3q t6 n t7 t8) := by
  intro n
  induction n with
  | zero => intros; rfl
  | succ n ih =>
    intro t7 t8
    refine Eq.trans (iter_succ ..) (Eq.trans (zdq t4 t5 t6 t7 t8 (nextK 132 17 0 (evC (R := Ex × St) Γ2 (evFn Γ2 8 8) 132 0 fi132.nt fi132.live fi132.nl 8 (findL 17 (loopsIn fi132.code))) n (fun e st => some (e, st)))) (Eq.trans ?_ (zcn (z7u t4 t5 t6) rfl t6 t7 t8 (fun t7' t8' => z3q t6 n t7' t8') (fun c0_ c1_ c2_ => some (c0_, c1_, c2_)))))
    exact congrArg (fun kn_ => z4t t6 t7 t8 kn_ (fun c0_ c1_ c2_ => (z7u t4 t5 t6) (some (c0_, c1_, c2_)))) (funext fun t7' => funext fun t8' => ih t7' t8')
theorem z0k : LoopOne Try.prog fnTab 132 17 z0o := lp_of (Γ := Γ2) tyTab_ok (FnL.ok fnTab_ok _ _) (LpL.ok lt2_ok) (SumL.ok tb2_ok _) mixed (fi := fi132) (by kernel_rfl) (by kernel_rfl) (by
  intro lo st out hp
  unfold z0o at hp
  split at hp
  · rename_i t4 t5 t6 t7 t8
    injection hp with hp
    injection hp with h1 h2
    subst h2
    exact ⟨8, 8, big, Eq.trans (ze3 t4 t5 t6 big t7 t8) (zdr t4 t5 t6 (z3q t6 big t7 t8) h1)⟩
  · cases hp)
noncomputable def tb3 : List (Nat × (List PT → Option (Bool × AV × List Blk))) := [(129, z0z), (133, z0j), (137, z0y), (139, z1p), (25, z1v), (59, z38), (64, z1u), (66, z2r), (68, z24), (78, z25), (91, z2s), (122, z3k), (131, z1t), (134, z3j), (58, z2a), (67, z2o), (111, z19), (123, z2y), (20, z14), (126, z1r), (138, z3d)]
noncomputable def lt3 : List ((Nat × Nat) × (Nat → St → Option (Bool × LO))) := [((20, 2), z0n), ((18, 4), z0w), ((132, 17), z0o)]
noncomputable def Γ3 : Ctx := ⟨tyTab, fnTab, tblSum tb3, tblLp lt3⟩
theorem tb3_ok : SumL Try.prog tb3 := SumL.cons z0s (SumL.cons z0f (SumL.cons z0r (SumL.cons z0x (SumL.cons z12 (SumL.cons z2g (SumL.cons z13 (SumL.cons z21 (SumL.cons z1e (SumL.cons z1f (SumL.cons z22 (SumL.cons z33 (SumL.cons z15 (SumL.cons z34 (SumL.cons z1l (SumL.cons z1x (SumL.cons z0v (SumL.cons z29 (SumL.cons z0t (SumL.cons z16 (SumL.cons z2p (SumL.nil)))))))))))))))))))))
theorem lt3_ok : LpL Try.prog fnTab lt3 := LpL.cons z0i (LpL.cons z0q (LpL.cons z0k (LpL.nil)))
noncomputable def z1y : List PT → Option (Bool × AV × List Blk)
  | [.one (.row 1 a_n (.fl .f32 a)), .one (.row 1 b_n (.fl .f32 b))] => some ((z73 a_n a b_n b), ((AV.v (TV.one (At.bool (z6s a_n a b_n b)))), []))
  | _ => none
def zcu (a_n : Nat) (a : List Nat) (b_n : Nat) (b : List Nat) : Option (Bool) → Option (AV × List Blk)
  | some r => some ((AV.v (TV.one (At.bool r))), [])
  | none => none
theorem zfr (a_n : Nat) (a : List Nat) (b_n : Nat) (b : List Nat) : evFn Γ3 8 8 18 (impTs 0 [.one (.row 1 a_n (.fl .f32 a)), .one (.row 1 b_n (.fl .f32 b))]).1 (impTs 0 [.one (.row 1 a_n (.fl .f32 a)), .one (.row 1 b_n (.fl .f32 b))]).2 (expo (impTs 0 [.one (.row 1 a_n (.fl .f32 a)), .one (.row 1 b_n (.fl .f32 b))]).2.length) = z71 a_n a b_n b (fun c0_ => some ((AV.v (TV.one (At.bool c0_))), [])) := by kernel_rfl
theorem z1b : SumOne Try.prog 18 z1y := sum_of (Γ := Γ3) (fuel := 8) (d := 8) tyTab_ok (FnL.ok fnTab_ok _ _) (LpL.ok lt3_ok) (SumL.ok tb3_ok _) mixed (by
  intro pts v news hp hc
  clear hc
  unfold z1y at hp
  split at hp
  · rename_i a_n a b_n b
    exact Eq.trans (Eq.trans (zfr a_n a b_n b) (zea (zcu a_n a b_n b) rfl a_n a b_n b (fun c0_ => some c0_))) (fin_out (o := (zcu a_n a b_n b)) (x := z6z a_n a b_n b) (d := default) (V := fun r => ((AV.v (TV.one (At.bool r))), [])) (fun r => rfl) hp)
  · cases hp)
noncomputable def z1n : List PT → Option (Bool × AV × List Blk)
  | [.agg [.row 1 q09 (.fl .f32 q0g), .row 1 q0e (.fl .f32 q0k), .row 1 q0f (.fl .f32 q0l)], .one (.s (.int .i64 k))] => some ((z7w q09 q0g q0e q0k q0f q0l k), ((AV.v (TV.one (At.int IntKind.i64 (z60 q09 q0g q0e q0k q0f q0l k)))), []))
  | _ => none
def zcm (q09 : Nat) (q0g : List Nat) (q0e : Nat) (q0k : List Nat) (q0f : Nat) (q0l : List Nat) (k : Int) : Option (Int) → Option (AV × List Blk)
  | some r => some ((AV.v (TV.one (At.int IntKind.i64 r))), [])
  | none => none
theorem zf7 (q09 : Nat) (q0g : List Nat) (q0e : Nat) (q0k : List Nat) (q0f : Nat) (q0l : List Nat) (k : Int) : evFn Γ3 8 8 46 (impTs 0 [.agg [.row 1 q09 (.fl .f32 q0g), .row 1 q0e (.fl .f32 q0k), .row 1 q0f (.fl .f32 q0l)], .one (.s (.int .i64 k))]).1 (impTs 0 [.agg [.row 1 q09 (.fl .f32 q0g), .row 1 q0e (.fl .f32 q0k), .row 1 q0f (.fl .f32 q0l)], .one (.s (.int .i64 k))]).2 (expo (impTs 0 [.agg [.row 1 q09 (.fl .f32 q0g), .row 1 q0e (.fl .f32 q0k), .row 1 q0f (.fl .f32 q0l)], .one (.s (.int .i64 k))]).2.length) = z6m q09 q0g q0e q0k q0f q0l k (fun c0_ => some ((AV.v (TV.one (At.int IntKind.i64 c0_))), [])) := by kernel_rfl
theorem z11 : SumOne Try.prog 46 z1n := sum_of (Γ := Γ3) (fuel := 8) (d := 8) tyTab_ok (FnL.ok fnTab_ok _ _) (LpL.ok lt3_ok) (SumL.ok tb3_ok _) mixed (by
  intro pts v news hp hc
  clear hc
  unfold z1n at hp
  split at hp
  · rename_i q09 q0g q0e q0k q0f q0l k
    exact Eq.trans (Eq.trans (zf7 q09 q0g q0e q0k q0f q0l k) (zdx (zcm q09 q0g q0e q0k q0f q0l k) rfl q09 q0g q0e q0k q0f q0l k (fun c0_ => some c0_))) (fin_out (o := (zcm q09 q0g q0e q0k q0f q0l k)) (x := z6q q09 q0g q0e q0k q0f q0l k) (d := default) (V := fun r => ((AV.v (TV.one (At.int IntKind.i64 r))), [])) (fun r => rfl) hp)
  · cases hp)
noncomputable def z1m : List PT → Option (Bool × AV × List Blk)
  | [.one (.s (.flt .f64 q02))] => some ((z9k q02), ((AV.v (TV.one (At.flt FloatKind.f64 (z78 q02)))), []))
  | _ => none
def zcl (q02 : Nat) : Option (Nat) → Option (AV × List Blk)
  | some r => some ((AV.v (TV.one (At.flt FloatKind.f64 r))), [])
  | none => none
theorem zf8 (q02 : Nat) : evFn Γ3 8 8 132 (impTs 0 [.one (.s (.flt .f64 q02))]).1 (impTs 0 [.one (.s (.flt .f64 q02))]).2 (expo (impTs 0 [.one (.s (.flt .f64 q02))]).2.length) = z5r q02 (fun c0_ => some ((AV.v (TV.one (At.flt FloatKind.f64 c0_))), [])) := by kernel_rfl
theorem z10 : SumOne Try.prog 132 z1m := sum_of (Γ := Γ3) (fuel := 8) (d := 8) tyTab_ok (FnL.ok fnTab_ok _ _) (LpL.ok lt3_ok) (SumL.ok tb3_ok _) mixed (by
  intro pts v news hp hc
  clear hc
  unfold z1m at hp
  split at hp
  · rename_i q02
    exact Eq.trans (Eq.trans (zf8 q02) (ze4 (zcl q02) rfl q02 (fun c0_ => some c0_))) (fin_out (o := (zcl q02)) (x := z5h q02) (d := default) (V := fun r => ((AV.v (TV.one (At.flt FloatKind.f64 r))), [])) (fun r => rfl) hp)
  · cases hp)
noncomputable def z1z : List PT → Option (Bool × AV × List Blk)
  | [.one (.s (.flt .f64 q0h))] => some ((zaa q0h), ((AV.v (TV.one (At.flt FloatKind.f64 (z2q q0h)))), []))
  | _ => none
def zcw (q0h : Nat) : Option (Nat) → Option (AV × List Blk)
  | some r => some ((AV.v (TV.one (At.flt FloatKind.f64 r))), [])
  | none => none
theorem zfj (q0h : Nat) : evFn Γ3 8 8 135 (impTs 0 [.one (.s (.flt .f64 q0h))]).1 (impTs 0 [.one (.s (.flt .f64 q0h))]).2 (expo (impTs 0 [.one (.s (.flt .f64 q0h))]).2.length) = z72 q0h (fun c0_ => some ((AV.v (TV.one (At.flt FloatKind.f64 c0_))), [])) := by kernel_rfl
theorem z1a : SumOne Try.prog 135 z1z := sum_of (Γ := Γ3) (fuel := 8) (d := 8) tyTab_ok (FnL.ok fnTab_ok _ _) (LpL.ok lt3_ok) (SumL.ok tb3_ok _) mixed (by
  intro pts v news hp hc
  clear hc
  unfold z1z at hp
  split at hp
  · rename_i q0h
    exact Eq.trans (Eq.trans (zfj q0h) (ze7 (zcw q0h) rfl q0h (fun c0_ => some c0_))) (fin_out (o := (zcw q0h)) (x := z70 q0h) (d := default) (V := fun r => ((AV.v (TV.one (At.flt FloatKind.f64 r))), [])) (fun r => rfl) hp)
  · cases hp)
noncomputable def z2k : Nat → St → Option (Bool × LO)
  | 4, (St.mk [(0, (AV.v (TV.one (At.ptr 3 0 3)))), (3, (AV.v (TV.one (At.int IntKind.i64 t3)))), (4, (AV.v (TV.one (At.int IntKind.i64 t4))))] [(Blk.mk Bool.false (Body.fl FloatKind.f32 b0)), (Blk.mk Bool.false (Body.fl FloatKind.f32 b1)), (Blk.mk Bool.false (Body.fl FloatKind.f32 b2)), (Blk.mk Bool.false (Body.cells [(At.vw 0 0 q0d 1), (At.vw 1 0 q0j 1), (At.vw 2 0 q0i 1)]))]) => some ((z6a t3 b0 b1 b2 q0d q0j q0i t4), (LO.two (z62 t3 b0 b1 b2 q0d q0j q0i t4) (LO.one Ex.ret (St.mk [(2, (AV.v (TV.one (At.bool Bool.false))))] [(Blk.mk Bool.false (Body.fl FloatKind.f32 b0)), (Blk.mk Bool.false (Body.fl FloatKind.f32 b1)), (Blk.mk Bool.false (Body.fl FloatKind.f32 b2)), (Blk.mk Bool.false (Body.cells [(At.vw 0 0 q0d 1), (At.vw 1 0 q0j 1), (At.vw 2 0 q0i 1)]))])) (LO.one (Ex.exit 0) (St.mk [(0, (AV.v (TV.one (At.ptr 3 0 3)))), (3, (AV.v (TV.one (At.int IntKind.i64 t3)))), (4, (AV.v (TV.one (At.int IntKind.i64 (zbo t3 b0 b1 b2 q0d q0j q0i t4))))), (36, (AV.v (TV.one (At.bool (zbl t3 b0 b1 b2 q0d q0j q0i t4)))))] [(Blk.mk Bool.false (Body.fl FloatKind.f32 b0)), (Blk.mk Bool.false (Body.fl FloatKind.f32 b1)), (Blk.mk Bool.false (Body.fl FloatKind.f32 b2)), (Blk.mk Bool.false (Body.cells [(At.vw 0 0 q0d 1), (At.vw 1 0 q0j 1), (At.vw 2 0 q0i 1)]))]))))
  | _, _ => none
def z9u (t3 : Int) (b0 : List Nat) (b1 : List Nat) (b2 : List Nat) (q0d : Nat) (q0j : Nat) (q0i : Nat) : Option ((Unit) ⊕ (Int × Bool)) → Option (Ex × St)
  | none => none
  | some (Sum.inl r) => some (Ex.ret, (St.mk [(2, (AV.v (TV.one (At.bool Bool.false))))] [(Blk.mk Bool.false (Body.fl FloatKind.f32 b0)), (Blk.mk Bool.false (Body.fl FloatKind.f32 b1)), (Blk.mk Bool.false (Body.fl FloatKind.f32 b2)), (Blk.mk Bool.false (Body.cells [(At.vw 0 0 q0d 1), (At.vw 1 0 q0j 1), (At.vw 2 0 q0i 1)]))]))
  | some (Sum.inr r) => some ((Ex.exit 0), (St.mk [(0, (AV.v (TV.one (At.ptr 3 0 3)))), (3, (AV.v (TV.one (At.int IntKind.i64 t3)))), (4, (AV.v (TV.one (At.int IntKind.i64 r.1)))), (36, (AV.v (TV.one (At.bool r.2))))] [(Blk.mk Bool.false (Body.fl FloatKind.f32 b0)), (Blk.mk Bool.false (Body.fl FloatKind.f32 b1)), (Blk.mk Bool.false (Body.fl FloatKind.f32 b2)), (Blk.mk Bool.false (Body.cells [(At.vw 0 0 q0d 1), (At.vw 1 0 q0j 1), (At.vw 2 0 q0i 1)]))]))
def zga (t3 : Int) (b0 : List Nat) (b1 : List Nat) (b2 : List Nat) (q0d : Nat) (q0j : Nat) (q0i : Nat) (x : Option ((Unit) ⊕ (Int × Bool))) : LO := (LO.two (oL x) (LO.one Ex.ret (St.mk [(2, (AV.v (TV.one (At.bool Bool.false))))] [(Blk.mk Bool.false (Body.fl FloatKind.f32 b0)), (Blk.mk Bool.false (Body.fl FloatKind.f32 b1)), (Blk.mk Bool.false (Body.fl FloatKind.f32 b2)), (Blk.mk Bool.false (Body.cells [(At.vw 0 0 q0d 1), (At.vw 1 0 q0j 1), (At.vw 2 0 q0i 1)]))])) (LO.one (Ex.exit 0) (St.mk [(0, (AV.v (TV.one (At.ptr 3 0 3)))), (3, (AV.v (TV.one (At.int IntKind.i64 t3)))), (4, (AV.v (TV.one (At.int IntKind.i64 ((tR x).getD default).1)))), (36, (AV.v (TV.one (At.bool ((tR x).getD default).2))))] [(Blk.mk Bool.false (Body.fl FloatKind.f32 b0)), (Blk.mk Bool.false (Body.fl FloatKind.f32 b1)), (Blk.mk Bool.false (Body.fl FloatKind.f32 b2)), (Blk.mk Bool.false (Body.cells [(At.vw 0 0 q0d 1), (At.vw 1 0 q0j 1), (At.vw 2 0 q0i 1)]))])))
theorem zge (t3 : Int) (b0 : List Nat) (b1 : List Nat) (b2 : List Nat) (q0d : Nat) (q0j : Nat) (q0i : Nat) : ∀ x : Option ((Unit) ⊕ (Int × Bool)), x.isSome = true → (z9u t3 b0 b1 b2 q0d q0j q0i) x = some (pick (zga t3 b0 b1 b2 q0d q0j q0i x))
  | none, h => by cases h
  | some (Sum.inl r), _ => rfl
  | some (Sum.inr r), _ => rfl
theorem zgm (t3 : Int) (t4 : Int) (b0 : List Nat) (b1 : List Nat) (b2 : List Nat) (q0d : Nat) (q0j : Nat) (q0i : Nat) (K : Ex → St → Option (Ex × St)) : evC (R := Ex × St) Γ3 (evFn Γ3 8 8) 90 4 fi90.nt fi90.live fi90.nl 8 (findL 5 (loopsIn fi90.code)) (St.mk [(0, (AV.v (TV.one (At.ptr 3 0 3)))), (3, (AV.v (TV.one (At.int IntKind.i64 t3)))), (4, (AV.v (TV.one (At.int IntKind.i64 t4))))] [(Blk.mk Bool.false (Body.fl FloatKind.f32 b0)), (Blk.mk Bool.false (Body.fl FloatKind.f32 b1)), (Blk.mk Bool.false (Body.fl FloatKind.f32 b2)), (Blk.mk Bool.false (Body.cells [(At.vw 0 0 q0d 1), (At.vw 1 0 q0j 1), (At.vw 2 0 q0i 1)]))]) K = z61 t3 b0 b1 b2 q0d q0j q0i t4 (fun t4' => K .normal (St.mk [(0, (AV.v (TV.one (At.ptr 3 0 3)))), (3, (AV.v (TV.one (At.int IntKind.i64 t3)))), (4, (AV.v (TV.one (At.int IntKind.i64 t4'))))] [(Blk.mk Bool.false (Body.fl FloatKind.f32 b0)), (Blk.mk Bool.false (Body.fl FloatKind.f32 b1)), (Blk.mk Bool.false (Body.fl FloatKind.f32 b2)), (Blk.mk Bool.false (Body.cells [(At.vw 0 0 q0d 1), (At.vw 1 0 q0j 1), (At.vw 2 0 q0i 1)]))])) (fun _ => K Ex.ret (St.mk [(2, (AV.v (TV.one (At.bool Bool.false))))] [(Blk.mk Bool.false (Body.fl FloatKind.f32 b0)), (Blk.mk Bool.false (Body.fl FloatKind.f32 b1)), (Blk.mk Bool.false (Body.fl FloatKind.f32 b2)), (Blk.mk Bool.false (Body.cells [(At.vw 0 0 q0d 1), (At.vw 1 0 q0j 1), (At.vw 2 0 q0i 1)]))])) (fun c0_ c1_ => K (Ex.exit 0) (St.mk [(0, (AV.v (TV.one (At.ptr 3 0 3)))), (3, (AV.v (TV.one (At.int IntKind.i64 t3)))), (4, (AV.v (TV.one (At.int IntKind.i64 c0_)))), (36, (AV.v (TV.one (At.bool c1_))))] [(Blk.mk Bool.false (Body.fl FloatKind.f32 b0)), (Blk.mk Bool.false (Body.fl FloatKind.f32 b1)), (Blk.mk Bool.false (Body.fl FloatKind.f32 b2)), (Blk.mk Bool.false (Body.cells [(At.vw 0 0 q0d 1), (At.vw 1 0 q0j 1), (At.vw 2 0 q0i 1)]))])) := by kernel_rfl
theorem zgl (t3 : Int) (b0 : List Nat) (b1 : List Nat) (b2 : List Nat) (q0d : Nat) (q0j : Nat) (q0i : Nat) : ∀ (n : Nat) (t4 : Int), iter 90 5 4 (evC (R := Ex × St) Γ3 (evFn Γ3 8 8) 90 4 fi90.nt fi90.live fi90.nl 8 (findL 5 (loopsIn fi90.code))) n (St.mk [(0, (AV.v (TV.one (At.ptr 3 0 3)))), (3, (AV.v (TV.one (At.int IntKind.i64 t3)))), (4, (AV.v (TV.one (At.int IntKind.i64 t4))))] [(Blk.mk Bool.false (Body.fl FloatKind.f32 b0)), (Blk.mk Bool.false (Body.fl FloatKind.f32 b1)), (Blk.mk Bool.false (Body.fl FloatKind.f32 b2)), (Blk.mk Bool.false (Body.cells [(At.vw 0 0 q0d 1), (At.vw 1 0 q0j 1), (At.vw 2 0 q0i 1)]))]) (fun e st => some (e, st)) = (z9u t3 b0 b1 b2 q0d q0j q0i) (z4z t3 b0 b1 b2 q0d q0j q0i n t4) := by
  intro n
  induction n with
  | zero => intros; rfl
  | succ n ih =>
    intro t4
    refine Eq.trans (iter_succ ..) (Eq.trans (zgm t3 t4 b0 b1 b2 q0d q0j q0i (nextK 90 5 4 (evC (R := Ex × St) Γ3 (evFn Γ3 8 8) 90 4 fi90.nt fi90.live fi90.nl 8 (findL 5 (loopsIn fi90.code))) n (fun e st => some (e, st)))) (Eq.trans ?_ (zeu (z9u t3 b0 b1 b2 q0d q0j q0i) rfl t3 b0 b1 b2 q0d q0j q0i t4 (fun t4' => z4z t3 b0 b1 b2 q0d q0j q0i n t4') (fun _ => some (Sum.inl ())) (fun c0_ c1_ => some (Sum.inr (c0_, c1_))))))
    exact congrArg (fun kn_ => z61 t3 b0 b1 b2 q0d q0j q0i t4 kn_ (fun _ => (z9u t3 b0 b1 b2 q0d q0j q0i) (some (Sum.inl ()))) (fun c0_ c1_ => (z9u t3 b0 b1 b2 q0d q0j q0i) (some (Sum.inr (c0_, c1_))))) (funext fun t4' => ih t4')
theorem z20 : LoopOne Try.prog fnTab 90 5 z2k := lp_of (Γ := Γ3) tyTab_ok (FnL.ok fnTab_ok _ _) (LpL.ok lt3_ok) (SumL.ok tb3_ok _) mixed (fi := fi90) (by kernel_rfl) (by kernel_rfl) (by
  intro lo st out hp
  unfold z2k at hp
  split at hp
  · rename_i t3 t4 b0 b1 b2 q0d q0j q0i
    injection hp with hp
    injection hp with h1 h2
    subst h2
    exact ⟨8, 8, big, Eq.trans (zgl t3 b0 b1 b2 q0d q0j q0i big t4) (zge t3 b0 b1 b2 q0d q0j q0i (z4z t3 b0 b1 b2 q0d q0j q0i big t4) h1)⟩
  · cases hp)
noncomputable def z01 : Nat → St → Option (Bool × LO)
  | 1, (St.mk [(0, (AV.v (TV.one (At.vw 0 0 sn 1)))), (1, (AV.v (TV.one (At.fn 111 [])))), (7, (AV.v (TV.one (At.int IntKind.i64 t7)))), (8, (AV.v (TV.one (At.int IntKind.i64 t8))))] [(Blk.mk Bool.false (Body.fl FloatKind.f32 b0))]) => some ((z3u sn t7 b0 t8), (LO.two (z3t sn t7 b0 t8) (LO.one Ex.ret (St.mk [(4, (AV.v (TV.one (At.int IntKind.i64 (z4l sn t7 b0 t8)))))] [(Blk.mk Bool.false (Body.fl FloatKind.f32 b0))])) (LO.one (Ex.exit 0) (St.mk [(0, (AV.v (TV.one (At.vw 0 0 sn 1)))), (1, (AV.v (TV.one (At.fn 111 [])))), (7, (AV.v (TV.one (At.int IntKind.i64 t7)))), (8, (AV.v (TV.one (At.int IntKind.i64 (z5j sn t7 b0 t8))))), (9, (AV.v (TV.one (At.bool (z5g sn t7 b0 t8)))))] [(Blk.mk Bool.false (Body.fl FloatKind.f32 b0))]))))
  | _, _ => none
def z49 (sn : Nat) (t7 : Int) (b0 : List Nat) : Option ((Int) ⊕ (Int × Bool)) → Option (Ex × St)
  | none => none
  | some (Sum.inl r) => some (Ex.ret, (St.mk [(4, (AV.v (TV.one (At.int IntKind.i64 r))))] [(Blk.mk Bool.false (Body.fl FloatKind.f32 b0))]))
  | some (Sum.inr r) => some ((Ex.exit 0), (St.mk [(0, (AV.v (TV.one (At.vw 0 0 sn 1)))), (1, (AV.v (TV.one (At.fn 111 [])))), (7, (AV.v (TV.one (At.int IntKind.i64 t7)))), (8, (AV.v (TV.one (At.int IntKind.i64 r.1)))), (9, (AV.v (TV.one (At.bool r.2))))] [(Blk.mk Bool.false (Body.fl FloatKind.f32 b0))]))
def za6 (sn : Nat) (t7 : Int) (b0 : List Nat) (x : Option ((Int) ⊕ (Int × Bool))) : LO := (LO.two (oL x) (LO.one Ex.ret (St.mk [(4, (AV.v (TV.one (At.int IntKind.i64 ((tL x).getD default)))))] [(Blk.mk Bool.false (Body.fl FloatKind.f32 b0))])) (LO.one (Ex.exit 0) (St.mk [(0, (AV.v (TV.one (At.vw 0 0 sn 1)))), (1, (AV.v (TV.one (At.fn 111 [])))), (7, (AV.v (TV.one (At.int IntKind.i64 t7)))), (8, (AV.v (TV.one (At.int IntKind.i64 ((tR x).getD default).1)))), (9, (AV.v (TV.one (At.bool ((tR x).getD default).2))))] [(Blk.mk Bool.false (Body.fl FloatKind.f32 b0))])))
theorem zaq (sn : Nat) (t7 : Int) (b0 : List Nat) : ∀ x : Option ((Int) ⊕ (Int × Bool)), x.isSome = true → (z49 sn t7 b0) x = some (pick (za6 sn t7 b0 x))
  | none, h => by cases h
  | some (Sum.inl r), _ => rfl
  | some (Sum.inr r), _ => rfl
theorem zag (sn : Nat) (t7 : Int) (t8 : Int) (b0 : List Nat) (K : Ex → St → Option (Ex × St)) : evC (R := Ex × St) Γ3 (evFn Γ3 8 8) 125 1 fi125.nt fi125.live fi125.nl 8 (findL 2 (loopsIn fi125.code)) (St.mk [(0, (AV.v (TV.one (At.vw 0 0 sn 1)))), (1, (AV.v (TV.one (At.fn 111 [])))), (7, (AV.v (TV.one (At.int IntKind.i64 t7)))), (8, (AV.v (TV.one (At.int IntKind.i64 t8))))] [(Blk.mk Bool.false (Body.fl FloatKind.f32 b0))]) K = z3c sn t7 b0 t8 (fun t8' => K .normal (St.mk [(0, (AV.v (TV.one (At.vw 0 0 sn 1)))), (1, (AV.v (TV.one (At.fn 111 [])))), (7, (AV.v (TV.one (At.int IntKind.i64 t7)))), (8, (AV.v (TV.one (At.int IntKind.i64 t8'))))] [(Blk.mk Bool.false (Body.fl FloatKind.f32 b0))])) (fun c0_ => K Ex.ret (St.mk [(4, (AV.v (TV.one (At.int IntKind.i64 c0_))))] [(Blk.mk Bool.false (Body.fl FloatKind.f32 b0))])) (fun c0_ c1_ => K (Ex.exit 0) (St.mk [(0, (AV.v (TV.one (At.vw 0 0 sn 1)))), (1, (AV.v (TV.one (At.fn 111 [])))), (7, (AV.v (TV.one (At.int IntKind.i64 t7)))), (8, (AV.v (TV.one (At.int IntKind.i64 c0_)))), (9, (AV.v (TV.one (At.bool c1_))))] [(Blk.mk Bool.false (Body.fl FloatKind.f32 b0))])) := by kernel_rfl
theorem zap (sn : Nat) (t7 : Int) (b0 : List Nat) : ∀ (n : Nat) (t8 : Int), iter 125 2 1 (evC (R := Ex × St) Γ3 (evFn Γ3 8 8) 125 1 fi125.nt fi125.live fi125.nl 8 (findL 2 (loopsIn fi125.code))) n (St.mk [(0, (AV.v (TV.one (At.vw 0 0 sn 1)))), (1, (AV.v (TV.one (At.fn 111 [])))), (7, (AV.v (TV.one (At.int IntKind.i64 t7)))), (8, (AV.v (TV.one (At.int IntKind.i64 t8))))] [(Blk.mk Bool.false (Body.fl FloatKind.f32 b0))]) (fun e st => some (e, st)) = (z49 sn t7 b0) (z1d sn t7 b0 n t8) := by
  intro n
  induction n with
  | zero => intros; rfl
  | succ n ih =>
    intro t8
    refine Eq.trans (iter_succ ..) (Eq.trans (zag sn t7 t8 b0 (nextK 125 2 1 (evC (R := Ex × St) Γ3 (evFn Γ3 8 8) 125 1 fi125.nt fi125.live fi125.nl 8 (findL 2 (loopsIn fi125.code))) n (fun e st => some (e, st)))) (Eq.trans ?_ (z98 (z49 sn t7 b0) rfl sn t7 b0 t8 (fun t8' => z1d sn t7 b0 n t8') (fun c0_ => some (Sum.inl c0_)) (fun c0_ c1_ => some (Sum.inr (c0_, c1_))))))
    exact congrArg (fun kn_ => z3c sn t7 b0 t8 kn_ (fun c0_ => (z49 sn t7 b0) (some (Sum.inl c0_))) (fun c0_ c1_ => (z49 sn t7 b0) (some (Sum.inr (c0_, c1_))))) (funext fun t8' => ih t8')
theorem z00 : LoopOne Try.prog fnTab 125 2 z01 := lp_of (Γ := Γ3) tyTab_ok (FnL.ok fnTab_ok _ _) (LpL.ok lt3_ok) (SumL.ok tb3_ok _) mixed (fi := fi125) (by kernel_rfl) (by kernel_rfl) (by
  intro lo st out hp
  unfold z01 at hp
  split at hp
  · rename_i sn t7 t8 b0
    injection hp with hp
    injection hp with h1 h2
    subst h2
    exact ⟨8, 8, big, Eq.trans (zap sn t7 b0 big t8) (zaq sn t7 b0 (z1d sn t7 b0 big t8) h1)⟩
  · cases hp)
noncomputable def tb4 : List (Nat × (List PT → Option (Bool × AV × List Blk))) := [(129, z0z), (133, z0j), (137, z0y), (139, z1p), (25, z1v), (59, z38), (64, z1u), (66, z2r), (68, z24), (78, z25), (91, z2s), (122, z3k), (131, z1t), (134, z3j), (58, z2a), (67, z2o), (111, z19), (123, z2y), (20, z14), (126, z1r), (138, z3d), (18, z1y), (46, z1n), (132, z1m), (135, z1z)]
noncomputable def lt4 : List ((Nat × Nat) × (Nat → St → Option (Bool × LO))) := [((20, 2), z0n), ((18, 4), z0w), ((132, 17), z0o), ((90, 5), z2k), ((125, 2), z01)]
noncomputable def Γ4 : Ctx := ⟨tyTab, fnTab, tblSum tb4, tblLp lt4⟩
theorem tb4_ok : SumL Try.prog tb4 := SumL.cons z0s (SumL.cons z0f (SumL.cons z0r (SumL.cons z0x (SumL.cons z12 (SumL.cons z2g (SumL.cons z13 (SumL.cons z21 (SumL.cons z1e (SumL.cons z1f (SumL.cons z22 (SumL.cons z33 (SumL.cons z15 (SumL.cons z34 (SumL.cons z1l (SumL.cons z1x (SumL.cons z0v (SumL.cons z29 (SumL.cons z0t (SumL.cons z16 (SumL.cons z2p (SumL.cons z1b (SumL.cons z11 (SumL.cons z10 (SumL.cons z1a (SumL.nil)))))))))))))))))))))))))
theorem lt4_ok : LpL Try.prog fnTab lt4 := LpL.cons z0i (LpL.cons z0q (LpL.cons z0k (LpL.cons z20 (LpL.cons z00 (LpL.nil)))))
noncomputable def z2d : List PT → Option (Bool × AV × List Blk)
  | [.agg [.row 1 q09 (.fl .f32 q0g), .row 1 q0e (.fl .f32 q0k), .row 1 q0f (.fl .f32 q0l)], .agg [.row 1 q0u (.fl .f32 q11), .row 1 q0z (.fl .f32 q13), .row 1 q0y (.fl .f32 q14)]] => some ((z8x q09 q0g q0e q0k q0f q0l q0u q11 q0z q13 q0y q14), ((AV.v (TV.one (At.bool (z8f q09 q0g q0e q0k q0f q0l q0u q11 q0z q13 q0y q14)))), []))
  | _ => none
def zd6 (q09 : Nat) (q0g : List Nat) (q0e : Nat) (q0k : List Nat) (q0f : Nat) (q0l : List Nat) (q0u : Nat) (q11 : List Nat) (q0z : Nat) (q13 : List Nat) (q0y : Nat) (q14 : List Nat) : Option (Bool) → Option (AV × List Blk)
  | some r => some ((AV.v (TV.one (At.bool r))), [])
  | none => none
theorem zg5 (q09 : Nat) (q0g : List Nat) (q0e : Nat) (q0k : List Nat) (q0f : Nat) (q0l : List Nat) (q0u : Nat) (q11 : List Nat) (q0z : Nat) (q13 : List Nat) (q0y : Nat) (q14 : List Nat) : evFn Γ4 8 8 44 (impTs 0 [.agg [.row 1 q09 (.fl .f32 q0g), .row 1 q0e (.fl .f32 q0k), .row 1 q0f (.fl .f32 q0l)], .agg [.row 1 q0u (.fl .f32 q11), .row 1 q0z (.fl .f32 q13), .row 1 q0y (.fl .f32 q14)]]).1 (impTs 0 [.agg [.row 1 q09 (.fl .f32 q0g), .row 1 q0e (.fl .f32 q0k), .row 1 q0f (.fl .f32 q0l)], .agg [.row 1 q0u (.fl .f32 q11), .row 1 q0z (.fl .f32 q13), .row 1 q0y (.fl .f32 q14)]]).2 (expo (impTs 0 [.agg [.row 1 q09 (.fl .f32 q0g), .row 1 q0e (.fl .f32 q0k), .row 1 q0f (.fl .f32 q0l)], .agg [.row 1 q0u (.fl .f32 q11), .row 1 q0z (.fl .f32 q13), .row 1 q0y (.fl .f32 q14)]]).2.length) = z7l q09 q0g q0e q0k q0f q0l q0u q11 q0z q13 q0y q14 (fun c0_ => some ((AV.v (TV.one (At.bool c0_))), [])) := by kernel_rfl
theorem z1w : SumOne Try.prog 44 z2d := sum_of (Γ := Γ4) (fuel := 8) (d := 8) tyTab_ok (FnL.ok fnTab_ok _ _) (LpL.ok lt4_ok) (SumL.ok tb4_ok _) mixed (by
  intro pts v news hp hc
  clear hc
  unfold z2d at hp
  split at hp
  · rename_i q09 q0g q0e q0k q0f q0l q0u q11 q0z q13 q0y q14
    exact Eq.trans (Eq.trans (zg5 q09 q0g q0e q0k q0f q0l q0u q11 q0z q13 q0y q14) (zel (zd6 q09 q0g q0e q0k q0f q0l q0u q11 q0z q13 q0y q14) rfl q09 q0g q0e q0k q0f q0l q0u q11 q0z q13 q0y q14 (fun c0_ => some c0_))) (fin_out (o := (zd6 q09 q0g q0e q0k q0f q0l q0u q11 q0z q13 q0y q14)) (x := z7e q09 q0g q0e q0k q0f q0l q0u q11 q0z q13 q0y q14) (d := default) (V := fun r => ((AV.v (TV.one (At.bool r))), [])) (fun r => rfl) hp)
  · cases hp)
noncomputable def z3h : List PT → Option (Bool × AV × List Blk)
  | [.ptr [.row 1 q03 (.fl .f32 q06), .row 1 q05 (.fl .f32 q07), .row 1 q04 (.fl .f32 q08)]] => some ((zc8 q03 q06 q05 q07 q04 q08), ((AV.v (TV.one (At.bool (zc3 q03 q06 q05 q07 q04 q08)))), []))
  | _ => none
def zfe (q03 : Nat) (q06 : List Nat) (q05 : Nat) (q07 : List Nat) (q04 : Nat) (q08 : List Nat) : Option (Bool) → Option (AV × List Blk)
  | some r => some ((AV.v (TV.one (At.bool r))), [])
  | none => none
theorem zh8 (q03 : Nat) (q06 : List Nat) (q05 : Nat) (q07 : List Nat) (q04 : Nat) (q08 : List Nat) : evFn Γ4 8 8 90 (impTs 0 [.ptr [.row 1 q03 (.fl .f32 q06), .row 1 q05 (.fl .f32 q07), .row 1 q04 (.fl .f32 q08)]]).1 (impTs 0 [.ptr [.row 1 q03 (.fl .f32 q06), .row 1 q05 (.fl .f32 q07), .row 1 q04 (.fl .f32 q08)]]).2 (expo (impTs 0 [.ptr [.row 1 q03 (.fl .f32 q06), .row 1 q05 (.fl .f32 q07), .row 1 q04 (.fl .f32 q08)]]).2.length) = zak q03 q06 q05 q07 q04 q08 (fun c0_ => some ((AV.v (TV.one (At.bool c0_))), [])) := by kernel_rfl
theorem z2z : SumOne Try.prog 90 z3h := sum_of (Γ := Γ4) (fuel := 8) (d := 8) tyTab_ok (FnL.ok fnTab_ok _ _) (LpL.ok lt4_ok) (SumL.ok tb4_ok _) mixed (by
  intro pts v news hp hc
  clear hc
  unfold z3h at hp
  split at hp
  · rename_i q03 q06 q05 q07 q04 q08
    exact Eq.trans (Eq.trans (zh8 q03 q06 q05 q07 q04 q08) (zg2 (zfe q03 q06 q05 q07 q04 q08) rfl q03 q06 q05 q07 q04 q08 (fun c0_ => some c0_))) (fin_out (o := (zfe q03 q06 q05 q07 q04 q08)) (x := zar q03 q06 q05 q07 q04 q08) (d := default) (V := fun r => ((AV.v (TV.one (At.bool r))), [])) (fun r => rfl) hp)
  · cases hp)
noncomputable def z31 : List PT → Option (Bool × AV × List Blk)
  | [.one (.s (.flt .f32 x))] => some ((z7j x), ((AV.v (TV.one (At.flt FloatKind.f32 (z4f x)))), []))
  | _ => none
def ze9 (x : Nat) : Option (Nat) → Option (AV × List Blk)
  | some r => some ((AV.v (TV.one (At.flt FloatKind.f32 r))), [])
  | none => none
theorem zgv (x : Nat) : evFn Γ4 8 8 121 (impTs 0 [.one (.s (.flt .f32 x))]).1 (impTs 0 [.one (.s (.flt .f32 x))]).2 (expo (impTs 0 [.one (.s (.flt .f32 x))]).2.length) = z8u x (fun c0_ => some ((AV.v (TV.one (At.flt FloatKind.f32 c0_))), [])) := by kernel_rfl
theorem z2f : SumOne Try.prog 121 z31 := sum_of (Γ := Γ4) (fuel := 8) (d := 8) tyTab_ok (FnL.ok fnTab_ok _ _) (LpL.ok lt4_ok) (SumL.ok tb4_ok _) mixed (by
  intro pts v news hp hc
  clear hc
  unfold z31 at hp
  split at hp
  · rename_i x
    exact Eq.trans (Eq.trans (zgv x) (zfg (ze9 x) rfl x (fun c0_ => some c0_))) (fin_out (o := (ze9 x)) (x := z7n x) (d := default) (V := fun r => ((AV.v (TV.one (At.flt FloatKind.f32 r))), [])) (fun r => rfl) hp)
  · cases hp)
noncomputable def z07 : List PT → Option (Bool × AV × List Blk)
  | [.one (.row 1 s_n (.fl .f32 s)), .fn 111 []] => some ((z55 s_n s), ((AV.v (TV.one (At.int IntKind.i64 (z52 s_n s)))), []))
  | _ => none
def z76 (s_n : Nat) (s : List Nat) : Option (Int) → Option (AV × List Blk)
  | some r => some ((AV.v (TV.one (At.int IntKind.i64 r))), [])
  | none => none
theorem zb8 (s_n : Nat) (s : List Nat) : evFn Γ4 8 8 125 (impTs 0 [.one (.row 1 s_n (.fl .f32 s)), .fn 111 []]).1 (impTs 0 [.one (.row 1 s_n (.fl .f32 s)), .fn 111 []]).2 (expo (impTs 0 [.one (.row 1 s_n (.fl .f32 s)), .fn 111 []]).2.length) = z44 s_n s (fun c0_ => some ((AV.v (TV.one (At.int IntKind.i64 c0_))), [])) := by kernel_rfl
theorem z06 : SumOne Try.prog 125 z07 := sum_of (Γ := Γ4) (fuel := 8) (d := 8) tyTab_ok (FnL.ok fnTab_ok _ _) (LpL.ok lt4_ok) (SumL.ok tb4_ok _) mixed (by
  intro pts v news hp hc
  clear hc
  unfold z07 at hp
  split at hp
  · rename_i s_n s
    exact Eq.trans (Eq.trans (zb8 s_n s) (za8 (z76 s_n s) rfl s_n s (fun c0_ => some c0_))) (fin_out (o := (z76 s_n s)) (x := z43 s_n s) (d := default) (V := fun r => ((AV.v (TV.one (At.int IntKind.i64 r))), [])) (fun r => rfl) hp)
  · cases hp)
noncomputable def z03 : Nat → St → Option (Bool × LO)
  | 1, (St.mk [(0, (AV.v (TV.one (At.vw 0 0 sn 1)))), (1, (AV.v (TV.one (At.fn 126 [])))), (7, (AV.v (TV.one (At.int IntKind.i64 t7)))), (8, (AV.v (TV.one (At.int IntKind.i64 t8))))] [(Blk.mk Bool.false (Body.fl FloatKind.f32 b0))]) => some ((z41 sn t7 b0 t8), (LO.two (z3v sn t7 b0 t8) (LO.one Ex.ret (St.mk [(4, (AV.v (TV.one (At.int IntKind.i64 (z4q sn t7 b0 t8)))))] [(Blk.mk Bool.false (Body.fl FloatKind.f32 b0))])) (LO.one (Ex.exit 0) (St.mk [(0, (AV.v (TV.one (At.vw 0 0 sn 1)))), (1, (AV.v (TV.one (At.fn 126 [])))), (7, (AV.v (TV.one (At.int IntKind.i64 t7)))), (8, (AV.v (TV.one (At.int IntKind.i64 (z5m sn t7 b0 t8))))), (9, (AV.v (TV.one (At.bool (z5n sn t7 b0 t8)))))] [(Blk.mk Bool.false (Body.fl FloatKind.f32 b0))]))))
  | _, _ => none
def z4c (sn : Nat) (t7 : Int) (b0 : List Nat) : Option ((Int) ⊕ (Int × Bool)) → Option (Ex × St)
  | none => none
  | some (Sum.inl r) => some (Ex.ret, (St.mk [(4, (AV.v (TV.one (At.int IntKind.i64 r))))] [(Blk.mk Bool.false (Body.fl FloatKind.f32 b0))]))
  | some (Sum.inr r) => some ((Ex.exit 0), (St.mk [(0, (AV.v (TV.one (At.vw 0 0 sn 1)))), (1, (AV.v (TV.one (At.fn 126 [])))), (7, (AV.v (TV.one (At.int IntKind.i64 t7)))), (8, (AV.v (TV.one (At.int IntKind.i64 r.1)))), (9, (AV.v (TV.one (At.bool r.2))))] [(Blk.mk Bool.false (Body.fl FloatKind.f32 b0))]))
def zai (sn : Nat) (t7 : Int) (b0 : List Nat) (x : Option ((Int) ⊕ (Int × Bool))) : LO := (LO.two (oL x) (LO.one Ex.ret (St.mk [(4, (AV.v (TV.one (At.int IntKind.i64 ((tL x).getD default)))))] [(Blk.mk Bool.false (Body.fl FloatKind.f32 b0))])) (LO.one (Ex.exit 0) (St.mk [(0, (AV.v (TV.one (At.vw 0 0 sn 1)))), (1, (AV.v (TV.one (At.fn 126 [])))), (7, (AV.v (TV.one (At.int IntKind.i64 t7)))), (8, (AV.v (TV.one (At.int IntKind.i64 ((tR x).getD default).1)))), (9, (AV.v (TV.one (At.bool ((tR x).getD default).2))))] [(Blk.mk Bool.false (Body.fl FloatKind.f32 b0))])))
theorem zaw (sn : Nat) (t7 : Int) (b0 : List Nat) : ∀ x : Option ((Int) ⊕ (Int × Bool)), x.isSome = true → (z4c sn t7 b0) x = some (pick (zai sn t7 b0 x))
  | none, h => by cases h
  | some (Sum.inl r), _ => rfl
  | some (Sum.inr r), _ => rfl
theorem zau (sn : Nat) (t7 : Int) (t8 : Int) (b0 : List Nat) (K : Ex → St → Option (Ex × St)) : evC (R := Ex × St) Γ4 (evFn Γ4 8 8) 125 1 fi125.nt fi125.live fi125.nl 8 (findL 2 (loopsIn fi125.code)) (St.mk [(0, (AV.v (TV.one (At.vw 0 0 sn 1)))), (1, (AV.v (TV.one (At.fn 126 [])))), (7, (AV.v (TV.one (At.int IntKind.i64 t7)))), (8, (AV.v (TV.one (At.int IntKind.i64 t8))))] [(Blk.mk Bool.false (Body.fl FloatKind.f32 b0))]) K = z3f sn t7 b0 t8 (fun t8' => K .normal (St.mk [(0, (AV.v (TV.one (At.vw 0 0 sn 1)))), (1, (AV.v (TV.one (At.fn 126 [])))), (7, (AV.v (TV.one (At.int IntKind.i64 t7)))), (8, (AV.v (TV.one (At.int IntKind.i64 t8'))))] [(Blk.mk Bool.false (Body.fl FloatKind.f32 b0))])) (fun c0_ => K Ex.ret (St.mk [(4, (AV.v (TV.one (At.int IntKind.i64 c0_))))] [(Blk.mk Bool.false (Body.fl FloatKind.f32 b0))])) (fun c0_ c1_ => K (Ex.exit 0) (St.mk [(0, (AV.v (TV.one (At.vw 0 0 sn 1)))), (1, (AV.v (TV.one (At.fn 126 [])))), (7, (AV.v (TV.one (At.int IntKind.i64 t7)))), (8, (AV.v (TV.one (At.int IntKind.i64 c0_)))), (9, (AV.v (TV.one (At.bool c1_))))] [(Blk.mk Bool.false (Body.fl FloatKind.f32 b0))])) := by kernel_rfl
theorem zav (sn : Nat) (t7 : Int) (b0 : List Nat) : ∀ (n : Nat) (t8 : Int), iter 125 2 1 (evC (R := Ex × St) Γ4 (evFn Γ4 8 8) 125 1 fi125.nt fi125.live fi125.nl 8 (findL 2 (loopsIn fi125.code))) n (St.mk [(0, (AV.v (TV.one (At.vw 0 0 sn 1)))), (1, (AV.v (TV.one (At.fn 126 [])))), (7, (AV.v (TV.one (At.int IntKind.i64 t7)))), (8, (AV.v (TV.one (At.int IntKind.i64 t8))))] [(Blk.mk Bool.false (Body.fl FloatKind.f32 b0))]) (fun e st => some (e, st)) = (z4c sn t7 b0) (z1k sn t7 b0 n t8) := by
  intro n
  induction n with
  | zero => intros; rfl
  | succ n ih =>
    intro t8
    refine Eq.trans (iter_succ ..) (Eq.trans (zau sn t7 t8 b0 (nextK 125 2 1 (evC (R := Ex × St) Γ4 (evFn Γ4 8 8) 125 1 fi125.nt fi125.live fi125.nl 8 (findL 2 (loopsIn fi125.code))) n (fun e st => some (e, st)))) (Eq.trans ?_ (z9m (z4c sn t7 b0) rfl sn t7 b0 t8 (fun t8' => z1k sn t7 b0 n t8') (fun c0_ => some (Sum.inl c0_)) (fun c0_ c1_ => some (Sum.inr (c0_, c1_))))))
    exact congrArg (fun kn_ => z3f sn t7 b0 t8 kn_ (fun c0_ => (z4c sn t7 b0) (some (Sum.inl c0_))) (fun c0_ c1_ => (z4c sn t7 b0) (some (Sum.inr (c0_, c1_))))) (funext fun t8' => ih t8')
theorem z02 : LoopOne Try.prog fnTab 125 2 z03 := lp_of (Γ := Γ4) tyTab_ok (FnL.ok fnTab_ok _ _) (LpL.ok lt4_ok) (SumL.ok tb4_ok _) mixed (fi := fi125) (by kernel_rfl) (by kernel_rfl) (by
  intro lo st out hp
  unfold z03 at hp
  split at hp
  · rename_i sn t7 t8 b0
    injection hp with hp
    injection hp with h1 h2
    subst h2
    exact ⟨8, 8, big, Eq.trans (zav sn t7 b0 big t8) (zaw sn t7 b0 (z1k sn t7 b0 big t8) h1)⟩
  · cases hp)
noncomputable def tb5 : List (Nat × (List PT → Option (Bool × AV × List Blk))) := [(129, z0z), (133, z0j), (137, z0y), (139, z1p), (25, z1v), (59, z38), (64, z1u), (66, z2r), (68, z24), (78, z25), (91, z2s), (122, z3k), (131, z1t), (134, z3j), (58, z2a), (67, z2o), (111, z19), (123, z2y), (20, z14), (126, z1r), (138, z3d), (18, z1y), (46, z1n), (132, z1m), (135, z1z), (44, z2d), (90, z3h), (121, z31), (125, z07)]
noncomputable def lt5 : List ((Nat × Nat) × (Nat → St → Option (Bool × LO))) := [((20, 2), z0n), ((18, 4), z0w), ((132, 17), z0o), ((90, 5), z2k), ((125, 2), z01), ((125, 2), z03)]
noncomputable def Γ5 : Ctx := ⟨tyTab, fnTab, tblSum tb5, tblLp lt5⟩
theorem tb5_ok : SumL Try.prog tb5 := SumL.cons z0s (SumL.cons z0f (SumL.cons z0r (SumL.cons z0x (SumL.cons z12 (SumL.cons z2g (SumL.cons z13 (SumL.cons z21 (SumL.cons z1e (SumL.cons z1f (SumL.cons z22 (SumL.cons z33 (SumL.cons z15 (SumL.cons z34 (SumL.cons z1l (SumL.cons z1x (SumL.cons z0v (SumL.cons z29 (SumL.cons z0t (SumL.cons z16 (SumL.cons z2p (SumL.cons z1b (SumL.cons z11 (SumL.cons z10 (SumL.cons z1a (SumL.cons z1w (SumL.cons z2z (SumL.cons z2f (SumL.cons z06 (SumL.nil)))))))))))))))))))))))))))))
theorem lt5_ok : LpL Try.prog fnTab lt5 := LpL.cons z0i (LpL.cons z0q (LpL.cons z0k (LpL.cons z20 (LpL.cons z00 (LpL.cons z02 (LpL.nil))))))
noncomputable def z0b : List PT → Option (Bool × AV × List Blk)
  | [.one (.row 1 s_n (.fl .f32 s)), .fn 126 []] => some ((z5a s_n s), ((AV.v (TV.one (At.int IntKind.i64 (z54 s_n s)))), []))
  | _ => none
def z79 (s_n : Nat) (s : List Nat) : Option (Int) → Option (AV × List Blk)
  | some r => some ((AV.v (TV.one (At.int IntKind.i64 r))), [])
  | none => none
theorem zbf (s_n : Nat) (s : List Nat) : evFn Γ5 8 8 125 (impTs 0 [.one (.row 1 s_n (.fl .f32 s)), .fn 126 []]).1 (impTs 0 [.one (.row 1 s_n (.fl .f32 s)), .fn 126 []]).2 (expo (impTs 0 [.one (.row 1 s_n (.fl .f32 s)), .fn 126 []]).2.length) = z46 s_n s (fun c0_ => some ((AV.v (TV.one (At.int IntKind.i64 c0_))), [])) := by kernel_rfl
theorem z0a : SumOne Try.prog 125 z0b := sum_of (Γ := Γ5) (fuel := 8) (d := 8) tyTab_ok (FnL.ok fnTab_ok _ _) (LpL.ok lt5_ok) (SumL.ok tb5_ok _) mixed (by
  intro pts v news hp hc
  clear hc
  unfold z0b at hp
  split at hp
  · rename_i s_n s
    exact Eq.trans (Eq.trans (zbf s_n s) (zah (z79 s_n s) rfl s_n s (fun c0_ => some c0_))) (fin_out (o := (z79 s_n s)) (x := z47 s_n s) (d := default) (V := fun r => ((AV.v (TV.one (At.int IntKind.i64 r))), [])) (fun r => rfl) hp)
  · cases hp)
noncomputable def z37 : Nat → St → Option (Bool × LO)
  | 0, (St.mk [(4, (AV.v (TV.one (At.bool q15)))), (5, (AV.v (TV.one (At.flt FloatKind.f64 z)))), (6, (AV.v (TV.one (At.flt FloatKind.f64 u)))), (7, (AV.v (TV.one (At.flt FloatKind.f64 p)))), (8, (AV.v (TV.one (At.flt FloatKind.f64 k))))] []) => some ((z6n u p k), (LO.one (Ex.exit 0) (St.mk [(4, (AV.v (TV.one (At.bool q15)))), (5, (AV.v (TV.one (At.flt FloatKind.f64 z)))), (6, (AV.v (TV.one (At.flt FloatKind.f64 u)))), (7, (AV.v (TV.one (At.flt FloatKind.f64 (z5z u p k))))), (8, (AV.v (TV.one (At.flt FloatKind.f64 (zbz u p k))))), (25, (AV.v (TV.one (At.bool (zby u p k)))))] [])))
  | _, _ => none
def zbp (q15 : Bool) (z : Nat) (u : Nat) : Option ((Nat × Nat × Bool)) → Option (Ex × St)
  | none => none
  | some r => some ((Ex.exit 0), (St.mk [(4, (AV.v (TV.one (At.bool q15)))), (5, (AV.v (TV.one (At.flt FloatKind.f64 z)))), (6, (AV.v (TV.one (At.flt FloatKind.f64 u)))), (7, (AV.v (TV.one (At.flt FloatKind.f64 r.1)))), (8, (AV.v (TV.one (At.flt FloatKind.f64 r.2.1)))), (25, (AV.v (TV.one (At.bool r.2.2))))] []))
def zgf (q15 : Bool) (z : Nat) (u : Nat) (x : Option ((Nat × Nat × Bool))) : LO := (LO.one (Ex.exit 0) (St.mk [(4, (AV.v (TV.one (At.bool q15)))), (5, (AV.v (TV.one (At.flt FloatKind.f64 z)))), (6, (AV.v (TV.one (At.flt FloatKind.f64 u)))), (7, (AV.v (TV.one (At.flt FloatKind.f64 (x.getD default).1)))), (8, (AV.v (TV.one (At.flt FloatKind.f64 (x.getD default).2.1)))), (25, (AV.v (TV.one (At.bool (x.getD default).2.2))))] []))
theorem zgr (q15 : Bool) (z : Nat) (u : Nat) : ∀ x : Option ((Nat × Nat × Bool)), x.isSome = true → (zbp q15 z u) x = some (pick (zgf q15 z u x))
  | none, h => by cases h
  | some r, _ => rfl
theorem zgu (q15 : Bool) (z : Nat) (u : Nat) (p : Nat) (k : Nat) (K : Ex → St → Option (Ex × St)) : evC (R := Ex × St) Γ5 (evFn Γ5 8 8) 124 0 fi124.nt fi124.live fi124.nl 8 (findL 9 (loopsIn fi124.code)) (St.mk [(4, (AV.v (TV.one (At.bool q15)))), (5, (AV.v (TV.one (At.flt FloatKind.f64 z)))), (6, (AV.v (TV.one (At.flt FloatKind.f64 u)))), (7, (AV.v (TV.one (At.flt FloatKind.f64 p)))), (8, (AV.v (TV.one (At.flt FloatKind.f64 k))))] []) K = z68 u p k (fun p' k' => K .normal (St.mk [(4, (AV.v (TV.one (At.bool q15)))), (5, (AV.v (TV.one (At.flt FloatKind.f64 z)))), (6, (AV.v (TV.one (At.flt FloatKind.f64 u)))), (7, (AV.v (TV.one (At.flt FloatKind.f64 p')))), (8, (AV.v (TV.one (At.flt FloatKind.f64 k'))))] [])) (fun c0_ c1_ c2_ => K (Ex.exit 0) (St.mk [(4, (AV.v (TV.one (At.bool q15)))), (5, (AV.v (TV.one (At.flt FloatKind.f64 z)))), (6, (AV.v (TV.one (At.flt FloatKind.f64 u)))), (7, (AV.v (TV.one (At.flt FloatKind.f64 c0_)))), (8, (AV.v (TV.one (At.flt FloatKind.f64 c1_)))), (25, (AV.v (TV.one (At.bool c2_))))] [])) := by kernel_rfl
theorem zgx (q15 : Bool) (z : Nat) (u : Nat) : ∀ (n : Nat) (p : Nat) (k : Nat), iter 124 9 0 (evC (R := Ex × St) Γ5 (evFn Γ5 8 8) 124 0 fi124.nt fi124.live fi124.nl 8 (findL 9 (loopsIn fi124.code))) n (St.mk [(4, (AV.v (TV.one (At.bool q15)))), (5, (AV.v (TV.one (At.flt FloatKind.f64 z)))), (6, (AV.v (TV.one (At.flt FloatKind.f64 u)))), (7, (AV.v (TV.one (At.flt FloatKind.f64 p)))), (8, (AV.v (TV.one (At.flt FloatKind.f64 k))))] []) (fun e st => some (e, st)) = (zbp q15 z u) (z4y u n p k) := by
  intro n
  induction n with
  | zero => intros; rfl
  | succ n ih =>
    intro p k
    refine Eq.trans (iter_succ ..) (Eq.trans (zgu q15 z u p k (nextK 124 9 0 (evC (R := Ex × St) Γ5 (evFn Γ5 8 8) 124 0 fi124.nt fi124.live fi124.nl 8 (findL 9 (loopsIn fi124.code))) n (fun e st => some (e, st)))) (Eq.trans ?_ (zfc (zbp q15 z u) rfl u p k (fun p' k' => z4y u n p' k') (fun c0_ c1_ c2_ => some (c0_, c1_, c2_)))))
    exact congrArg (fun kn_ => z68 u p k kn_ (fun c0_ c1_ c2_ => (zbp q15 z u) (some (c0_, c1_, c2_)))) (funext fun p' => funext fun k' => ih p' k')
theorem z2j : LoopOne Try.prog fnTab 124 9 z37 := lp_of (Γ := Γ5) tyTab_ok (FnL.ok fnTab_ok _ _) (LpL.ok lt5_ok) (SumL.ok tb5_ok _) mixed (fi := fi124) (by kernel_rfl) (by kernel_rfl) (by
  intro lo st out hp
  unfold z37 at hp
  split at hp
  · rename_i q15 z u p k
    injection hp with hp
    injection hp with h1 h2
    subst h2
    exact ⟨8, 8, big, Eq.trans (zgx q15 z u big p k) (zgr q15 z u (z4y u big p k) h1)⟩
  · cases hp)
noncomputable def tb6 : List (Nat × (List PT → Option (Bool × AV × List Blk))) := [(129, z0z), (133, z0j), (137, z0y), (139, z1p), (25, z1v), (59, z38), (64, z1u), (66, z2r), (68, z24), (78, z25), (91, z2s), (122, z3k), (131, z1t), (134, z3j), (58, z2a), (67, z2o), (111, z19), (123, z2y), (20, z14), (126, z1r), (138, z3d), (18, z1y), (46, z1n), (132, z1m), (135, z1z), (44, z2d), (90, z3h), (121, z31), (125, z07), (125, z0b)]
noncomputable def lt6 : List ((Nat × Nat) × (Nat → St → Option (Bool × LO))) := [((20, 2), z0n), ((18, 4), z0w), ((132, 17), z0o), ((90, 5), z2k), ((125, 2), z01), ((125, 2), z03), ((124, 9), z37)]
noncomputable def Γ6 : Ctx := ⟨tyTab, fnTab, tblSum tb6, tblLp lt6⟩
theorem tb6_ok : SumL Try.prog tb6 := SumL.cons z0s (SumL.cons z0f (SumL.cons z0r (SumL.cons z0x (SumL.cons z12 (SumL.cons z2g (SumL.cons z13 (SumL.cons z21 (SumL.cons z1e (SumL.cons z1f (SumL.cons z22 (SumL.cons z33 (SumL.cons z15 (SumL.cons z34 (SumL.cons z1l (SumL.cons z1x (SumL.cons z0v (SumL.cons z29 (SumL.cons z0t (SumL.cons z16 (SumL.cons z2p (SumL.cons z1b (SumL.cons z11 (SumL.cons z10 (SumL.cons z1a (SumL.cons z1w (SumL.cons z2z (SumL.cons z2f (SumL.cons z06 (SumL.cons z0a (SumL.nil))))))))))))))))))))))))))))))
theorem lt6_ok : LpL Try.prog fnTab lt6 := LpL.cons z0i (LpL.cons z0q (LpL.cons z0k (LpL.cons z20 (LpL.cons z00 (LpL.cons z02 (LpL.cons z2j (LpL.nil)))))))
noncomputable def z05 : List PT → Option (Bool × AV × List Blk)
  | [.one (.row 1 s_n (.fl .f32 s)), .fn 111 []] => some ((z50 s_n s), ((AV.v (TV.one (At.bool (z4u s_n s)))), []))
  | _ => none
def z6p (s_n : Nat) (s : List Nat) : Option (Bool) → Option (AV × List Blk)
  | some r => some ((AV.v (TV.one (At.bool r))), [])
  | none => none
theorem zal (s_n : Nat) (s : List Nat) : evFn Γ6 8 8 110 (impTs 0 [.one (.row 1 s_n (.fl .f32 s)), .fn 111 []]).1 (impTs 0 [.one (.row 1 s_n (.fl .f32 s)), .fn 111 []]).2 (expo (impTs 0 [.one (.row 1 s_n (.fl .f32 s)), .fn 111 []]).2.length) = z3x s_n s (fun c0_ => some ((AV.v (TV.one (At.bool c0_))), [])) := by kernel_rfl
theorem z04 : SumOne Try.prog 110 z05 := sum_of (Γ := Γ6) (fuel := 8) (d := 8) tyTab_ok (FnL.ok fnTab_ok _ _) (LpL.ok lt6_ok) (SumL.ok tb6_ok _) mixed (by
  intro pts v news hp hc
  clear hc
  unfold z05 at hp
  split at hp
  · rename_i s_n s
    exact Eq.trans (Eq.trans (zal s_n s) (z97 (z6p s_n s) rfl s_n s (fun c0_ => some c0_))) (fin_out (o := (z6p s_n s)) (x := z3w s_n s) (d := default) (V := fun r => ((AV.v (TV.one (At.bool r))), [])) (fun r => rfl) hp)
  · cases hp)
noncomputable def z09 : List PT → Option (Bool × AV × List Blk)
  | [.one (.row 1 s_n (.fl .f32 s)), .fn 126 []] => some ((z51 s_n s), ((AV.v (TV.one (At.bool (z4x s_n s)))), []))
  | _ => none
def z6u (s_n : Nat) (s : List Nat) : Option (Bool) → Option (AV × List Blk)
  | some r => some ((AV.v (TV.one (At.bool r))), [])
  | none => none
theorem zat (s_n : Nat) (s : List Nat) : evFn Γ6 8 8 110 (impTs 0 [.one (.row 1 s_n (.fl .f32 s)), .fn 126 []]).1 (impTs 0 [.one (.row 1 s_n (.fl .f32 s)), .fn 126 []]).2 (expo (impTs 0 [.one (.row 1 s_n (.fl .f32 s)), .fn 126 []]).2.length) = z3z s_n s (fun c0_ => some ((AV.v (TV.one (At.bool c0_))), [])) := by kernel_rfl
theorem z08 : SumOne Try.prog 110 z09 := sum_of (Γ := Γ6) (fuel := 8) (d := 8) tyTab_ok (FnL.ok fnTab_ok _ _) (LpL.ok lt6_ok) (SumL.ok tb6_ok _) mixed (by
  intro pts v news hp hc
  clear hc
  unfold z09 at hp
  split at hp
  · rename_i s_n s
    exact Eq.trans (Eq.trans (zat s_n s) (z9w (z6u s_n s) rfl s_n s (fun c0_ => some c0_))) (fin_out (o := (z6u s_n s)) (x := z40 s_n s) (d := default) (V := fun r => ((AV.v (TV.one (At.bool r))), [])) (fun r => rfl) hp)
  · cases hp)
noncomputable def z3o : List PT → Option (Bool × AV × List Blk)
  | [.one (.s (.flt .f64 q0h))] => some ((zci q0h), ((AV.v (TV.one (At.flt FloatKind.f64 (zbm q0h)))), []))
  | _ => none
def zfw (q0h : Nat) : Option (Nat) → Option (AV × List Blk)
  | some r => some ((AV.v (TV.one (At.flt FloatKind.f64 r))), [])
  | none => none
theorem zha (q0h : Nat) : evFn Γ6 8 8 124 (impTs 0 [.one (.s (.flt .f64 q0h))]).1 (impTs 0 [.one (.s (.flt .f64 q0h))]).2 (expo (impTs 0 [.one (.s (.flt .f64 q0h))]).2.length) = zbe q0h (fun c0_ => some ((AV.v (TV.one (At.flt FloatKind.f64 c0_))), [])) := by kernel_rfl
theorem z3g : SumOne Try.prog 124 z3o := sum_of (Γ := Γ6) (fuel := 8) (d := 8) tyTab_ok (FnL.ok fnTab_ok _ _) (LpL.ok lt6_ok) (SumL.ok tb6_ok _) mixed (by
  intro pts v news hp hc
  clear hc
  unfold z3o at hp
  split at hp
  · rename_i q0h
    exact Eq.trans (Eq.trans (zha q0h) (zgo (zfw q0h) rfl q0h (fun c0_ => some c0_))) (fin_out (o := (zfw q0h)) (x := zbc q0h) (d := default) (V := fun r => ((AV.v (TV.one (At.flt FloatKind.f64 r))), [])) (fun r => rfl) hp)
  · cases hp)
noncomputable def z23 : Nat → St → Option (Bool × LO)
  | 0, (St.mk [(0, (AV.v (TV.one (At.int IntKind.i64 q00)))), (2, (AV.v (TV.one (At.ptr 0 0 3)))), (3, (AV.v (TV.one (At.ptr 1 0 3)))), (4, (AV.v (TV.one (At.int IntKind.i64 k))))] [(Blk.mk Bool.true (Body.cells [At.nilsl, At.nilsl, At.nilsl])), (Blk.mk Bool.true (Body.cells [(At.sl 2 0 q0q 1), (At.sl 3 0 q0s 1), (At.sl 4 0 q0r 1)])), (Blk.mk Bool.true (Body.fl FloatKind.f32 b2)), (Blk.mk Bool.true (Body.fl FloatKind.f32 b3)), (Blk.mk Bool.true (Body.fl FloatKind.f32 b4))]) => some ((z9h q00 k q0q q0s q0r b2 b3 b4), (LO.one (Ex.exit 0) (St.mk [(0, (AV.v (TV.one (At.int IntKind.i64 q00)))), (2, (AV.v (TV.one (At.ptr 0 0 3)))), (3, (AV.v (TV.one (At.ptr 1 0 3)))), (4, (AV.v (TV.one (At.int IntKind.i64 (zaj q00 k q0q q0s q0r b2 b3 b4))))), (11, (AV.v (TV.one (At.bool (zaf q00 k q0q q0s q0r b2 b3 b4)))))] [(Blk.mk Bool.true (Body.cells [At.nilsl, At.nilsl, At.nilsl])), (Blk.mk Bool.true (Body.cells [(At.sl 2 0 (z7y q00 k q0q q0s q0r b2 b3 b4) 1), (At.sl 3 0 (z85 q00 k q0q q0s q0r b2 b3 b4) 1), (At.sl 4 0 (z82 q00 k q0q q0s q0r b2 b3 b4) 1)])), (Blk.mk Bool.true (Body.fl FloatKind.f32 (z7z q00 k q0q q0s q0r b2 b3 b4))), (Blk.mk Bool.true (Body.fl FloatKind.f32 (z83 q00 k q0q q0s q0r b2 b3 b4))), (Blk.mk Bool.true (Body.fl FloatKind.f32 (z89 q00 k q0q q0s q0r b2 b3 b4)))])))
  | _, _ => none
def z9v (q00 : Int) : Option ((Int × Bool × Nat × Nat × Nat × (List Nat) × (List Nat) × (List Nat))) → Option (Ex × St)
  | none => none
  | some r => some ((Ex.exit 0), (St.mk [(0, (AV.v (TV.one (At.int IntKind.i64 q00)))), (2, (AV.v (TV.one (At.ptr 0 0 3)))), (3, (AV.v (TV.one (At.ptr 1 0 3)))), (4, (AV.v (TV.one (At.int IntKind.i64 r.1)))), (11, (AV.v (TV.one (At.bool r.2.1))))] [(Blk.mk Bool.true (Body.cells [At.nilsl, At.nilsl, At.nilsl])), (Blk.mk Bool.true (Body.cells [(At.sl 2 0 r.2.2.1 1), (At.sl 3 0 r.2.2.2.1 1), (At.sl 4 0 r.2.2.2.2.1 1)])), (Blk.mk Bool.true (Body.fl FloatKind.f32 r.2.2.2.2.2.1)), (Blk.mk Bool.true (Body.fl FloatKind.f32 r.2.2.2.2.2.2.1)), (Blk.mk Bool.true (Body.fl FloatKind.f32 r.2.2.2.2.2.2.2))]))
def zf1 (q00 : Int) (x : Option ((Int × Bool × Nat × Nat × Nat × (List Nat) × (List Nat) × (List Nat)))) : LO := (LO.one (Ex.exit 0) (St.mk [(0, (AV.v (TV.one (At.int IntKind.i64 q00)))), (2, (AV.v (TV.one (At.ptr 0 0 3)))), (3, (AV.v (TV.one (At.ptr 1 0 3)))), (4, (AV.v (TV.one (At.int IntKind.i64 (x.getD default).1)))), (11, (AV.v (TV.one (At.bool (x.getD default).2.1))))] [(Blk.mk Bool.true (Body.cells [At.nilsl, At.nilsl, At.nilsl])), (Blk.mk Bool.true (Body.cells [(At.sl 2 0 (x.getD default).2.2.1 1), (At.sl 3 0 (x.getD default).2.2.2.1 1), (At.sl 4 0 (x.getD default).2.2.2.2.1 1)])), (Blk.mk Bool.true (Body.fl FloatKind.f32 (x.getD default).2.2.2.2.2.1)), (Blk.mk Bool.true (Body.fl FloatKind.f32 (x.getD default).2.2.2.2.2.2.1)), (Blk.mk Bool.true (Body.fl FloatKind.f32 (x.getD default).2.2.2.2.2.2.2))]))
theorem zf9 (q00 : Int) : ∀ x : Option ((Int × Bool × Nat × Nat × Nat × (List Nat) × (List Nat) × (List Nat))), x.isSome = true → (z9v q00) x = some (pick (zf1 q00 x))
  | none, h => by cases h
  | some r, _ => rfl
theorem zfb (q00 : Int) (k : Int) (q0q : Nat) (q0s : Nat) (q0r : Nat) (b2 : List Nat) (b3 : List Nat) (b4 : List Nat) (K : Ex → St → Option (Ex × St)) : evC (R := Ex × St) Γ6 (evFn Γ6 8 8) 103 0 fi103.nt fi103.live fi103.nl 8 (findL 3 (loopsIn fi103.code)) (St.mk [(0, (AV.v (TV.one (At.int IntKind.i64 q00)))), (2, (AV.v (TV.one (At.ptr 0 0 3)))), (3, (AV.v (TV.one (At.ptr 1 0 3)))), (4, (AV.v (TV.one (At.int IntKind.i64 k))))] [(Blk.mk Bool.true (Body.cells [At.nilsl, At.nilsl, At.nilsl])), (Blk.mk Bool.true (Body.cells [(At.sl 2 0 q0q 1), (At.sl 3 0 q0s 1), (At.sl 4 0 q0r 1)])), (Blk.mk Bool.true (Body.fl FloatKind.f32 b2)), (Blk.mk Bool.true (Body.fl FloatKind.f32 b3)), (Blk.mk Bool.true (Body.fl FloatKind.f32 b4))]) K = z5i q00 k q0q q0s q0r b2 b3 b4 (fun k' q0q' q0s' q0r' b2' b3' b4' => K .normal (St.mk [(0, (AV.v (TV.one (At.int IntKind.i64 q00)))), (2, (AV.v (TV.one (At.ptr 0 0 3)))), (3, (AV.v (TV.one (At.ptr 1 0 3)))), (4, (AV.v (TV.one (At.int IntKind.i64 k'))))] [(Blk.mk Bool.true (Body.cells [At.nilsl, At.nilsl, At.nilsl])), (Blk.mk Bool.true (Body.cells [(At.sl 2 0 q0q' 1), (At.sl 3 0 q0s' 1), (At.sl 4 0 q0r' 1)])), (Blk.mk Bool.true (Body.fl FloatKind.f32 b2')), (Blk.mk Bool.true (Body.fl FloatKind.f32 b3')), (Blk.mk Bool.true (Body.fl FloatKind.f32 b4'))])) (fun c0_ c1_ c2_ c3_ c4_ c5_ c6_ c7_ => K (Ex.exit 0) (St.mk [(0, (AV.v (TV.one (At.int IntKind.i64 q00)))), (2, (AV.v (TV.one (At.ptr 0 0 3)))), (3, (AV.v (TV.one (At.ptr 1 0 3)))), (4, (AV.v (TV.one (At.int IntKind.i64 c0_)))), (11, (AV.v (TV.one (At.bool c1_))))] [(Blk.mk Bool.true (Body.cells [At.nilsl, At.nilsl, At.nilsl])), (Blk.mk Bool.true (Body.cells [(At.sl 2 0 c2_ 1), (At.sl 3 0 c3_ 1), (At.sl 4 0 c4_ 1)])), (Blk.mk Bool.true (Body.fl FloatKind.f32 c5_)), (Blk.mk Bool.true (Body.fl FloatKind.f32 c6_)), (Blk.mk Bool.true (Body.fl FloatKind.f32 c7_))])) := by kernel_rfl
theorem zff (q00 : Int) : ∀ (n : Nat) (k : Int) (q0q : Nat) (q0s : Nat) (q0r : Nat) (b2 : List Nat) (b3 : List Nat) (b4 : List Nat), iter 103 3 0 (evC (R := Ex × St) Γ6 (evFn Γ6 8 8) 103 0 fi103.nt fi103.live fi103.nl 8 (findL 3 (loopsIn fi103.code))) n (St.mk [(0, (AV.v (TV.one (At.int IntKind.i64 q00)))), (2, (AV.v (TV.one (At.ptr 0 0 3)))), (3, (AV.v (TV.one (At.ptr 1 0 3)))), (4, (AV.v (TV.one (At.int IntKind.i64 k))))] [(Blk.mk Bool.true (Body.cells [At.nilsl, At.nilsl, At.nilsl])), (Blk.mk Bool.true (Body.cells [(At.sl 2 0 q0q 1), (At.sl 3 0 q0s 1), (At.sl 4 0 q0r 1)])), (Blk.mk Bool.true (Body.fl FloatKind.f32 b2)), (Blk.mk Bool.true (Body.fl FloatKind.f32 b3)), (Blk.mk Bool.true (Body.fl FloatKind.f32 b4))]) (fun e st => some (e, st)) = (z9v q00) (z3e q00 n k q0q q0s q0r b2 b3 b4) := by
  intro n
  induction n with
  | zero => intros; rfl
  | succ n ih =>
    intro k q0q q0s q0r b2 b3 b4
    refine Eq.trans (iter_succ ..) (Eq.trans (zfb q00 k q0q q0s q0r b2 b3 b4 (nextK 103 3 0 (evC (R := Ex × St) Γ6 (evFn Γ6 8 8) 103 0 fi103.nt fi103.live fi103.nl 8 (findL 3 (loopsIn fi103.code))) n (fun e st => some (e, st)))) (Eq.trans ?_ (ze2 (z9v q00) rfl q00 k q0q q0s q0r b2 b3 b4 (fun k' q0q' q0s' q0r' b2' b3' b4' => z3e q00 n k' q0q' q0s' q0r' b2' b3' b4') (fun c0_ c1_ c2_ c3_ c4_ c5_ c6_ c7_ => some (c0_, c1_, c2_, c3_, c4_, c5_, c6_, c7_)))))
    exact congrArg (fun kn_ => z5i q00 k q0q q0s q0r b2 b3 b4 kn_ (fun c0_ c1_ c2_ c3_ c4_ c5_ c6_ c7_ => (z9v q00) (some (c0_, c1_, c2_, c3_, c4_, c5_, c6_, c7_)))) (funext fun k' => funext fun q0q' => funext fun q0s' => funext fun q0r' => funext fun b2' => funext fun b3' => funext fun b4' => ih k' q0q' q0s' q0r' b2' b3' b4')
theorem z1o : LoopOne Try.prog fnTab 103 3 z23 := lp_of (Γ := Γ6) tyTab_ok (FnL.ok fnTab_ok _ _) (LpL.ok lt6_ok) (SumL.ok tb6_ok _) mixed (fi := fi103) (by kernel_rfl) (by kernel_rfl) (by
  intro lo st out hp
  unfold z23 at hp
  split at hp
  · rename_i q00 k q0q q0s q0r b2 b3 b4
    injection hp with hp
    injection hp with h1 h2
    subst h2
    exact ⟨8, 8, big, Eq.trans (zff q00 big k q0q q0s q0r b2 b3 b4) (zf9 q00 (z3e q00 big k q0q q0s q0r b2 b3 b4) h1)⟩
  · cases hp)
noncomputable def tb7 : List (Nat × (List PT → Option (Bool × AV × List Blk))) := [(129, z0z), (133, z0j), (137, z0y), (139, z1p), (25, z1v), (59, z38), (64, z1u), (66, z2r), (68, z24), (78, z25), (91, z2s), (122, z3k), (131, z1t), (134, z3j), (58, z2a), (67, z2o), (111, z19), (123, z2y), (20, z14), (126, z1r), (138, z3d), (18, z1y), (46, z1n), (132, z1m), (135, z1z), (44, z2d), (90, z3h), (121, z31), (125, z07), (125, z0b), (110, z05), (110, z09), (124, z3o)]
noncomputable def lt7 : List ((Nat × Nat) × (Nat → St → Option (Bool × LO))) := [((20, 2), z0n), ((18, 4), z0w), ((132, 17), z0o), ((90, 5), z2k), ((125, 2), z01), ((125, 2), z03), ((124, 9), z37), ((103, 3), z23)]
noncomputable def Γ7 : Ctx := ⟨tyTab, fnTab, tblSum tb7, tblLp lt7⟩
theorem tb7_ok : SumL Try.prog tb7 := SumL.cons z0s (SumL.cons z0f (SumL.cons z0r (SumL.cons z0x (SumL.cons z12 (SumL.cons z2g (SumL.cons z13 (SumL.cons z21 (SumL.cons z1e (SumL.cons z1f (SumL.cons z22 (SumL.cons z33 (SumL.cons z15 (SumL.cons z34 (SumL.cons z1l (SumL.cons z1x (SumL.cons z0v (SumL.cons z29 (SumL.cons z0t (SumL.cons z16 (SumL.cons z2p (SumL.cons z1b (SumL.cons z11 (SumL.cons z10 (SumL.cons z1a (SumL.cons z1w (SumL.cons z2z (SumL.cons z2f (SumL.cons z06 (SumL.cons z0a (SumL.cons z04 (SumL.cons z08 (SumL.cons z3g (SumL.nil)))))))))))))))))))))))))))))))))
theorem lt7_ok : LpL Try.prog fnTab lt7 := LpL.cons z0i (LpL.cons z0q (LpL.cons z0k (LpL.cons z20 (LpL.cons z00 (LpL.cons z02 (LpL.cons z2j (LpL.cons z1o (LpL.nil))))))))
noncomputable def z2x : List PT → Option (Bool × AV × List Blk)
  | [.one (.row 1 q0p (.fl .f32 q12))] => some ((zb5 q0p q12), ((AV.v (TV.one (At.bool (za9 q0p q12)))), []))
  | _ => none
def zd3 (q0p : Nat) (q12 : List Nat) : Option (Bool) → Option (AV × List Blk)
  | some r => some ((AV.v (TV.one (At.bool r))), [])
  | none => none
theorem zg3 (q0p : Nat) (q12 : List Nat) : evFn Γ7 8 8 69 (impTs 0 [.one (.row 1 q0p (.fl .f32 q12))]).1 (impTs 0 [.one (.row 1 q0p (.fl .f32 q12))]).2 (expo (impTs 0 [.one (.row 1 q0p (.fl .f32 q12))]).2.length) = z7g q0p q12 (fun c0_ => some ((AV.v (TV.one (At.bool c0_))), [])) := by kernel_rfl
theorem z2b : SumOne Try.prog 69 z2x := sum_of (Γ := Γ7) (fuel := 8) (d := 8) tyTab_ok (FnL.ok fnTab_ok _ _) (LpL.ok lt7_ok) (SumL.ok tb7_ok _) mixed (by
  intro pts v news hp hc
  clear hc
  unfold z2x at hp
  split at hp
  · rename_i q0p q12
    exact Eq.trans (Eq.trans (zg3 q0p q12) (zem (zd3 q0p q12) rfl q0p q12 (fun c0_ => some c0_))) (fin_out (o := (zd3 q0p q12)) (x := z7b q0p q12) (d := default) (V := fun r => ((AV.v (TV.one (At.bool r))), [])) (fun r => rfl) hp)
  · cases hp)
noncomputable def z36 : List PT → Option (Bool × AV × List Blk)
  | [.one (.s (.int .i64 q00))] => some ((zbh q00), ((AV.v (TV.agg [(At.sl 0 0 (z66 q00) 1), (At.sl 1 0 (z64 q00) 1), (At.sl 2 0 (z63 q00) 1)])), [(Blk.mk Bool.true (Body.fl FloatKind.f32 (z7m q00))), (Blk.mk Bool.true (Body.fl FloatKind.f32 (z7i q00))), (Blk.mk Bool.true (Body.fl FloatKind.f32 (z7h q00)))]))
  | _ => none
def zdn (q00 : Int) : Option (Nat × Nat × Nat × (List Nat) × (List Nat) × (List Nat)) → Option (AV × List Blk)
  | some r => some ((AV.v (TV.agg [(At.sl 0 0 r.1 1), (At.sl 1 0 r.2.1 1), (At.sl 2 0 r.2.2.1 1)])), [(Blk.mk Bool.true (Body.fl FloatKind.f32 r.2.2.2.1)), (Blk.mk Bool.true (Body.fl FloatKind.f32 r.2.2.2.2.1)), (Blk.mk Bool.true (Body.fl FloatKind.f32 r.2.2.2.2.2))])
  | none => none
theorem zgn (q00 : Int) : evFn Γ7 8 8 103 (impTs 0 [.one (.s (.int .i64 q00))]).1 (impTs 0 [.one (.s (.int .i64 q00))]).2 (expo (impTs 0 [.one (.s (.int .i64 q00))]).2.length) = z80 q00 (fun c0_ c1_ c2_ c3_ c4_ c5_ => some ((AV.v (TV.agg [(At.sl 0 0 c0_ 1), (At.sl 1 0 c1_ 1), (At.sl 2 0 c2_ 1)])), [(Blk.mk Bool.true (Body.fl FloatKind.f32 c3_)), (Blk.mk Bool.true (Body.fl FloatKind.f32 c4_)), (Blk.mk Bool.true (Body.fl FloatKind.f32 c5_))])) := by kernel_rfl
theorem z2n : SumOne Try.prog 103 z36 := sum_of (Γ := Γ7) (fuel := 8) (d := 8) tyTab_ok (FnL.ok fnTab_ok _ _) (LpL.ok lt7_ok) (SumL.ok tb7_ok _) mixed (by
  intro pts v news hp hc
  clear hc
  unfold z36 at hp
  split at hp
  · rename_i q00
    exact Eq.trans (Eq.trans (zgn q00) (zez (zdn q00) rfl q00 (fun c0_ c1_ c2_ c3_ c4_ c5_ => some (c0_, c1_, c2_, c3_, c4_, c5_)))) (fin_out (o := (zdn q00)) (x := z5k q00) (d := default) (V := fun r => ((AV.v (TV.agg [(At.sl 0 0 r.1 1), (At.sl 1 0 r.2.1 1), (At.sl 2 0 r.2.2.1 1)])), [(Blk.mk Bool.true (Body.fl FloatKind.f32 r.2.2.2.1)), (Blk.mk Bool.true (Body.fl FloatKind.f32 r.2.2.2.2.1)), (Blk.mk Bool.true (Body.fl FloatKind.f32 r.2.2.2.2.2))])) (fun r => rfl) hp)
  · cases hp)
noncomputable def z2v : List PT → Option (Bool × AV × List Blk)
  | [.one (.s (.flt .f32 x))] => some ((z6l x), ((AV.v (TV.one (At.flt FloatKind.f32 (z45 x)))), []))
  | _ => none
def zcz (x : Nat) : Option (Nat) → Option (AV × List Blk)
  | some r => some ((AV.v (TV.one (At.flt FloatKind.f32 r))), [])
  | none => none
theorem zg9 (x : Nat) : evFn Γ7 8 8 104 (impTs 0 [.one (.s (.flt .f32 x))]).1 (impTs 0 [.one (.s (.flt .f32 x))]).2 (expo (impTs 0 [.one (.s (.flt .f32 x))]).2.length) = z7c x (fun c0_ => some ((AV.v (TV.one (At.flt FloatKind.f32 c0_))), [])) := by kernel_rfl
theorem z2c : SumOne Try.prog 104 z2v := sum_of (Γ := Γ7) (fuel := 8) (d := 8) tyTab_ok (FnL.ok fnTab_ok _ _) (LpL.ok lt7_ok) (SumL.ok tb7_ok _) mixed (by
  intro pts v news hp hc
  clear hc
  unfold z2v at hp
  split at hp
  · rename_i x
    exact Eq.trans (Eq.trans (zg9 x) (zee (zcz x) rfl x (fun c0_ => some c0_))) (fin_out (o := (zcz x)) (x := z7k x) (d := default) (V := fun r => ((AV.v (TV.one (At.flt FloatKind.f32 r))), [])) (fun r => rfl) hp)
  · cases hp)
noncomputable def z35 : List PT → Option (Bool × AV × List Blk)
  | [.one (.row 1 q0p (.fl .f32 q12))] => some ((zbi q0p q12), ((AV.v (TV.one (At.bool (zb2 q0p q12)))), []))
  | _ => none
def zdl (q0p : Nat) (q12 : List Nat) : Option (Bool) → Option (AV × List Blk)
  | some r => some ((AV.v (TV.one (At.bool r))), [])
  | none => none
theorem zgg (q0p : Nat) (q12 : List Nat) : evFn Γ7 8 8 112 (impTs 0 [.one (.row 1 q0p (.fl .f32 q12))]).1 (impTs 0 [.one (.row 1 q0p (.fl .f32 q12))]).2 (expo (impTs 0 [.one (.row 1 q0p (.fl .f32 q12))]).2.length) = z88 q0p q12 (fun c0_ => some ((AV.v (TV.one (At.bool c0_))), [])) := by kernel_rfl
theorem z2m : SumOne Try.prog 112 z35 := sum_of (Γ := Γ7) (fuel := 8) (d := 8) tyTab_ok (FnL.ok fnTab_ok _ _) (LpL.ok lt7_ok) (SumL.ok tb7_ok _) mixed (by
  intro pts v news hp hc
  clear hc
  unfold z35 at hp
  split at hp
  · rename_i q0p q12
    exact Eq.trans (Eq.trans (zgg q0p q12) (zf3 (zdl q0p q12) rfl q0p q12 (fun c0_ => some c0_))) (fin_out (o := (zdl q0p q12)) (x := z87 q0p q12) (d := default) (V := fun r => ((AV.v (TV.one (At.bool r))), [])) (fun r => rfl) hp)
  · cases hp)
noncomputable def tb8 : List (Nat × (List PT → Option (Bool × AV × List Blk))) := [(129, z0z), (133, z0j), (137, z0y), (139, z1p), (25, z1v), (59, z38), (64, z1u), (66, z2r), (68, z24), (78, z25), (91, z2s), (122, z3k), (131, z1t), (134, z3j), (58, z2a), (67, z2o), (111, z19), (123, z2y), (20, z14), (126, z1r), (138, z3d), (18, z1y), (46, z1n), (132, z1m), (135, z1z), (44, z2d), (90, z3h), (121, z31), (125, z07), (125, z0b), (110, z05), (110, z09), (124, z3o), (69, z2x), (103, z36), (104, z2v), (112, z35)]
noncomputable def lt8 : List ((Nat × Nat) × (Nat → St → Option (Bool × LO))) := [((20, 2), z0n), ((18, 4), z0w), ((132, 17), z0o), ((90, 5), z2k), ((125, 2), z01), ((125, 2), z03), ((124, 9), z37), ((103, 3), z23)]
noncomputable def Γ8 : Ctx := ⟨tyTab, fnTab, tblSum tb8, tblLp lt8⟩
theorem tb8_ok : SumL Try.prog tb8 := SumL.cons z0s (SumL.cons z0f (SumL.cons z0r (SumL.cons z0x (SumL.cons z12 (SumL.cons z2g (SumL.cons z13 (SumL.cons z21 (SumL.cons z1e (SumL.cons z1f (SumL.cons z22 (SumL.cons z33 (SumL.cons z15 (SumL.cons z34 (SumL.cons z1l (SumL.cons z1x (SumL.cons z0v (SumL.cons z29 (SumL.cons z0t (SumL.cons z16 (SumL.cons z2p (SumL.cons z1b (SumL.cons z11 (SumL.cons z10 (SumL.cons z1a (SumL.cons z1w (SumL.cons z2z (SumL.cons z2f (SumL.cons z06 (SumL.cons z0a (SumL.cons z04 (SumL.cons z08 (SumL.cons z3g (SumL.cons z2b (SumL.cons z2n (SumL.cons z2c (SumL.cons z2m (SumL.nil)))))))))))))))))))))))))))))))))))))
theorem lt8_ok : LpL Try.prog fnTab lt8 := LpL.cons z0i (LpL.cons z0q (LpL.cons z0k (LpL.cons z20 (LpL.cons z00 (LpL.cons z02 (LpL.cons z2j (LpL.cons z1o (LpL.nil))))))))
noncomputable def z26 : List PT → Option (Bool × AV × List Blk)
  | [.one (.s (.int .i64 q00))] => some ((z91 q00), ((AV.tup [(TV.agg [(At.sl 0 0 (z4g q00) 1), (At.sl 1 0 (z4e q00) 1), (At.sl 2 0 (z4d q00) 1)]), (TV.one (At.bool (z6v q00)))]), [(Blk.mk Bool.true (Body.fl FloatKind.f32 (z5s q00))), (Blk.mk Bool.true (Body.fl FloatKind.f32 (z5t q00))), (Blk.mk Bool.true (Body.fl FloatKind.f32 (z5u q00)))]))
  | _ => none
def zce (q00 : Int) : Option (Nat × Nat × Nat × Bool × (List Nat) × (List Nat) × (List Nat)) → Option (AV × List Blk)
  | some r => some ((AV.tup [(TV.agg [(At.sl 0 0 r.1 1), (At.sl 1 0 r.2.1 1), (At.sl 2 0 r.2.2.1 1)]), (TV.one (At.bool r.2.2.2.1))]), [(Blk.mk Bool.true (Body.fl FloatKind.f32 r.2.2.2.2.1)), (Blk.mk Bool.true (Body.fl FloatKind.f32 r.2.2.2.2.2.1)), (Blk.mk Bool.true (Body.fl FloatKind.f32 r.2.2.2.2.2.2))])
  | none => none
theorem zer (q00 : Int) : evFn Γ8 8 8 53 (impTs 0 [.one (.s (.int .i64 q00))]).1 (impTs 0 [.one (.s (.int .i64 q00))]).2 (expo (impTs 0 [.one (.s (.int .i64 q00))]).2.length) = z6b q00 (fun c0_ c1_ c2_ c3_ c4_ c5_ c6_ => some ((AV.tup [(TV.agg [(At.sl 0 0 c0_ 1), (At.sl 1 0 c1_ 1), (At.sl 2 0 c2_ 1)]), (TV.one (At.bool c3_))]), [(Blk.mk Bool.true (Body.fl FloatKind.f32 c4_)), (Blk.mk Bool.true (Body.fl FloatKind.f32 c5_)), (Blk.mk Bool.true (Body.fl FloatKind.f32 c6_))])) := by kernel_rfl
theorem z1s : SumOne Try.prog 53 z26 := sum_of (Γ := Γ8) (fuel := 8) (d := 8) tyTab_ok (FnL.ok fnTab_ok _ _) (LpL.ok lt8_ok) (SumL.ok tb8_ok _) mixed (by
  intro pts v news hp hc
  clear hc
  unfold z26 at hp
  split at hp
  · rename_i q00
    exact Eq.trans (Eq.trans (zer q00) (zdb (zce q00) rfl q00 (fun c0_ c1_ c2_ c3_ c4_ c5_ c6_ => some (c0_, c1_, c2_, c3_, c4_, c5_, c6_)))) (fin_out (o := (zce q00)) (x := z4b q00) (d := default) (V := fun r => ((AV.tup [(TV.agg [(At.sl 0 0 r.1 1), (At.sl 1 0 r.2.1 1), (At.sl 2 0 r.2.2.1 1)]), (TV.one (At.bool r.2.2.2.1))]), [(Blk.mk Bool.true (Body.fl FloatKind.f32 r.2.2.2.2.1)), (Blk.mk Bool.true (Body.fl FloatKind.f32 r.2.2.2.2.2.1)), (Blk.mk Bool.true (Body.fl FloatKind.f32 r.2.2.2.2.2.2))])) (fun r => rfl) hp)
  · cases hp)
noncomputable def tb9 : List (Nat × (List PT → Option (Bool × AV × List Blk))) := [(129, z0z), (133, z0j), (137, z0y), (139, z1p), (25, z1v), (59, z38), (64, z1u), (66, z2r), (68, z24), (78, z25), (91, z2s), (122, z3k), (131, z1t), (134, z3j), (58, z2a), (67, z2o), (111, z19), (123, z2y), (20, z14), (126, z1r), (138, z3d), (18, z1y), (46, z1n), (132, z1m), (135, z1z), (44, z2d), (90, z3h), (121, z31), (125, z07), (125, z0b), (110, z05), (110, z09), (124, z3o), (69, z2x), (103, z36), (104, z2v), (112, z35), (53, z26)]
noncomputable def lt9 : List ((Nat × Nat) × (Nat → St → Option (Bool × LO))) := [((20, 2), z0n), ((18, 4), z0w), ((132, 17), z0o), ((90, 5), z2k), ((125, 2), z01), ((125, 2), z03), ((124, 9), z37), ((103, 3), z23)]
noncomputable def Γ9 : Ctx := ⟨tyTab, fnTab, tblSum tb9, tblLp lt9⟩
theorem tb9_ok : SumL Try.prog tb9 := SumL.cons z0s (SumL.cons z0f (SumL.cons z0r (SumL.cons z0x (SumL.cons z12 (SumL.cons z2g (SumL.cons z13 (SumL.cons z21 (SumL.cons z1e (SumL.cons z1f (SumL.cons z22 (SumL.cons z33 (SumL.cons z15 (SumL.cons z34 (SumL.cons z1l (SumL.cons z1x (SumL.cons z0v (SumL.cons z29 (SumL.cons z0t (SumL.cons z16 (SumL.cons z2p (SumL.cons z1b (SumL.cons z11 (SumL.cons z10 (SumL.cons z1a (SumL.cons z1w (SumL.cons z2z (SumL.cons z2f (SumL.cons z06 (SumL.cons z0a (SumL.cons z04 (SumL.cons z08 (SumL.cons z3g (SumL.cons z2b (SumL.cons z2n (SumL.cons z2c (SumL.cons z2m (SumL.cons z1s (SumL.nil))))))))))))))))))))))))))))))))))))))
theorem lt9_ok : LpL Try.prog fnTab lt9 := LpL.cons z0i (LpL.cons z0q (LpL.cons z0k (LpL.cons z20 (LpL.cons z00 (LpL.cons z02 (LpL.cons z2j (LpL.cons z1o (LpL.nil))))))))
noncomputable def z1j : Nat → St → Option (Bool × LO)
  | 3, (St.mk [(1, (AV.v (TV.one (At.ptr 3 0 3)))), (42, (AV.v (TV.one (At.vw 0 0 q10 1)))), (43, (AV.v (TV.one (At.int IntKind.i64 t43)))), (44, (AV.v (TV.one (At.int IntKind.i64 t44))))] [(Blk.mk Bool.false (Body.fl FloatKind.f32 b0)), (Blk.mk Bool.false (Body.fl FloatKind.f32 b1)), (Blk.mk Bool.false (Body.fl FloatKind.f32 b2)), (Blk.mk Bool.true (Body.cells [(At.vw 0 0 q0d 1), (At.vw 1 0 q0j 1), (At.vw 2 0 q0i 1)]))]) => some ((z5l q10 t43 b0 q0d t44), (LO.two (z5b q10 t43 b0 q0d t44) (LO.one Ex.ret (St.mk [(2, (AV.v (TV.one (At.bool Bool.false))))] [(Blk.mk Bool.false (Body.fl FloatKind.f32 b0)), (Blk.mk Bool.false (Body.fl FloatKind.f32 b1)), (Blk.mk Bool.false (Body.fl FloatKind.f32 b2))])) (LO.one (Ex.exit 0) (St.mk [(1, (AV.v (TV.one (At.ptr 3 0 3)))), (42, (AV.v (TV.one (At.vw 0 0 q10 1)))), (43, (AV.v (TV.one (At.int IntKind.i64 t43)))), (44, (AV.v (TV.one (At.int IntKind.i64 (z8m q10 t43 b0 q0d t44))))), (45, (AV.v (TV.one (At.bool (z8o q10 t43 b0 q0d t44)))))] [(Blk.mk Bool.false (Body.fl FloatKind.f32 b0)), (Blk.mk Bool.false (Body.fl FloatKind.f32 b1)), (Blk.mk Bool.false (Body.fl FloatKind.f32 b2)), (Blk.mk Bool.true (Body.cells [(At.vw 0 0 q0d 1), (At.vw 1 0 q0j 1), (At.vw 2 0 q0i 1)]))]))))
  | _, _ => none
def z6i (q10 : Nat) (t43 : Int) (b0 : List Nat) (b1 : List Nat) (b2 : List Nat) (q0d : Nat) (q0j : Nat) (q0i : Nat) : Option ((Unit) ⊕ (Int × Bool)) → Option (Ex × St)
  | none => none
  | some (Sum.inl r) => some (Ex.ret, (St.mk [(2, (AV.v (TV.one (At.bool Bool.false))))] [(Blk.mk Bool.false (Body.fl FloatKind.f32 b0)), (Blk.mk Bool.false (Body.fl FloatKind.f32 b1)), (Blk.mk Bool.false (Body.fl FloatKind.f32 b2))]))
  | some (Sum.inr r) => some ((Ex.exit 0), (St.mk [(1, (AV.v (TV.one (At.ptr 3 0 3)))), (42, (AV.v (TV.one (At.vw 0 0 q10 1)))), (43, (AV.v (TV.one (At.int IntKind.i64 t43)))), (44, (AV.v (TV.one (At.int IntKind.i64 r.1)))), (45, (AV.v (TV.one (At.bool r.2))))] [(Blk.mk Bool.false (Body.fl FloatKind.f32 b0)), (Blk.mk Bool.false (Body.fl FloatKind.f32 b1)), (Blk.mk Bool.false (Body.fl FloatKind.f32 b2)), (Blk.mk Bool.true (Body.cells [(At.vw 0 0 q0d 1), (At.vw 1 0 q0j 1), (At.vw 2 0 q0i 1)]))]))
def zdd (q10 : Nat) (t43 : Int) (b0 : List Nat) (b1 : List Nat) (b2 : List Nat) (q0d : Nat) (q0j : Nat) (q0i : Nat) (x : Option ((Unit) ⊕ (Int × Bool))) : LO := (LO.two (oL x) (LO.one Ex.ret (St.mk [(2, (AV.v (TV.one (At.bool Bool.false))))] [(Blk.mk Bool.false (Body.fl FloatKind.f32 b0)), (Blk.mk Bool.false (Body.fl FloatKind.f32 b1)), (Blk.mk Bool.false (Body.fl FloatKind.f32 b2))])) (LO.one (Ex.exit 0) (St.mk [(1, (AV.v (TV.one (At.ptr 3 0 3)))), (42, (AV.v (TV.one (At.vw 0 0 q10 1)))), (43, (AV.v (TV.one (At.int IntKind.i64 t43)))), (44, (AV.v (TV.one (At.int IntKind.i64 ((tR x).getD default).1)))), (45, (AV.v (TV.one (At.bool ((tR x).getD default).2))))] [(Blk.mk Bool.false (Body.fl FloatKind.f32 b0)), (Blk.mk Bool.false (Body.fl FloatKind.f32 b1)), (Blk.mk Bool.false (Body.fl FloatKind.f32 b2)), (Blk.mk Bool.true (Body.cells [(At.vw 0 0 q0d 1), (At.vw 1 0 q0j 1), (At.vw 2 0 q0i 1)]))])))
theorem ze0 (q10 : Nat) (t43 : Int) (b0 : List Nat) (b1 : List Nat) (b2 : List Nat) (q0d : Nat) (q0j : Nat) (q0i : Nat) : ∀ x : Option ((Unit) ⊕ (Int × Bool)), x.isSome = true → (z6i q10 t43 b0 b1 b2 q0d q0j q0i) x = some (pick (zdd q10 t43 b0 b1 b2 q0d q0j q0i x))
  | none, h => by cases h
  | some (Sum.inl r), _ => rfl
  | some (Sum.inr r), _ => rfl
theorem zdu (q10 : Nat) (t43 : Int) (t44 : Int) (b0 : List Nat) (b1 : List Nat) (b2 : List Nat) (q0d : Nat) (q0j : Nat) (q0i : Nat) (K : Ex → St → Option (Ex × St)) : evC (R := Ex × St) Γ9 (evFn Γ9 8 8) 94 3 fi94.nt fi94.live fi94.nl 8 (findL 5 (loopsIn fi94.code)) (St.mk [(1, (AV.v (TV.one (At.ptr 3 0 3)))), (42, (AV.v (TV.one (At.vw 0 0 q10 1)))), (43, (AV.v (TV.one (At.int IntKind.i64 t43)))), (44, (AV.v (TV.one (At.int IntKind.i64 t44))))] [(Blk.mk Bool.false (Body.fl FloatKind.f32 b0)), (Blk.mk Bool.false (Body.fl FloatKind.f32 b1)), (Blk.mk Bool.false (Body.fl FloatKind.f32 b2)), (Blk.mk Bool.true (Body.cells [(At.vw 0 0 q0d 1), (At.vw 1 0 q0j 1), (At.vw 2 0 q0i 1)]))]) K = z4r q10 t43 b0 q0d t44 (fun t44' => K .normal (St.mk [(1, (AV.v (TV.one (At.ptr 3 0 3)))), (42, (AV.v (TV.one (At.vw 0 0 q10 1)))), (43, (AV.v (TV.one (At.int IntKind.i64 t43)))), (44, (AV.v (TV.one (At.int IntKind.i64 t44'))))] [(Blk.mk Bool.false (Body.fl FloatKind.f32 b0)), (Blk.mk Bool.false (Body.fl FloatKind.f32 b1)), (Blk.mk Bool.false (Body.fl FloatKind.f32 b2)), (Blk.mk Bool.true (Body.cells [(At.vw 0 0 q0d 1), (At.vw 1 0 q0j 1), (At.vw 2 0 q0i 1)]))])) (fun _ => K Ex.ret (St.mk [(2, (AV.v (TV.one (At.bool Bool.false))))] [(Blk.mk Bool.false (Body.fl FloatKind.f32 b0)), (Blk.mk Bool.false (Body.fl FloatKind.f32 b1)), (Blk.mk Bool.false (Body.fl FloatKind.f32 b2))])) (fun c0_ c1_ => K (Ex.exit 0) (St.mk [(1, (AV.v (TV.one (At.ptr 3 0 3)))), (42, (AV.v (TV.one (At.vw 0 0 q10 1)))), (43, (AV.v (TV.one (At.int IntKind.i64 t43)))), (44, (AV.v (TV.one (At.int IntKind.i64 c0_)))), (45, (AV.v (TV.one (At.bool c1_))))] [(Blk.mk Bool.false (Body.fl FloatKind.f32 b0)), (Blk.mk Bool.false (Body.fl FloatKind.f32 b1)), (Blk.mk Bool.false (Body.fl FloatKind.f32 b2)), (Blk.mk Bool.true (Body.cells [(At.vw 0 0 q0d 1), (At.vw 1 0 q0j 1), (At.vw 2 0 q0i 1)]))])) := by kernel_rfl
theorem zdt (q10 : Nat) (t43 : Int) (b0 : List Nat) (b1 : List Nat) (b2 : List Nat) (q0d : Nat) (q0j : Nat) (q0i : Nat) : ∀ (n : Nat) (t44 : Int), iter 94 5 3 (evC (R := Ex × St) Γ9 (evFn Γ9 8 8) 94 3 fi94.nt fi94.live fi94.nl 8 (findL 5 (loopsIn fi94.code))) n (St.mk [(1, (AV.v (TV.one (At.ptr 3 0 3)))), (42, (AV.v (TV.one (At.vw 0 0 q10 1)))), (43, (AV.v (TV.one (At.int IntKind.i64 t43)))), (44, (AV.v (TV.one (At.int IntKind.i64 t44))))] [(Blk.mk Bool.false (Body.fl FloatKind.f32 b0)), (Blk.mk Bool.false (Body.fl FloatKind.f32 b1)), (Blk.mk Bool.false (Body.fl FloatKind.f32 b2)), (Blk.mk Bool.true (Body.cells [(At.vw 0 0 q0d 1), (At.vw 1 0 q0j 1), (At.vw 2 0 q0i 1)]))]) (fun e st => some (e, st)) = (z6i q10 t43 b0 b1 b2 q0d q0j q0i) (z3s q10 t43 b0 q0d n t44) := by
  intro n
  induction n with
  | zero => intros; rfl
  | succ n ih =>
    intro t44
    refine Eq.trans (iter_succ ..) (Eq.trans (zdu q10 t43 t44 b0 b1 b2 q0d q0j q0i (nextK 94 5 3 (evC (R := Ex × St) Γ9 (evFn Γ9 8 8) 94 3 fi94.nt fi94.live fi94.nl 8 (findL 5 (loopsIn fi94.code))) n (fun e st => some (e, st)))) (Eq.trans ?_ (zcq (z6i q10 t43 b0 b1 b2 q0d q0j q0i) rfl q10 t43 b0 q0d t44 (fun t44' => z3s q10 t43 b0 q0d n t44') (fun _ => some (Sum.inl ())) (fun c0_ c1_ => some (Sum.inr (c0_, c1_))))))
    exact congrArg (fun kn_ => z4r q10 t43 b0 q0d t44 kn_ (fun _ => (z6i q10 t43 b0 b1 b2 q0d q0j q0i) (some (Sum.inl ()))) (fun c0_ c1_ => (z6i q10 t43 b0 b1 b2 q0d q0j q0i) (some (Sum.inr (c0_, c1_))))) (funext fun t44' => ih t44')
theorem z18 : LoopOne Try.prog fnTab 94 5 z1j := lp_of (Γ := Γ9) tyTab_ok (FnL.ok fnTab_ok _ _) (LpL.ok lt9_ok) (SumL.ok tb9_ok _) mixed (fi := fi94) (by kernel_rfl) (by kernel_rfl) (by
  intro lo st out hp
  unfold z1j at hp
  split at hp
  · rename_i q10 t43 t44 b0 b1 b2 q0d q0j q0i
    injection hp with hp
    injection hp with h1 h2
    subst h2
    exact ⟨8, 8, big, Eq.trans (zdt q10 t43 b0 b1 b2 q0d q0j q0i big t44) (ze0 q10 t43 b0 b1 b2 q0d q0j q0i (z3s q10 t43 b0 q0d big t44) h1)⟩
  · cases hp)
noncomputable def tb10 : List (Nat × (List PT → Option (Bool × AV × List Blk))) := [(129, z0z), (133, z0j), (137, z0y), (139, z1p), (25, z1v), (59, z38), (64, z1u), (66, z2r), (68, z24), (78, z25), (91, z2s), (122, z3k), (131, z1t), (134, z3j), (58, z2a), (67, z2o), (111, z19), (123, z2y), (20, z14), (126, z1r), (138, z3d), (18, z1y), (46, z1n), (132, z1m), (135, z1z), (44, z2d), (90, z3h), (121, z31), (125, z07), (125, z0b), (110, z05), (110, z09), (124, z3o), (69, z2x), (103, z36), (104, z2v), (112, z35), (53, z26)]
noncomputable def lt10 : List ((Nat × Nat) × (Nat → St → Option (Bool × LO))) := [((20, 2), z0n), ((18, 4), z0w), ((132, 17), z0o), ((90, 5), z2k), ((125, 2), z01), ((125, 2), z03), ((124, 9), z37), ((103, 3), z23), ((94, 5), z1j)]
noncomputable def Γ10 : Ctx := ⟨tyTab, fnTab, tblSum tb10, tblLp lt10⟩
theorem tb10_ok : SumL Try.prog tb10 := SumL.cons z0s (SumL.cons z0f (SumL.cons z0r (SumL.cons z0x (SumL.cons z12 (SumL.cons z2g (SumL.cons z13 (SumL.cons z21 (SumL.cons z1e (SumL.cons z1f (SumL.cons z22 (SumL.cons z33 (SumL.cons z15 (SumL.cons z34 (SumL.cons z1l (SumL.cons z1x (SumL.cons z0v (SumL.cons z29 (SumL.cons z0t (SumL.cons z16 (SumL.cons z2p (SumL.cons z1b (SumL.cons z11 (SumL.cons z10 (SumL.cons z1a (SumL.cons z1w (SumL.cons z2z (SumL.cons z2f (SumL.cons z06 (SumL.cons z0a (SumL.cons z04 (SumL.cons z08 (SumL.cons z3g (SumL.cons z2b (SumL.cons z2n (SumL.cons z2c (SumL.cons z2m (SumL.cons z1s (SumL.nil))))))))))))))))))))))))))))))))))))))
theorem lt10_ok : LpL Try.prog fnTab lt10 := LpL.cons z0i (LpL.cons z0q (LpL.cons z0k (LpL.cons z20 (LpL.cons z00 (LpL.cons z02 (LpL.cons z2j (LpL.cons z1o (LpL.cons z18 (LpL.nil)))))))))
noncomputable def z2i : List PT → Option (Bool × AV × List Blk)
  | [.agg [.row 1 q03 (.fl .f32 q06), .row 1 q05 (.fl .f32 q07), .row 1 q04 (.fl .f32 q08)]] => some ((z92 q03 q06 q05 q07 q04 q08), ((AV.v (TV.one (At.bool (z8i q03 q06 q05 q07 q04 q08)))), []))
  | _ => none
def zcd (q03 : Nat) (q06 : List Nat) (q05 : Nat) (q07 : List Nat) (q04 : Nat) (q08 : List Nat) : Option (Bool) → Option (AV × List Blk)
  | some r => some ((AV.v (TV.one (At.bool r))), [])
  | none => none
theorem zf0 (q03 : Nat) (q06 : List Nat) (q05 : Nat) (q07 : List Nat) (q04 : Nat) (q08 : List Nat) : evFn Γ10 8 8 94 (impTs 0 [.agg [.row 1 q03 (.fl .f32 q06), .row 1 q05 (.fl .f32 q07), .row 1 q04 (.fl .f32 q08)]]).1 (impTs 0 [.agg [.row 1 q03 (.fl .f32 q06), .row 1 q05 (.fl .f32 q07), .row 1 q04 (.fl .f32 q08)]]).2 (expo (impTs 0 [.agg [.row 1 q03 (.fl .f32 q06), .row 1 q05 (.fl .f32 q07), .row 1 q04 (.fl .f32 q08)]]).2.length) = z6e q03 q06 q05 q07 q04 q08 (fun c0_ => some ((AV.v (TV.one (At.bool c0_))), [])) := by kernel_rfl
theorem z27 : SumOne Try.prog 94 z2i := sum_of (Γ := Γ10) (fuel := 8) (d := 8) tyTab_ok (FnL.ok fnTab_ok _ _) (LpL.ok lt10_ok) (SumL.ok tb10_ok _) mixed (by
  intro pts v news hp hc
  clear hc
  unfold z2i at hp
  split at hp
  · rename_i q03 q06 q05 q07 q04 q08
    exact Eq.trans (Eq.trans (zf0 q03 q06 q05 q07 q04 q08) (zdc (zcd q03 q06 q05 q07 q04 q08) rfl q03 q06 q05 q07 q04 q08 (fun c0_ => some c0_))) (fin_out (o := (zcd q03 q06 q05 q07 q04 q08)) (x := z6c q03 q06 q05 q07 q04 q08) (d := default) (V := fun r => ((AV.v (TV.one (At.bool r))), [])) (fun r => rfl) hp)
  · cases hp)
noncomputable def tb11 : List (Nat × (List PT → Option (Bool × AV × List Blk))) := [(129, z0z), (133, z0j), (137, z0y), (139, z1p), (25, z1v), (59, z38), (64, z1u), (66, z2r), (68, z24), (78, z25), (91, z2s), (122, z3k), (131, z1t), (134, z3j), (58, z2a), (67, z2o), (111, z19), (123, z2y), (20, z14), (126, z1r), (138, z3d), (18, z1y), (46, z1n), (132, z1m), (135, z1z), (44, z2d), (90, z3h), (121, z31), (125, z07), (125, z0b), (110, z05), (110, z09), (124, z3o), (69, z2x), (103, z36), (104, z2v), (112, z35), (53, z26), (94, z2i)]
noncomputable def lt11 : List ((Nat × Nat) × (Nat → St → Option (Bool × LO))) := [((20, 2), z0n), ((18, 4), z0w), ((132, 17), z0o), ((90, 5), z2k), ((125, 2), z01), ((125, 2), z03), ((124, 9), z37), ((103, 3), z23), ((94, 5), z1j)]
noncomputable def Γ11 : Ctx := ⟨tyTab, fnTab, tblSum tb11, tblLp lt11⟩
theorem tb11_ok : SumL Try.prog tb11 := SumL.cons z0s (SumL.cons z0f (SumL.cons z0r (SumL.cons z0x (SumL.cons z12 (SumL.cons z2g (SumL.cons z13 (SumL.cons z21 (SumL.cons z1e (SumL.cons z1f (SumL.cons z22 (SumL.cons z33 (SumL.cons z15 (SumL.cons z34 (SumL.cons z1l (SumL.cons z1x (SumL.cons z0v (SumL.cons z29 (SumL.cons z0t (SumL.cons z16 (SumL.cons z2p (SumL.cons z1b (SumL.cons z11 (SumL.cons z10 (SumL.cons z1a (SumL.cons z1w (SumL.cons z2z (SumL.cons z2f (SumL.cons z06 (SumL.cons z0a (SumL.cons z04 (SumL.cons z08 (SumL.cons z3g (SumL.cons z2b (SumL.cons z2n (SumL.cons z2c (SumL.cons z2m (SumL.cons z1s (SumL.cons z27 (SumL.nil)))))))))))))))))))))))))))))))))))))))
theorem lt11_ok : LpL Try.prog fnTab lt11 := LpL.cons z0i (LpL.cons z0q (LpL.cons z0k (LpL.cons z20 (LpL.cons z00 (LpL.cons z02 (LpL.cons z2j (LpL.cons z1o (LpL.cons z18 (LpL.nil)))))))))
noncomputable def tb12 : List (Nat × (List PT → Option (Bool × AV × List Blk))) := [(129, z0z), (133, z0j), (137, z0y), (139, z1p), (25, z1v), (59, z38), (64, z1u), (66, z2r), (68, z24), (78, z25), (91, z2s), (122, z3k), (131, z1t), (134, z3j), (58, z2a), (67, z2o), (111, z19), (123, z2y), (20, z14), (126, z1r), (138, z3d), (18, z1y), (46, z1n), (132, z1m), (135, z1z), (44, z2d), (90, z3h), (121, z31), (125, z07), (125, z0b), (110, z05), (110, z09), (124, z3o), (69, z2x), (103, z36), (104, z2v), (112, z35), (53, z26), (94, z2i)]
noncomputable def lt12 : List ((Nat × Nat) × (Nat → St → Option (Bool × LO))) := [((20, 2), z0n), ((18, 4), z0w), ((132, 17), z0o), ((90, 5), z2k), ((125, 2), z01), ((125, 2), z03), ((124, 9), z37), ((103, 3), z23), ((94, 5), z1j)]
noncomputable def Γ12 : Ctx := ⟨tyTab, fnTab, tblSum tb12, tblLp lt12⟩
theorem tb12_ok : SumL Try.prog tb12 := SumL.cons z0s (SumL.cons z0f (SumL.cons z0r (SumL.cons z0x (SumL.cons z12 (SumL.cons z2g (SumL.cons z13 (SumL.cons z21 (SumL.cons z1e (SumL.cons z1f (SumL.cons z22 (SumL.cons z33 (SumL.cons z15 (SumL.cons z34 (SumL.cons z1l (SumL.cons z1x (SumL.cons z0v (SumL.cons z29 (SumL.cons z0t (SumL.cons z16 (SumL.cons z2p (SumL.cons z1b (SumL.cons z11 (SumL.cons z10 (SumL.cons z1a (SumL.cons z1w (SumL.cons z2z (SumL.cons z2f (SumL.cons z06 (SumL.cons z0a (SumL.cons z04 (SumL.cons z08 (SumL.cons z3g (SumL.cons z2b (SumL.cons z2n (SumL.cons z2c (SumL.cons z2m (SumL.cons z1s (SumL.cons z27 (SumL.nil)))))))))))))))))))))))))))))))))))))))
theorem lt12_ok : LpL Try.prog fnTab lt12 := LpL.cons z0i (LpL.cons z0q (LpL.cons z0k (LpL.cons z20 (LpL.cons z00 (LpL.cons z02 (LpL.cons z2j (LpL.cons z1o (LpL.cons z18 (LpL.nil)))))))))
noncomputable def tb13 : List (Nat × (List PT → Option (Bool × AV × List Blk))) := [(129, z0z), (133, z0j), (137, z0y), (139, z1p), (25, z1v), (59, z38), (64, z1u), (66, z2r), (68, z24), (78, z25), (91, z2s), (122, z3k), (131, z1t), (134, z3j), (58, z2a), (67, z2o), (111, z19), (123, z2y), (20, z14), (126, z1r), (138, z3d), (18, z1y), (46, z1n), (132, z1m), (135, z1z), (44, z2d), (90, z3h), (121, z31), (125, z07), (125, z0b), (110, z05), (110, z09), (124, z3o), (69, z2x), (103, z36), (104, z2v), (112, z35), (53, z26), (94, z2i)]
noncomputable def lt13 : List ((Nat × Nat) × (Nat → St → Option (Bool × LO))) := [((20, 2), z0n), ((18, 4), z0w), ((132, 17), z0o), ((90, 5), z2k), ((125, 2), z01), ((125, 2), z03), ((124, 9), z37), ((103, 3), z23), ((94, 5), z1j)]
noncomputable def Γ13 : Ctx := ⟨tyTab, fnTab, tblSum tb13, tblLp lt13⟩
theorem tb13_ok : SumL Try.prog tb13 := SumL.cons z0s (SumL.cons z0f (SumL.cons z0r (SumL.cons z0x (SumL.cons z12 (SumL.cons z2g (SumL.cons z13 (SumL.cons z21 (SumL.cons z1e (SumL.cons z1f (SumL.cons z22 (SumL.cons z33 (SumL.cons z15 (SumL.cons z34 (SumL.cons z1l (SumL.cons z1x (SumL.cons z0v (SumL.cons z29 (SumL.cons z0t (SumL.cons z16 (SumL.cons z2p (SumL.cons z1b (SumL.cons z11 (SumL.cons z10 (SumL.cons z1a (SumL.cons z1w (SumL.cons z2z (SumL.cons z2f (SumL.cons z06 (SumL.cons z0a (SumL.cons z04 (SumL.cons z08 (SumL.cons z3g (SumL.cons z2b (SumL.cons z2n (SumL.cons z2c (SumL.cons z2m (SumL.cons z1s (SumL.cons z27 (SumL.nil)))))))))))))))))))))))))))))))))))))))
theorem lt13_ok : LpL Try.prog fnTab lt13 := LpL.cons z0i (LpL.cons z0q (LpL.cons z0k (LpL.cons z20 (LpL.cons z00 (LpL.cons z02 (LpL.cons z2j (LpL.cons z1o (LpL.cons z18 (LpL.nil)))))))))
noncomputable def z2e : Nat → St → Option (Bool × LO)
  | 0, (St.mk [(0, (AV.v (TV.one (At.int IntKind.i64 q00)))), (2, (AV.v (TV.one (At.ptr 0 0 3)))), (4, (AV.v (TV.one (At.ptr 4 0 3)))), (14, (AV.v (TV.one (At.int IntKind.i64 t14)))), (15, (AV.v (TV.one (At.int IntKind.i64 t15))))] [(Blk.mk Bool.true (Body.cells [(At.sl 1 0 q0m 1), (At.sl 2 0 q0o 1), (At.sl 3 0 q0n 1)])), (Blk.mk Bool.true (Body.fl FloatKind.f32 b1)), (Blk.mk Bool.true (Body.fl FloatKind.f32 b2)), (Blk.mk Bool.true (Body.fl FloatKind.f32 b3)), (Blk.mk Bool.true (Body.cells [(At.sl 5 0 q0b 1), (At.sl 6 0 q0a 1), (At.sl 7 0 q0c 1)])), (Blk.mk Bool.true (Body.fl FloatKind.f32 b5)), (Blk.mk Bool.true (Body.fl FloatKind.f32 b6)), (Blk.mk Bool.true (Body.fl FloatKind.f32 b7))]) => some ((z7t q00 t14 t15 q0b q0a q0c b5 b6 b7), (LO.one (Ex.exit 0) (St.mk [(0, (AV.v (TV.one (At.int IntKind.i64 q00)))), (2, (AV.v (TV.one (At.ptr 0 0 3)))), (4, (AV.v (TV.one (At.ptr 4 0 3)))), (14, (AV.v (TV.one (At.int IntKind.i64 t14)))), (15, (AV.v (TV.one (At.int IntKind.i64 (z8l q00 t14 t15 q0b q0a q0c b5 b6 b7))))), (16, (AV.v (TV.one (At.bool (z8r q00 t14 t15 q0b q0a q0c b5 b6 b7)))))] [(Blk.mk Bool.true (Body.cells [(At.sl 1 0 q0m 1), (At.sl 2 0 q0o 1), (At.sl 3 0 q0n 1)])), (Blk.mk Bool.true (Body.fl FloatKind.f32 b1)), (Blk.mk Bool.true (Body.fl FloatKind.f32 b2)), (Blk.mk Bool.true (Body.fl FloatKind.f32 b3)), (Blk.mk Bool.true (Body.cells [(At.sl 5 0 (z4h q00 t14 t15 q0b q0a q0c b5 b6 b7) 1), (At.sl 6 0 (z4i q00 t14 t15 q0b q0a q0c b5 b6 b7) 1), (At.sl 7 0 (z4j q00 t14 t15 q0b q0a q0c b5 b6 b7) 1)])), (Blk.mk Bool.true (Body.fl FloatKind.f32 (z5q q00 t14 t15 q0b q0a q0c b5 b6 b7))), (Blk.mk Bool.true (Body.fl FloatKind.f32 (z5p q00 t14 t15 q0b q0a q0c b5 b6 b7))), (Blk.mk Bool.true (Body.fl FloatKind.f32 (z5o q00 t14 t15 q0b q0a q0c b5 b6 b7)))])))
  | _, _ => none
def z7r (q00 : Int) (t14 : Int) (q0m : Nat) (q0o : Nat) (q0n : Nat) (b1 : List Nat) (b2 : List Nat) (b3 : List Nat) : Option ((Int × Bool × Nat × Nat × Nat × (List Nat) × (List Nat) × (List Nat))) → Option (Ex × St)
  | none => none
  | some r => some ((Ex.exit 0), (St.mk [(0, (AV.v (TV.one (At.int IntKind.i64 q00)))), (2, (AV.v (TV.one (At.ptr 0 0 3)))), (4, (AV.v (TV.one (At.ptr 4 0 3)))), (14, (AV.v (TV.one (At.int IntKind.i64 t14)))), (15, (AV.v (TV.one (At.int IntKind.i64 r.1)))), (16, (AV.v (TV.one (At.bool r.2.1))))] [(Blk.mk Bool.true (Body.cells [(At.sl 1 0 q0m 1), (At.sl 2 0 q0o 1), (At.sl 3 0 q0n 1)])), (Blk.mk Bool.true (Body.fl FloatKind.f32 b1)), (Blk.mk Bool.true (Body.fl FloatKind.f32 b2)), (Blk.mk Bool.true (Body.fl FloatKind.f32 b3)), (Blk.mk Bool.true (Body.cells [(At.sl 5 0 r.2.2.1 1), (At.sl 6 0 r.2.2.2.1 1), (At.sl 7 0 r.2.2.2.2.1 1)])), (Blk.mk Bool.true (Body.fl FloatKind.f32 r.2.2.2.2.2.1)), (Blk.mk Bool.true (Body.fl FloatKind.f32 r.2.2.2.2.2.2.1)), (Blk.mk Bool.true (Body.fl FloatKind.f32 r.2.2.2.2.2.2.2))]))
def zdf (q00 : Int) (t14 : Int) (q0m : Nat) (q0o : Nat) (q0n : Nat) (b1 : List Nat) (b2 : List Nat) (b3 : List Nat) (x : Option ((Int × Bool × Nat × Nat × Nat × (List Nat) × (List Nat) × (List Nat)))) : LO := (LO.one (Ex.exit 0) (St.mk [(0, (AV.v (TV.one (At.int IntKind.i64 q00)))), (2, (AV.v (TV.one (At.ptr 0 0 3)))), (4, (AV.v (TV.one (At.ptr 4 0 3)))), (14, (AV.v (TV.one (At.int IntKind.i64 t14)))), (15, (AV.v (TV.one (At.int IntKind.i64 (x.getD default).1)))), (16, (AV.v (TV.one (At.bool (x.getD default).2.1))))] [(Blk.mk Bool.true (Body.cells [(At.sl 1 0 q0m 1), (At.sl 2 0 q0o 1), (At.sl 3 0 q0n 1)])), (Blk.mk Bool.true (Body.fl FloatKind.f32 b1)), (Blk.mk Bool.true (Body.fl FloatKind.f32 b2)), (Blk.mk Bool.true (Body.fl FloatKind.f32 b3)), (Blk.mk Bool.true (Body.cells [(At.sl 5 0 (x.getD default).2.2.1 1), (At.sl 6 0 (x.getD default).2.2.2.1 1), (At.sl 7 0 (x.getD default).2.2.2.2.1 1)])), (Blk.mk Bool.true (Body.fl FloatKind.f32 (x.getD default).2.2.2.2.2.1)), (Blk.mk Bool.true (Body.fl FloatKind.f32 (x.getD default).2.2.2.2.2.2.1)), (Blk.mk Bool.true (Body.fl FloatKind.f32 (x.getD default).2.2.2.2.2.2.2))]))
theorem zdp (q00 : Int) (t14 : Int) (q0m : Nat) (q0o : Nat) (q0n : Nat) (b1 : List Nat) (b2 : List Nat) (b3 : List Nat) : ∀ x : Option ((Int × Bool × Nat × Nat × Nat × (List Nat) × (List Nat) × (List Nat))), x.isSome = true → (z7r q00 t14 q0m q0o q0n b1 b2 b3) x = some (pick (zdf q00 t14 q0m q0o q0n b1 b2 b3 x))
  | none, h => by cases h
  | some r, _ => rfl
theorem zdz (q00 : Int) (t14 : Int) (t15 : Int) (q0m : Nat) (q0o : Nat) (q0n : Nat) (b1 : List Nat) (b2 : List Nat) (b3 : List Nat) (q0b : Nat) (q0a : Nat) (q0c : Nat) (b5 : List Nat) (b6 : List Nat) (b7 : List Nat) (K : Ex → St → Option (Ex × St)) : evC (R := Ex × St) Γ13 (evFn Γ13 8 8) 54 0 fi54.nt fi54.live fi54.nl 8 (findL 5 (loopsIn fi54.code)) (St.mk [(0, (AV.v (TV.one (At.int IntKind.i64 q00)))), (2, (AV.v (TV.one (At.ptr 0 0 3)))), (4, (AV.v (TV.one (At.ptr 4 0 3)))), (14, (AV.v (TV.one (At.int IntKind.i64 t14)))), (15, (AV.v (TV.one (At.int IntKind.i64 t15))))] [(Blk.mk Bool.true (Body.cells [(At.sl 1 0 q0m 1), (At.sl 2 0 q0o 1), (At.sl 3 0 q0n 1)])), (Blk.mk Bool.true (Body.fl FloatKind.f32 b1)), (Blk.mk Bool.true (Body.fl FloatKind.f32 b2)), (Blk.mk Bool.true (Body.fl FloatKind.f32 b3)), (Blk.mk Bool.true (Body.cells [(At.sl 5 0 q0b 1), (At.sl 6 0 q0a 1), (At.sl 7 0 q0c 1)])), (Blk.mk Bool.true (Body.fl FloatKind.f32 b5)), (Blk.mk Bool.true (Body.fl FloatKind.f32 b6)), (Blk.mk Bool.true (Body.fl FloatKind.f32 b7))]) K = z4p q00 t14 t15 q0b q0a q0c b5 b6 b7 (fun t15' q0b' q0a' q0c' b5' b6' b7' => K .normal (St.mk [(0, (AV.v (TV.one (At.int IntKind.i64 q00)))), (2, (AV.v (TV.one (At.ptr 0 0 3)))), (4, (AV.v (TV.one (At.ptr 4 0 3)))), (14, (AV.v (TV.one (At.int IntKind.i64 t14)))), (15, (AV.v (TV.one (At.int IntKind.i64 t15'))))] [(Blk.mk Bool.true (Body.cells [(At.sl 1 0 q0m 1), (At.sl 2 0 q0o 1), (At.sl 3 0 q0n 1)])), (Blk.mk Bool.true (Body.fl FloatKind.f32 b1)), (Blk.mk Bool.true (Body.fl FloatKind.f32 b2)), (Blk.mk Bool.true (Body.fl FloatKind.f32 b3)), (Blk.mk Bool.true (Body.cells [(At.sl 5 0 q0b' 1), (At.sl 6 0 q0a' 1), (At.sl 7 0 q0c' 1)])), (Blk.mk Bool.true (Body.fl FloatKind.f32 b5')), (Blk.mk Bool.true (Body.fl FloatKind.f32 b6')), (Blk.mk Bool.true (Body.fl FloatKind.f32 b7'))])) (fun c0_ c1_ c2_ c3_ c4_ c5_ c6_ c7_ => K (Ex.exit 0) (St.mk [(0, (AV.v (TV.one (At.int IntKind.i64 q00)))), (2, (AV.v (TV.one (At.ptr 0 0 3)))), (4, (AV.v (TV.one (At.ptr 4 0 3)))), (14, (AV.v (TV.one (At.int IntKind.i64 t14)))), (15, (AV.v (TV.one (At.int IntKind.i64 c0_)))), (16, (AV.v (TV.one (At.bool c1_))))] [(Blk.mk Bool.true (Body.cells [(At.sl 1 0 q0m 1), (At.sl 2 0 q0o 1), (At.sl 3 0 q0n 1)])), (Blk.mk Bool.true (Body.fl FloatKind.f32 b1)), (Blk.mk Bool.true (Body.fl FloatKind.f32 b2)), (Blk.mk Bool.true (Body.fl FloatKind.f32 b3)), (Blk.mk Bool.true (Body.cells [(At.sl 5 0 c2_ 1), (At.sl 6 0 c3_ 1), (At.sl 7 0 c4_ 1)])), (Blk.mk Bool.true (Body.fl FloatKind.f32 c5_)), (Blk.mk Bool.true (Body.fl FloatKind.f32 c6_)), (Blk.mk Bool.true (Body.fl FloatKind.f32 c7_))])) := by kernel_rfl
theorem zdv (q00 : Int) (t14 : Int) (q0m : Nat) (q0o : Nat) (q0n : Nat) (b1 : List Nat) (b2 : List Nat) (b3 : List Nat) : ∀ (n : Nat) (t15 : Int) (q0b : Nat) (q0a : Nat) (q0c : Nat) (b5 : List Nat) (b6 : List Nat) (b7 : List Nat), iter 54 5 0 (evC (R := Ex × St) Γ13 (evFn Γ13 8 8) 54 0 fi54.nt fi54.live fi54.nl 8 (findL 5 (loopsIn fi54.code))) n (St.mk [(0, (AV.v (TV.one (At.int IntKind.i64 q00)))), (2, (AV.v (TV.one (At.ptr 0 0 3)))), (4, (AV.v (TV.one (At.ptr 4 0 3)))), (14, (AV.v (TV.one (At.int IntKind.i64 t14)))), (15, (AV.v (TV.one (At.int IntKind.i64 t15))))] [(Blk.mk Bool.true (Body.cells [(At.sl 1 0 q0m 1), (At.sl 2 0 q0o 1), (At.sl 3 0 q0n 1)])), (Blk.mk Bool.true (Body.fl FloatKind.f32 b1)), (Blk.mk Bool.true (Body.fl FloatKind.f32 b2)), (Blk.mk Bool.true (Body.fl FloatKind.f32 b3)), (Blk.mk Bool.true (Body.cells [(At.sl 5 0 q0b 1), (At.sl 6 0 q0a 1), (At.sl 7 0 q0c 1)])), (Blk.mk Bool.true (Body.fl FloatKind.f32 b5)), (Blk.mk Bool.true (Body.fl FloatKind.f32 b6)), (Blk.mk Bool.true (Body.fl FloatKind.f32 b7))]) (fun e st => some (e, st)) = (z7r q00 t14 q0m q0o q0n b1 b2 b3) (z2l q00 t14 n t15 q0b q0a q0c b5 b6 b7) := by
  intro n
  induction n with
  | zero => intros; rfl
  | succ n ih =>
    intro t15 q0b q0a q0c b5 b6 b7
    refine Eq.trans (iter_succ ..) (Eq.trans (zdz q00 t14 t15 q0m q0o q0n b1 b2 b3 q0b q0a q0c b5 b6 b7 (nextK 54 5 0 (evC (R := Ex × St) Γ13 (evFn Γ13 8 8) 54 0 fi54.nt fi54.live fi54.nl 8 (findL 5 (loopsIn fi54.code))) n (fun e st => some (e, st)))) (Eq.trans ?_ (zcp (z7r q00 t14 q0m q0o q0n b1 b2 b3) rfl q00 t14 t15 q0b q0a q0c b5 b6 b7 (fun t15' q0b' q0a' q0c' b5' b6' b7' => z2l q00 t14 n t15' q0b' q0a' q0c' b5' b6' b7') (fun c0_ c1_ c2_ c3_ c4_ c5_ c6_ c7_ => some (c0_, c1_, c2_, c3_, c4_, c5_, c6_, c7_)))))
    exact congrArg (fun kn_ => z4p q00 t14 t15 q0b q0a q0c b5 b6 b7 kn_ (fun c0_ c1_ c2_ c3_ c4_ c5_ c6_ c7_ => (z7r q00 t14 q0m q0o q0n b1 b2 b3) (some (c0_, c1_, c2_, c3_, c4_, c5_, c6_, c7_)))) (funext fun t15' => funext fun q0b' => funext fun q0a' => funext fun q0c' => funext fun b5' => funext fun b6' => funext fun b7' => ih t15' q0b' q0a' q0c' b5' b6' b7')
theorem z28 : LoopOne Try.prog fnTab 54 5 z2e := lp_of (Γ := Γ13) tyTab_ok (FnL.ok fnTab_ok _ _) (LpL.ok lt13_ok) (SumL.ok tb13_ok _) mixed (fi := fi54) (by kernel_rfl) (by kernel_rfl) (by
  intro lo st out hp
  unfold z2e at hp
  split at hp
  · rename_i q00 t14 t15 q0m q0o q0n b1 b2 b3 q0b q0a q0c b5 b6 b7
    injection hp with hp
    injection hp with h1 h2
    subst h2
    exact ⟨8, 8, big, Eq.trans (zdv q00 t14 q0m q0o q0n b1 b2 b3 big t15 q0b q0a q0c b5 b6 b7) (zdp q00 t14 q0m q0o q0n b1 b2 b3 (z2l q00 t14 big t15 q0b q0a q0c b5 b6 b7) h1)⟩
  · cases hp)
noncomputable def tb14 : List (Nat × (List PT → Option (Bool × AV × List Blk))) := [(129, z0z), (133, z0j), (137, z0y), (139, z1p), (25, z1v), (59, z38), (64, z1u), (66, z2r), (68, z24), (78, z25), (91, z2s), (122, z3k), (131, z1t), (134, z3j), (58, z2a), (67, z2o), (111, z19), (123, z2y), (20, z14), (126, z1r), (138, z3d), (18, z1y), (46, z1n), (132, z1m), (135, z1z), (44, z2d), (90, z3h), (121, z31), (125, z07), (125, z0b), (110, z05), (110, z09), (124, z3o), (69, z2x), (103, z36), (104, z2v), (112, z35), (53, z26), (94, z2i)]
noncomputable def lt14 : List ((Nat × Nat) × (Nat → St → Option (Bool × LO))) := [((20, 2), z0n), ((18, 4), z0w), ((132, 17), z0o), ((90, 5), z2k), ((125, 2), z01), ((125, 2), z03), ((124, 9), z37), ((103, 3), z23), ((94, 5), z1j), ((54, 5), z2e)]
noncomputable def Γ14 : Ctx := ⟨tyTab, fnTab, tblSum tb14, tblLp lt14⟩
theorem tb14_ok : SumL Try.prog tb14 := SumL.cons z0s (SumL.cons z0f (SumL.cons z0r (SumL.cons z0x (SumL.cons z12 (SumL.cons z2g (SumL.cons z13 (SumL.cons z21 (SumL.cons z1e (SumL.cons z1f (SumL.cons z22 (SumL.cons z33 (SumL.cons z15 (SumL.cons z34 (SumL.cons z1l (SumL.cons z1x (SumL.cons z0v (SumL.cons z29 (SumL.cons z0t (SumL.cons z16 (SumL.cons z2p (SumL.cons z1b (SumL.cons z11 (SumL.cons z10 (SumL.cons z1a (SumL.cons z1w (SumL.cons z2z (SumL.cons z2f (SumL.cons z06 (SumL.cons z0a (SumL.cons z04 (SumL.cons z08 (SumL.cons z3g (SumL.cons z2b (SumL.cons z2n (SumL.cons z2c (SumL.cons z2m (SumL.cons z1s (SumL.cons z27 (SumL.nil)))))))))))))))))))))))))))))))))))))))
theorem lt14_ok : LpL Try.prog fnTab lt14 := LpL.cons z0i (LpL.cons z0q (LpL.cons z0k (LpL.cons z20 (LpL.cons z00 (LpL.cons z02 (LpL.cons z2j (LpL.cons z1o (LpL.cons z18 (LpL.cons z28 (LpL.nil))))))))))
noncomputable def z3a : List PT → Option (Bool × AV × List Blk)
  | [.one (.s (.int .i64 q00))] => some ((z7a q00), ((AV.tup [(TV.agg [(At.sl 0 0 (z0c q00) 1), (At.sl 1 0 (z0m q00) 1), (At.sl 2 0 (z17 q00) 1)]), (TV.one (At.bool (z6y q00)))]), [(Blk.mk Bool.true (Body.fl FloatKind.f32 (z1i q00))), (Blk.mk Bool.true (Body.fl FloatKind.f32 (z2u q00))), (Blk.mk Bool.true (Body.fl FloatKind.f32 (z3p q00)))]))
  | _ => none
def zcg (q00 : Int) : Option (Nat × Nat × Nat × Bool × (List Nat) × (List Nat) × (List Nat)) → Option (AV × List Blk)
  | some r => some ((AV.tup [(TV.agg [(At.sl 0 0 r.1 1), (At.sl 1 0 r.2.1 1), (At.sl 2 0 r.2.2.1 1)]), (TV.one (At.bool r.2.2.2.1))]), [(Blk.mk Bool.true (Body.fl FloatKind.f32 r.2.2.2.2.1)), (Blk.mk Bool.true (Body.fl FloatKind.f32 r.2.2.2.2.2.1)), (Blk.mk Bool.true (Body.fl FloatKind.f32 r.2.2.2.2.2.2))])
  | none => none
theorem zex (q00 : Int) : evFn Γ14 8 8 54 (impTs 0 [.one (.s (.int .i64 q00))]).1 (impTs 0 [.one (.s (.int .i64 q00))]).2 (expo (impTs 0 [.one (.s (.int .i64 q00))]).2.length) = z6d q00 (fun c0_ c1_ c2_ c3_ c4_ c5_ c6_ => some ((AV.tup [(TV.agg [(At.sl 0 0 c0_ 1), (At.sl 1 0 c1_ 1), (At.sl 2 0 c2_ 1)]), (TV.one (At.bool c3_))]), [(Blk.mk Bool.true (Body.fl FloatKind.f32 c4_)), (Blk.mk Bool.true (Body.fl FloatKind.f32 c5_)), (Blk.mk Bool.true (Body.fl FloatKind.f32 c6_))])) := by kernel_rfl
theorem z30 : SumOne Try.prog 54 z3a := sum_of (Γ := Γ14) (fuel := 8) (d := 8) tyTab_ok (FnL.ok fnTab_ok _ _) (LpL.ok lt14_ok) (SumL.ok tb14_ok _) mixed (by
  intro pts v news hp hc
  clear hc
  unfold z3a at hp
  split at hp
  · rename_i q00
    exact Eq.trans (Eq.trans (zex q00) (zde (zcg q00) rfl q00 (fun c0_ c1_ c2_ c3_ c4_ c5_ c6_ => some (c0_, c1_, c2_, c3_, c4_, c5_, c6_)))) (fin_out (o := (zcg q00)) (x := z4a q00) (d := default) (V := fun r => ((AV.tup [(TV.agg [(At.sl 0 0 r.1 1), (At.sl 1 0 r.2.1 1), (At.sl 2 0 r.2.2.1 1)]), (TV.one (At.bool r.2.2.2.1))]), [(Blk.mk Bool.true (Body.fl FloatKind.f32 r.2.2.2.2.1)), (Blk.mk Bool.true (Body.fl FloatKind.f32 r.2.2.2.2.2.1)), (Blk.mk Bool.true (Body.fl FloatKind.f32 r.2.2.2.2.2.2))])) (fun r => rfl) hp)
  · cases hp)
noncomputable def tb15 : List (Nat × (List PT → Option (Bool × AV × List Blk))) := [(129, z0z), (133, z0j), (137, z0y), (139, z1p), (25, z1v), (59, z38), (64, z1u), (66, z2r), (68, z24), (78, z25), (91, z2s), (122, z3k), (131, z1t), (134, z3j), (58, z2a), (67, z2o), (111, z19), (123, z2y), (20, z14), (126, z1r), (138, z3d), (18, z1y), (46, z1n), (132, z1m), (135, z1z), (44, z2d), (90, z3h), (121, z31), (125, z07), (125, z0b), (110, z05), (110, z09), (124, z3o), (69, z2x), (103, z36), (104, z2v), (112, z35), (53, z26), (94, z2i), (54, z3a)]
noncomputable def lt15 : List ((Nat × Nat) × (Nat → St → Option (Bool × LO))) := [((20, 2), z0n), ((18, 4), z0w), ((132, 17), z0o), ((90, 5), z2k), ((125, 2), z01), ((125, 2), z03), ((124, 9), z37), ((103, 3), z23), ((94, 5), z1j), ((54, 5), z2e)]
noncomputable def Γ15 : Ctx := ⟨tyTab, fnTab, tblSum tb15, tblLp lt15⟩
theorem tb15_ok : SumL Try.prog tb15 := SumL.cons z0s (SumL.cons z0f (SumL.cons z0r (SumL.cons z0x (SumL.cons z12 (SumL.cons z2g (SumL.cons z13 (SumL.cons z21 (SumL.cons z1e (SumL.cons z1f (SumL.cons z22 (SumL.cons z33 (SumL.cons z15 (SumL.cons z34 (SumL.cons z1l (SumL.cons z1x (SumL.cons z0v (SumL.cons z29 (SumL.cons z0t (SumL.cons z16 (SumL.cons z2p (SumL.cons z1b (SumL.cons z11 (SumL.cons z10 (SumL.cons z1a (SumL.cons z1w (SumL.cons z2z (SumL.cons z2f (SumL.cons z06 (SumL.cons z0a (SumL.cons z04 (SumL.cons z08 (SumL.cons z3g (SumL.cons z2b (SumL.cons z2n (SumL.cons z2c (SumL.cons z2m (SumL.cons z1s (SumL.cons z27 (SumL.cons z30 (SumL.nil))))))))))))))))))))))))))))))))))))))))
theorem lt15_ok : LpL Try.prog fnTab lt15 := LpL.cons z0i (LpL.cons z0q (LpL.cons z0k (LpL.cons z20 (LpL.cons z00 (LpL.cons z02 (LpL.cons z2j (LpL.cons z1o (LpL.cons z18 (LpL.cons z28 (LpL.nil))))))))))
noncomputable def tb16 : List (Nat × (List PT → Option (Bool × AV × List Blk))) := [(129, z0z), (133, z0j), (137, z0y), (139, z1p), (25, z1v), (59, z38), (64, z1u), (66, z2r), (68, z24), (78, z25), (91, z2s), (122, z3k), (131, z1t), (134, z3j), (58, z2a), (67, z2o), (111, z19), (123, z2y), (20, z14), (126, z1r), (138, z3d), (18, z1y), (46, z1n), (132, z1m), (135, z1z), (44, z2d), (90, z3h), (121, z31), (125, z07), (125, z0b), (110, z05), (110, z09), (124, z3o), (69, z2x), (103, z36), (104, z2v), (112, z35), (53, z26), (94, z2i), (54, z3a)]
noncomputable def lt16 : List ((Nat × Nat) × (Nat → St → Option (Bool × LO))) := [((20, 2), z0n), ((18, 4), z0w), ((132, 17), z0o), ((90, 5), z2k), ((125, 2), z01), ((125, 2), z03), ((124, 9), z37), ((103, 3), z23), ((94, 5), z1j), ((54, 5), z2e)]
noncomputable def Γ16 : Ctx := ⟨tyTab, fnTab, tblSum tb16, tblLp lt16⟩
theorem tb16_ok : SumL Try.prog tb16 := SumL.cons z0s (SumL.cons z0f (SumL.cons z0r (SumL.cons z0x (SumL.cons z12 (SumL.cons z2g (SumL.cons z13 (SumL.cons z21 (SumL.cons z1e (SumL.cons z1f (SumL.cons z22 (SumL.cons z33 (SumL.cons z15 (SumL.cons z34 (SumL.cons z1l (SumL.cons z1x (SumL.cons z0v (SumL.cons z29 (SumL.cons z0t (SumL.cons z16 (SumL.cons z2p (SumL.cons z1b (SumL.cons z11 (SumL.cons z10 (SumL.cons z1a (SumL.cons z1w (SumL.cons z2z (SumL.cons z2f (SumL.cons z06 (SumL.cons z0a (SumL.cons z04 (SumL.cons z08 (SumL.cons z3g (SumL.cons z2b (SumL.cons z2n (SumL.cons z2c (SumL.cons z2m (SumL.cons z1s (SumL.cons z27 (SumL.cons z30 (SumL.nil))))))))))))))))))))))))))))))))))))))))
theorem lt16_ok : LpL Try.prog fnTab lt16 := LpL.cons z0i (LpL.cons z0q (LpL.cons z0k (LpL.cons z20 (LpL.cons z00 (LpL.cons z02 (LpL.cons z2j (LpL.cons z1o (LpL.cons z18 (LpL.cons z28 (LpL.nil))))))))))
noncomputable def z0e : Nat → St → Option (Bool × LO)
  | 9, (St.mk [(0, (AV.v (TV.one (At.sl 5 0 an 1)))), (1, (AV.v (TV.one (At.int IntKind.i64 k)))), (5, (AV.v (TV.one (At.int IntKind.i64 i))))] [(Blk.mk Bool.true (Body.cells [(At.sl 1 0 q0m 1), (At.sl 2 0 q0o 1), (At.sl 3 0 q0n 1)])), (Blk.mk Bool.true (Body.fl FloatKind.f32 b1)), (Blk.mk Bool.true (Body.fl FloatKind.f32 b2)), (Blk.mk Bool.true (Body.fl FloatKind.f32 b3)), (Blk.mk Bool.true (Body.cells [(At.sl 5 0 q0b 1), (At.sl 6 0 q0a 1), (At.sl 7 0 q0c 1)])), (Blk.mk Bool.true (Body.fl FloatKind.f32 b5)), (Blk.mk Bool.true (Body.fl FloatKind.f32 b6)), (Blk.mk Bool.true (Body.fl FloatKind.f32 b7)), (Blk.mk Bool.true (Body.cells [(At.sl 5 0 q0w 1), (At.sl 6 0 q0x 1), (At.sl 7 0 q0v 1)]))]) => some ((z4v an k i b5), (LO.one (Ex.exit 0) (St.mk [(0, (AV.v (TV.one (At.sl 5 0 an 1)))), (1, (AV.v (TV.one (At.int IntKind.i64 (z0d an k i b5))))), (5, (AV.v (TV.one (At.int IntKind.i64 (z5d an k i b5))))), (9, (AV.v (TV.one (At.bool (z5c an k i b5)))))] [(Blk.mk Bool.true (Body.cells [(At.sl 1 0 q0m 1), (At.sl 2 0 q0o 1), (At.sl 3 0 q0n 1)])), (Blk.mk Bool.true (Body.fl FloatKind.f32 b1)), (Blk.mk Bool.true (Body.fl FloatKind.f32 b2)), (Blk.mk Bool.true (Body.fl FloatKind.f32 b3)), (Blk.mk Bool.true (Body.cells [(At.sl 5 0 q0b 1), (At.sl 6 0 q0a 1), (At.sl 7 0 q0c 1)])), (Blk.mk Bool.true (Body.fl FloatKind.f32 (z32 an k i b5))), (Blk.mk Bool.true (Body.fl FloatKind.f32 b6)), (Blk.mk Bool.true (Body.fl FloatKind.f32 b7)), (Blk.mk Bool.true (Body.cells [(At.sl 5 0 q0w 1), (At.sl 6 0 q0x 1), (At.sl 7 0 q0v 1)]))])))
  | _, _ => none
def z4w (an : Nat) (q0m : Nat) (q0o : Nat) (q0n : Nat) (b1 : List Nat) (b2 : List Nat) (b3 : List Nat) (q0b : Nat) (q0a : Nat) (q0c : Nat) (b6 : List Nat) (b7 : List Nat) (q0w : Nat) (q0x : Nat) (q0v : Nat) : Option ((Int × Int × Bool × (List Nat))) → Option (Ex × St)
  | none => none
  | some r => some ((Ex.exit 0), (St.mk [(0, (AV.v (TV.one (At.sl 5 0 an 1)))), (1, (AV.v (TV.one (At.int IntKind.i64 r.1)))), (5, (AV.v (TV.one (At.int IntKind.i64 r.2.1)))), (9, (AV.v (TV.one (At.bool r.2.2.1))))] [(Blk.mk Bool.true (Body.cells [(At.sl 1 0 q0m 1), (At.sl 2 0 q0o 1), (At.sl 3 0 q0n 1)])), (Blk.mk Bool.true (Body.fl FloatKind.f32 b1)), (Blk.mk Bool.true (Body.fl FloatKind.f32 b2)), (Blk.mk Bool.true (Body.fl FloatKind.f32 b3)), (Blk.mk Bool.true (Body.cells [(At.sl 5 0 q0b 1), (At.sl 6 0 q0a 1), (At.sl 7 0 q0c 1)])), (Blk.mk Bool.true (Body.fl FloatKind.f32 r.2.2.2)), (Blk.mk Bool.true (Body.fl FloatKind.f32 b6)), (Blk.mk Bool.true (Body.fl FloatKind.f32 b7)), (Blk.mk Bool.true (Body.cells [(At.sl 5 0 q0w 1), (At.sl 6 0 q0x 1), (At.sl 7 0 q0v 1)]))]))
def za0 (an : Nat) (q0m : Nat) (q0o : Nat) (q0n : Nat) (b1 : List Nat) (b2 : List Nat) (b3 : List Nat) (q0b : Nat) (q0a : Nat) (q0c : Nat) (b6 : List Nat) (b7 : List Nat) (q0w : Nat) (q0x : Nat) (q0v : Nat) (x : Option ((Int × Int × Bool × (List Nat)))) : LO := (LO.one (Ex.exit 0) (St.mk [(0, (AV.v (TV.one (At.sl 5 0 an 1)))), (1, (AV.v (TV.one (At.int IntKind.i64 (x.getD default).1)))), (5, (AV.v (TV.one (At.int IntKind.i64 (x.getD default).2.1)))), (9, (AV.v (TV.one (At.bool (x.getD default).2.2.1))))] [(Blk.mk Bool.true (Body.cells [(At.sl 1 0 q0m 1), (At.sl 2 0 q0o 1), (At.sl 3 0 q0n 1)])), (Blk.mk Bool.true (Body.fl FloatKind.f32 b1)), (Blk.mk Bool.true (Body.fl FloatKind.f32 b2)), (Blk.mk Bool.true (Body.fl FloatKind.f32 b3)), (Blk.mk Bool.true (Body.cells [(At.sl 5 0 q0b 1), (At.sl 6 0 q0a 1), (At.sl 7 0 q0c 1)])), (Blk.mk Bool.true (Body.fl FloatKind.f32 (x.getD default).2.2.2)), (Blk.mk Bool.true (Body.fl FloatKind.f32 b6)), (Blk.mk Bool.true (Body.fl FloatKind.f32 b7)), (Blk.mk Bool.true (Body.cells [(At.sl 5 0 q0w 1), (At.sl 6 0 q0x 1), (At.sl 7 0 q0v 1)]))]))
theorem za3 (an : Nat) (q0m : Nat) (q0o : Nat) (q0n : Nat) (b1 : List Nat) (b2 : List Nat) (b3 : List Nat) (q0b : Nat) (q0a : Nat) (q0c : Nat) (b6 : List Nat) (b7 : List Nat) (q0w : Nat) (q0x : Nat) (q0v : Nat) : ∀ x : Option ((Int × Int × Bool × (List Nat))), x.isSome = true → (z4w an q0m q0o q0n b1 b2 b3 q0b q0a q0c b6 b7 q0w q0x q0v) x = some (pick (za0 an q0m q0o q0n b1 b2 b3 q0b q0a q0c b6 b7 q0w q0x q0v x))
  | none, h => by cases h
  | some r, _ => rfl
theorem za4 (an : Nat) (k : Int) (i : Int) (q0m : Nat) (q0o : Nat) (q0n : Nat) (b1 : List Nat) (b2 : List Nat) (b3 : List Nat) (q0b : Nat) (q0a : Nat) (q0c : Nat) (b5 : List Nat) (b6 : List Nat) (b7 : List Nat) (q0w : Nat) (q0x : Nat) (q0v : Nat) (K : Ex → St → Option (Ex × St)) : evC (R := Ex × St) Γ16 (evFn Γ16 8 8) 19 9 fi19.nt fi19.live fi19.nl 8 (findL 2 (loopsIn fi19.code)) (St.mk [(0, (AV.v (TV.one (At.sl 5 0 an 1)))), (1, (AV.v (TV.one (At.int IntKind.i64 k)))), (5, (AV.v (TV.one (At.int IntKind.i64 i))))] [(Blk.mk Bool.true (Body.cells [(At.sl 1 0 q0m 1), (At.sl 2 0 q0o 1), (At.sl 3 0 q0n 1)])), (Blk.mk Bool.true (Body.fl FloatKind.f32 b1)), (Blk.mk Bool.true (Body.fl FloatKind.f32 b2)), (Blk.mk Bool.true (Body.fl FloatKind.f32 b3)), (Blk.mk Bool.true (Body.cells [(At.sl 5 0 q0b 1), (At.sl 6 0 q0a 1), (At.sl 7 0 q0c 1)])), (Blk.mk Bool.true (Body.fl FloatKind.f32 b5)), (Blk.mk Bool.true (Body.fl FloatKind.f32 b6)), (Blk.mk Bool.true (Body.fl FloatKind.f32 b7)), (Blk.mk Bool.true (Body.cells [(At.sl 5 0 q0w 1), (At.sl 6 0 q0x 1), (At.sl 7 0 q0v 1)]))]) K = z3n an k i b5 (fun k' i' b5' => K .normal (St.mk [(0, (AV.v (TV.one (At.sl 5 0 an 1)))), (1, (AV.v (TV.one (At.int IntKind.i64 k')))), (5, (AV.v (TV.one (At.int IntKind.i64 i'))))] [(Blk.mk Bool.true (Body.cells [(At.sl 1 0 q0m 1), (At.sl 2 0 q0o 1), (At.sl 3 0 q0n 1)])), (Blk.mk Bool.true (Body.fl FloatKind.f32 b1)), (Blk.mk Bool.true (Body.fl FloatKind.f32 b2)), (Blk.mk Bool.true (Body.fl FloatKind.f32 b3)), (Blk.mk Bool.true (Body.cells [(At.sl 5 0 q0b 1), (At.sl 6 0 q0a 1), (At.sl 7 0 q0c 1)])), (Blk.mk Bool.true (Body.fl FloatKind.f32 b5')), (Blk.mk Bool.true (Body.fl FloatKind.f32 b6)), (Blk.mk Bool.true (Body.fl FloatKind.f32 b7)), (Blk.mk Bool.true (Body.cells [(At.sl 5 0 q0w 1), (At.sl 6 0 q0x 1), (At.sl 7 0 q0v 1)]))])) (fun c0_ c1_ c2_ c3_ => K (Ex.exit 0) (St.mk [(0, (AV.v (TV.one (At.sl 5 0 an 1)))), (1, (AV.v (TV.one (At.int IntKind.i64 c0_)))), (5, (AV.v (TV.one (At.int IntKind.i64 c1_)))), (9, (AV.v (TV.one (At.bool c2_))))] [(Blk.mk Bool.true (Body.cells [(At.sl 1 0 q0m 1), (At.sl 2 0 q0o 1), (At.sl 3 0 q0n 1)])), (Blk.mk Bool.true (Body.fl FloatKind.f32 b1)), (Blk.mk Bool.true (Body.fl FloatKind.f32 b2)), (Blk.mk Bool.true (Body.fl FloatKind.f32 b3)), (Blk.mk Bool.true (Body.cells [(At.sl 5 0 q0b 1), (At.sl 6 0 q0a 1), (At.sl 7 0 q0c 1)])), (Blk.mk Bool.true (Body.fl FloatKind.f32 c3_)), (Blk.mk Bool.true (Body.fl FloatKind.f32 b6)), (Blk.mk Bool.true (Body.fl FloatKind.f32 b7)), (Blk.mk Bool.true (Body.cells [(At.sl 5 0 q0w 1), (At.sl 6 0 q0x 1), (At.sl 7 0 q0v 1)]))])) := by kernel_rfl
theorem za1 (an : Nat) (q0m : Nat) (q0o : Nat) (q0n : Nat) (b1 : List Nat) (b2 : List Nat) (b3 : List Nat) (q0b : Nat) (q0a : Nat) (q0c : Nat) (b6 : List Nat) (b7 : List Nat) (q0w : Nat) (q0x : Nat) (q0v : Nat) : ∀ (n : Nat) (k : Int) (i : Int) (b5 : List Nat), iter 19 2 9 (evC (R := Ex × St) Γ16 (evFn Γ16 8 8) 19 9 fi19.nt fi19.live fi19.nl 8 (findL 2 (loopsIn fi19.code))) n (St.mk [(0, (AV.v (TV.one (At.sl 5 0 an 1)))), (1, (AV.v (TV.one (At.int IntKind.i64 k)))), (5, (AV.v (TV.one (At.int IntKind.i64 i))))] [(Blk.mk Bool.true (Body.cells [(At.sl 1 0 q0m 1), (At.sl 2 0 q0o 1), (At.sl 3 0 q0n 1)])), (Blk.mk Bool.true (Body.fl FloatKind.f32 b1)), (Blk.mk Bool.true (Body.fl FloatKind.f32 b2)), (Blk.mk Bool.true (Body.fl FloatKind.f32 b3)), (Blk.mk Bool.true (Body.cells [(At.sl 5 0 q0b 1), (At.sl 6 0 q0a 1), (At.sl 7 0 q0c 1)])), (Blk.mk Bool.true (Body.fl FloatKind.f32 b5)), (Blk.mk Bool.true (Body.fl FloatKind.f32 b6)), (Blk.mk Bool.true (Body.fl FloatKind.f32 b7)), (Blk.mk Bool.true (Body.cells [(At.sl 5 0 q0w 1), (At.sl 6 0 q0x 1), (At.sl 7 0 q0v 1)]))]) (fun e st => some (e, st)) = (z4w an q0m q0o q0n b1 b2 b3 q0b q0a q0c b6 b7 q0w q0x q0v) (z1q an n k i b5) := by
  intro n
  induction n with
  | zero => intros; rfl
  | succ n ih =>
    intro k i b5
    refine Eq.trans (iter_succ ..) (Eq.trans (za4 an k i q0m q0o q0n b1 b2 b3 q0b q0a q0c b5 b6 b7 q0w q0x q0v (nextK 19 2 9 (evC (R := Ex × St) Γ16 (evFn Γ16 8 8) 19 9 fi19.nt fi19.live fi19.nl 8 (findL 2 (loopsIn fi19.code))) n (fun e st => some (e, st)))) (Eq.trans ?_ (z96 (z4w an q0m q0o q0n b1 b2 b3 q0b q0a q0c b6 b7 q0w q0x q0v) rfl an k i b5 (fun k' i' b5' => z1q an n k' i' b5') (fun c0_ c1_ c2_ c3_ => some (c0_, c1_, c2_, c3_)))))
    exact congrArg (fun kn_ => z3n an k i b5 kn_ (fun c0_ c1_ c2_ c3_ => (z4w an q0m q0o q0n b1 b2 b3 q0b q0a q0c b6 b7 q0w q0x q0v) (some (c0_, c1_, c2_, c3_)))) (funext fun k' => funext fun i' => funext fun b5' => ih k' i' b5')
theorem z0g : LoopOne Try.prog fnTab 19 2 z0e := lp_of (Γ := Γ16) tyTab_ok (FnL.ok fnTab_ok _ _) (LpL.ok lt16_ok) (SumL.ok tb16_ok _) mixed (fi := fi19) (by kernel_rfl) (by kernel_rfl) (by
  intro lo st out hp
  unfold z0e at hp
  split at hp
  · rename_i an k i q0m q0o q0n b1 b2 b3 q0b q0a q0c b5 b6 b7 q0w q0x q0v
    injection hp with hp
    injection hp with h1 h2
    subst h2
    exact ⟨8, 8, big, Eq.trans (za1 an q0m q0o q0n b1 b2 b3 q0b q0a q0c b6 b7 q0w q0x q0v big k i b5) (za3 an q0m q0o q0n b1 b2 b3 q0b q0a q0c b6 b7 q0w q0x q0v (z1q an big k i b5) h1)⟩
  · cases hp)
noncomputable def tb17 : List (Nat × (List PT → Option (Bool × AV × List Blk))) := [(129, z0z), (133, z0j), (137, z0y), (139, z1p), (25, z1v), (59, z38), (64, z1u), (66, z2r), (68, z24), (78, z25), (91, z2s), (122, z3k), (131, z1t), (134, z3j), (58, z2a), (67, z2o), (111, z19), (123, z2y), (20, z14), (126, z1r), (138, z3d), (18, z1y), (46, z1n), (132, z1m), (135, z1z), (44, z2d), (90, z3h), (121, z31), (125, z07), (125, z0b), (110, z05), (110, z09), (124, z3o), (69, z2x), (103, z36), (104, z2v), (112, z35), (53, z26), (94, z2i), (54, z3a)]
noncomputable def lt17 : List ((Nat × Nat) × (Nat → St → Option (Bool × LO))) := [((20, 2), z0n), ((18, 4), z0w), ((132, 17), z0o), ((90, 5), z2k), ((125, 2), z01), ((125, 2), z03), ((124, 9), z37), ((103, 3), z23), ((94, 5), z1j), ((54, 5), z2e), ((19, 2), z0e)]
noncomputable def Γ17 : Ctx := ⟨tyTab, fnTab, tblSum tb17, tblLp lt17⟩
theorem tb17_ok : SumL Try.prog tb17 := SumL.cons z0s (SumL.cons z0f (SumL.cons z0r (SumL.cons z0x (SumL.cons z12 (SumL.cons z2g (SumL.cons z13 (SumL.cons z21 (SumL.cons z1e (SumL.cons z1f (SumL.cons z22 (SumL.cons z33 (SumL.cons z15 (SumL.cons z34 (SumL.cons z1l (SumL.cons z1x (SumL.cons z0v (SumL.cons z29 (SumL.cons z0t (SumL.cons z16 (SumL.cons z2p (SumL.cons z1b (SumL.cons z11 (SumL.cons z10 (SumL.cons z1a (SumL.cons z1w (SumL.cons z2z (SumL.cons z2f (SumL.cons z06 (SumL.cons z0a (SumL.cons z04 (SumL.cons z08 (SumL.cons z3g (SumL.cons z2b (SumL.cons z2n (SumL.cons z2c (SumL.cons z2m (SumL.cons z1s (SumL.cons z27 (SumL.cons z30 (SumL.nil))))))))))))))))))))))))))))))))))))))))
theorem lt17_ok : LpL Try.prog fnTab lt17 := LpL.cons z0i (LpL.cons z0q (LpL.cons z0k (LpL.cons z20 (LpL.cons z00 (LpL.cons z02 (LpL.cons z2j (LpL.cons z1o (LpL.cons z18 (LpL.cons z28 (LpL.cons z0g (LpL.nil)))))))))))
noncomputable def tb18 : List (Nat × (List PT → Option (Bool × AV × List Blk))) := [(129, z0z), (133, z0j), (137, z0y), (139, z1p), (25, z1v), (59, z38), (64, z1u), (66, z2r), (68, z24), (78, z25), (91, z2s), (122, z3k), (131, z1t), (134, z3j), (58, z2a), (67, z2o), (111, z19), (123, z2y), (20, z14), (126, z1r), (138, z3d), (18, z1y), (46, z1n), (132, z1m), (135, z1z), (44, z2d), (90, z3h), (121, z31), (125, z07), (125, z0b), (110, z05), (110, z09), (124, z3o), (69, z2x), (103, z36), (104, z2v), (112, z35), (53, z26), (94, z2i), (54, z3a)]
noncomputable def lt18 : List ((Nat × Nat) × (Nat → St → Option (Bool × LO))) := [((20, 2), z0n), ((18, 4), z0w), ((132, 17), z0o), ((90, 5), z2k), ((125, 2), z01), ((125, 2), z03), ((124, 9), z37), ((103, 3), z23), ((94, 5), z1j), ((54, 5), z2e), ((19, 2), z0e)]
noncomputable def Γ18 : Ctx := ⟨tyTab, fnTab, tblSum tb18, tblLp lt18⟩
theorem tb18_ok : SumL Try.prog tb18 := SumL.cons z0s (SumL.cons z0f (SumL.cons z0r (SumL.cons z0x (SumL.cons z12 (SumL.cons z2g (SumL.cons z13 (SumL.cons z21 (SumL.cons z1e (SumL.cons z1f (SumL.cons z22 (SumL.cons z33 (SumL.cons z15 (SumL.cons z34 (SumL.cons z1l (SumL.cons z1x (SumL.cons z0v (SumL.cons z29 (SumL.cons z0t (SumL.cons z16 (SumL.cons z2p (SumL.cons z1b (SumL.cons z11 (SumL.cons z10 (SumL.cons z1a (SumL.cons z1w (SumL.cons z2z (SumL.cons z2f (SumL.cons z06 (SumL.cons z0a (SumL.cons z04 (SumL.cons z08 (SumL.cons z3g (SumL.cons z2b (SumL.cons z2n (SumL.cons z2c (SumL.cons z2m (SumL.cons z1s (SumL.cons z27 (SumL.cons z30 (SumL.nil))))))))))))))))))))))))))))))))))))))))
theorem lt18_ok : LpL Try.prog fnTab lt18 := LpL.cons z0i (LpL.cons z0q (LpL.cons z0k (LpL.cons z20 (LpL.cons z00 (LpL.cons z02 (LpL.cons z2j (LpL.cons z1o (LpL.cons z18 (LpL.cons z28 (LpL.cons z0g (LpL.nil)))))))))))
noncomputable def z0h : Nat → St → Option (Bool × LO)
  | 9, (St.mk [(0, (AV.v (TV.one (At.sl 6 0 an 1)))), (1, (AV.v (TV.one (At.int IntKind.i64 k)))), (5, (AV.v (TV.one (At.int IntKind.i64 i))))] [(Blk.mk Bool.true (Body.cells [(At.sl 1 0 q0m 1), (At.sl 2 0 q0o 1), (At.sl 3 0 q0n 1)])), (Blk.mk Bool.true (Body.fl FloatKind.f32 b1)), (Blk.mk Bool.true (Body.fl FloatKind.f32 b2)), (Blk.mk Bool.true (Body.fl FloatKind.f32 b3)), (Blk.mk Bool.true (Body.cells [(At.sl 5 0 q0b 1), (At.sl 6 0 q0a 1), (At.sl 7 0 q0c 1)])), (Blk.mk Bool.true (Body.fl FloatKind.f32 b5)), (Blk.mk Bool.true (Body.fl FloatKind.f32 b6)), (Blk.mk Bool.true (Body.fl FloatKind.f32 b7)), (Blk.mk Bool.true (Body.cells [(At.sl 5 0 q0w 1), (At.sl 6 0 q0x 1), (At.sl 7 0 q0v 1)]))]) => some ((z4m an k i b6), (LO.one (Ex.exit 0) (St.mk [(0, (AV.v (TV.one (At.sl 6 0 an 1)))), (1, (AV.v (TV.one (At.int IntKind.i64 (z1h an k i b6))))), (5, (AV.v (TV.one (At.int IntKind.i64 (z57 an k i b6))))), (9, (AV.v (TV.one (At.bool (z56 an k i b6)))))] [(Blk.mk Bool.true (Body.cells [(At.sl 1 0 q0m 1), (At.sl 2 0 q0o 1), (At.sl 3 0 q0n 1)])), (Blk.mk Bool.true (Body.fl FloatKind.f32 b1)), (Blk.mk Bool.true (Body.fl FloatKind.f32 b2)), (Blk.mk Bool.true (Body.fl FloatKind.f32 b3)), (Blk.mk Bool.true (Body.cells [(At.sl 5 0 q0b 1), (At.sl 6 0 q0a 1), (At.sl 7 0 q0c 1)])), (Blk.mk Bool.true (Body.fl FloatKind.f32 b5)), (Blk.mk Bool.true (Body.fl FloatKind.f32 (z2w an k i b6))), (Blk.mk Bool.true (Body.fl FloatKind.f32 b7)), (Blk.mk Bool.true (Body.cells [(At.sl 5 0 q0w 1), (At.sl 6 0 q0x 1), (At.sl 7 0 q0v 1)]))])))
  | _, _ => none
def z4k (an : Nat) (q0m : Nat) (q0o : Nat) (q0n : Nat) (b1 : List Nat) (b2 : List Nat) (b3 : List Nat) (q0b : Nat) (q0a : Nat) (q0c : Nat) (b5 : List Nat) (b7 : List Nat) (q0w : Nat) (q0x : Nat) (q0v : Nat) : Option ((Int × Int × Bool × (List Nat))) → Option (Ex × St)
  | none => none
  | some r => some ((Ex.exit 0), (St.mk [(0, (AV.v (TV.one (At.sl 6 0 an 1)))), (1, (AV.v (TV.one (At.int IntKind.i64 r.1)))), (5, (AV.v (TV.one (At.int IntKind.i64 r.2.1)))), (9, (AV.v (TV.one (At.bool r.2.2.1))))] [(Blk.mk Bool.true (Body.cells [(At.sl 1 0 q0m 1), (At.sl 2 0 q0o 1), (At.sl 3 0 q0n 1)])), (Blk.mk Bool.true (Body.fl FloatKind.f32 b1)), (Blk.mk Bool.true (Body.fl FloatKind.f32 b2)), (Blk.mk Bool.true (Body.fl FloatKind.f32 b3)), (Blk.mk Bool.true (Body.cells [(At.sl 5 0 q0b 1), (At.sl 6 0 q0a 1), (At.sl 7 0 q0c 1)])), (Blk.mk Bool.true (Body.fl FloatKind.f32 b5)), (Blk.mk Bool.true (Body.fl FloatKind.f32 r.2.2.2)), (Blk.mk Bool.true (Body.fl FloatKind.f32 b7)), (Blk.mk Bool.true (Body.cells [(At.sl 5 0 q0w 1), (At.sl 6 0 q0x 1), (At.sl 7 0 q0v 1)]))]))
def z99 (an : Nat) (q0m : Nat) (q0o : Nat) (q0n : Nat) (b1 : List Nat) (b2 : List Nat) (b3 : List Nat) (q0b : Nat) (q0a : Nat) (q0c : Nat) (b5 : List Nat) (b7 : List Nat) (q0w : Nat) (q0x : Nat) (q0v : Nat) (x : Option ((Int × Int × Bool × (List Nat)))) : LO := (LO.one (Ex.exit 0) (St.mk [(0, (AV.v (TV.one (At.sl 6 0 an 1)))), (1, (AV.v (TV.one (At.int IntKind.i64 (x.getD default).1)))), (5, (AV.v (TV.one (At.int IntKind.i64 (x.getD default).2.1)))), (9, (AV.v (TV.one (At.bool (x.getD default).2.2.1))))] [(Blk.mk Bool.true (Body.cells [(At.sl 1 0 q0m 1), (At.sl 2 0 q0o 1), (At.sl 3 0 q0n 1)])), (Blk.mk Bool.true (Body.fl FloatKind.f32 b1)), (Blk.mk Bool.true (Body.fl FloatKind.f32 b2)), (Blk.mk Bool.true (Body.fl FloatKind.f32 b3)), (Blk.mk Bool.true (Body.cells [(At.sl 5 0 q0b 1), (At.sl 6 0 q0a 1), (At.sl 7 0 q0c 1)])), (Blk.mk Bool.true (Body.fl FloatKind.f32 b5)), (Blk.mk Bool.true (Body.fl FloatKind.f32 (x.getD default).2.2.2)), (Blk.mk Bool.true (Body.fl FloatKind.f32 b7)), (Blk.mk Bool.true (Body.cells [(At.sl 5 0 q0w 1), (At.sl 6 0 q0x 1), (At.sl 7 0 q0v 1)]))]))
theorem z9p (an : Nat) (q0m : Nat) (q0o : Nat) (q0n : Nat) (b1 : List Nat) (b2 : List Nat) (b3 : List Nat) (q0b : Nat) (q0a : Nat) (q0c : Nat) (b5 : List Nat) (b7 : List Nat) (q0w : Nat) (q0x : Nat) (q0v : Nat) : ∀ x : Option ((Int × Int × Bool × (List Nat))), x.isSome = true → (z4k an q0m q0o q0n b1 b2 b3 q0b q0a q0c b5 b7 q0w q0x q0v) x = some (pick (z99 an q0m q0o q0n b1 b2 b3 q0b q0a q0c b5 b7 q0w q0x q0v x))
  | none, h => by cases h
  | some r, _ => rfl
theorem z9x (an : Nat) (k : Int) (i : Int) (q0m : Nat) (q0o : Nat) (q0n : Nat) (b1 : List Nat) (b2 : List Nat) (b3 : List Nat) (q0b : Nat) (q0a : Nat) (q0c : Nat) (b5 : List Nat) (b6 : List Nat) (b7 : List Nat) (q0w : Nat) (q0x : Nat) (q0v : Nat) (K : Ex → St → Option (Ex × St)) : evC (R := Ex × St) Γ18 (evFn Γ18 8 8) 19 9 fi19.nt fi19.live fi19.nl 8 (findL 2 (loopsIn fi19.code)) (St.mk [(0, (AV.v (TV.one (At.sl 6 0 an 1)))), (1, (AV.v (TV.one (At.int IntKind.i64 k)))), (5, (AV.v (TV.one (At.int IntKind.i64 i))))] [(Blk.mk Bool.true (Body.cells [(At.sl 1 0 q0m 1), (At.sl 2 0 q0o 1), (At.sl 3 0 q0n 1)])), (Blk.mk Bool.true (Body.fl FloatKind.f32 b1)), (Blk.mk Bool.true (Body.fl FloatKind.f32 b2)), (Blk.mk Bool.true (Body.fl FloatKind.f32 b3)), (Blk.mk Bool.true (Body.cells [(At.sl 5 0 q0b 1), (At.sl 6 0 q0a 1), (At.sl 7 0 q0c 1)])), (Blk.mk Bool.true (Body.fl FloatKind.f32 b5)), (Blk.mk Bool.true (Body.fl FloatKind.f32 b6)), (Blk.mk Bool.true (Body.fl FloatKind.f32 b7)), (Blk.mk Bool.true (Body.cells [(At.sl 5 0 q0w 1), (At.sl 6 0 q0x 1), (At.sl 7 0 q0v 1)]))]) K = z3m an k i b6 (fun k' i' b6' => K .normal (St.mk [(0, (AV.v (TV.one (At.sl 6 0 an 1)))), (1, (AV.v (TV.one (At.int IntKind.i64 k')))), (5, (AV.v (TV.one (At.int IntKind.i64 i'))))] [(Blk.mk Bool.true (Body.cells [(At.sl 1 0 q0m 1), (At.sl 2 0 q0o 1), (At.sl 3 0 q0n 1)])), (Blk.mk Bool.true (Body.fl FloatKind.f32 b1)), (Blk.mk Bool.true (Body.fl FloatKind.f32 b2)), (Blk.mk Bool.true (Body.fl FloatKind.f32 b3)), (Blk.mk Bool.true (Body.cells [(At.sl 5 0 q0b 1), (At.sl 6 0 q0a 1), (At.sl 7 0 q0c 1)])), (Blk.mk Bool.true (Body.fl FloatKind.f32 b5)), (Blk.mk Bool.true (Body.fl FloatKind.f32 b6')), (Blk.mk Bool.true (Body.fl FloatKind.f32 b7)), (Blk.mk Bool.true (Body.cells [(At.sl 5 0 q0w 1), (At.sl 6 0 q0x 1), (At.sl 7 0 q0v 1)]))])) (fun c0_ c1_ c2_ c3_ => K (Ex.exit 0) (St.mk [(0, (AV.v (TV.one (At.sl 6 0 an 1)))), (1, (AV.v (TV.one (At.int IntKind.i64 c0_)))), (5, (AV.v (TV.one (At.int IntKind.i64 c1_)))), (9, (AV.v (TV.one (At.bool c2_))))] [(Blk.mk Bool.true (Body.cells [(At.sl 1 0 q0m 1), (At.sl 2 0 q0o 1), (At.sl 3 0 q0n 1)])), (Blk.mk Bool.true (Body.fl FloatKind.f32 b1)), (Blk.mk Bool.true (Body.fl FloatKind.f32 b2)), (Blk.mk Bool.true (Body.fl FloatKind.f32 b3)), (Blk.mk Bool.true (Body.cells [(At.sl 5 0 q0b 1), (At.sl 6 0 q0a 1), (At.sl 7 0 q0c 1)])), (Blk.mk Bool.true (Body.fl FloatKind.f32 b5)), (Blk.mk Bool.true (Body.fl FloatKind.f32 c3_)), (Blk.mk Bool.true (Body.fl FloatKind.f32 b7)), (Blk.mk Bool.true (Body.cells [(At.sl 5 0 q0w 1), (At.sl 6 0 q0x 1), (At.sl 7 0 q0v 1)]))])) := by kernel_rfl
theorem z9l (an : Nat) (q0m : Nat) (q0o : Nat) (q0n : Nat) (b1 : List Nat) (b2 : List Nat) (b3 : List Nat) (q0b : Nat) (q0a : Nat) (q0c : Nat) (b5 : List Nat) (b7 : List Nat) (q0w : Nat) (q0x : Nat) (q0v : Nat) : ∀ (n : Nat) (k : Int) (i : Int) (b6 : List Nat), iter 19 2 9 (evC (R := Ex × St) Γ18 (evFn Γ18 8 8) 19 9 fi19.nt fi19.live fi19.nl 8 (findL 2 (loopsIn fi19.code))) n (St.mk [(0, (AV.v (TV.one (At.sl 6 0 an 1)))), (1, (AV.v (TV.one (At.int IntKind.i64 k)))), (5, (AV.v (TV.one (At.int IntKind.i64 i))))] [(Blk.mk Bool.true (Body.cells [(At.sl 1 0 q0m 1), (At.sl 2 0 q0o 1), (At.sl 3 0 q0n 1)])), (Blk.mk Bool.true (Body.fl FloatKind.f32 b1)), (Blk.mk Bool.true (Body.fl FloatKind.f32 b2)), (Blk.mk Bool.true (Body.fl FloatKind.f32 b3)), (Blk.mk Bool.true (Body.cells [(At.sl 5 0 q0b 1), (At.sl 6 0 q0a 1), (At.sl 7 0 q0c 1)])), (Blk.mk Bool.true (Body.fl FloatKind.f32 b5)), (Blk.mk Bool.true (Body.fl FloatKind.f32 b6)), (Blk.mk Bool.true (Body.fl FloatKind.f32 b7)), (Blk.mk Bool.true (Body.cells [(At.sl 5 0 q0w 1), (At.sl 6 0 q0x 1), (At.sl 7 0 q0v 1)]))]) (fun e st => some (e, st)) = (z4k an q0m q0o q0n b1 b2 b3 q0b q0a q0c b5 b7 q0w q0x q0v) (z1c an n k i b6) := by
  intro n
  induction n with
  | zero => intros; rfl
  | succ n ih =>
    intro k i b6
    refine Eq.trans (iter_succ ..) (Eq.trans (z9x an k i q0m q0o q0n b1 b2 b3 q0b q0a q0c b5 b6 b7 q0w q0x q0v (nextK 19 2 9 (evC (R := Ex × St) Γ18 (evFn Γ18 8 8) 19 9 fi19.nt fi19.live fi19.nl 8 (findL 2 (loopsIn fi19.code))) n (fun e st => some (e, st)))) (Eq.trans ?_ (z8t (z4k an q0m q0o q0n b1 b2 b3 q0b q0a q0c b5 b7 q0w q0x q0v) rfl an k i b6 (fun k' i' b6' => z1c an n k' i' b6') (fun c0_ c1_ c2_ c3_ => some (c0_, c1_, c2_, c3_)))))
    exact congrArg (fun kn_ => z3m an k i b6 kn_ (fun c0_ c1_ c2_ c3_ => (z4k an q0m q0o q0n b1 b2 b3 q0b q0a q0c b5 b7 q0w q0x q0v) (some (c0_, c1_, c2_, c3_)))) (funext fun k' => funext fun i' => funext fun b6' => ih k' i' b6')
theorem z0l : LoopOne Try.prog fnTab 19 2 z0h := lp_of (Γ := Γ18) tyTab_ok (FnL.ok fnTab_ok _ _) (LpL.ok lt18_ok) (SumL.ok tb18_ok _) mixed (fi := fi19) (by kernel_rfl) (by kernel_rfl) (by
  intro lo st out hp
  unfold z0h at hp
  split at hp
  · rename_i an k i q0m q0o q0n b1 b2 b3 q0b q0a q0c b5 b6 b7 q0w q0x q0v
    injection hp with hp
    injection hp with h1 h2
    subst h2
    exact ⟨8, 8, big, Eq.trans (z9l an q0m q0o q0n b1 b2 b3 q0b q0a q0c b5 b7 q0w q0x q0v big k i b6) (z9p an q0m q0o q0n b1 b2 b3 q0b q0a q0c b5 b7 q0w q0x q0v (z1c an big k i b6) h1)⟩
  · cases hp)
noncomputable def tb19 : List (Nat × (List PT → Option (Bool × AV × List Blk))) := [(129, z0z), (133, z0j), (137, z0y), (139, z1p), (25, z1v), (59, z38), (64, z1u), (66, z2r), (68, z24), (78, z25), (91, z2s), (122, z3k), (131, z1t), (134, z3j), (58, z2a), (67, z2o), (111, z19), (123, z2y), (20, z14), (126, z1r), (138, z3d), (18, z1y), (46, z1n), (132, z1m), (135, z1z), (44, z2d), (90, z3h), (121, z31), (125, z07), (125, z0b), (110, z05), (110, z09), (124, z3o), (69, z2x), (103, z36), (104, z2v), (112, z35), (53, z26), (94, z2i), (54, z3a)]
noncomputable def lt19 : List ((Nat × Nat) × (Nat → St → Option (Bool × LO))) := [((20, 2), z0n), ((18, 4), z0w), ((132, 17), z0o), ((90, 5), z2k), ((125, 2), z01), ((125, 2), z03), ((124, 9), z37), ((103, 3), z23), ((94, 5), z1j), ((54, 5), z2e), ((19, 2), z0e), ((19, 2), z0h)]
noncomputable def Γ19 : Ctx := ⟨tyTab, fnTab, tblSum tb19, tblLp lt19⟩
theorem tb19_ok : SumL Try.prog tb19 := SumL.cons z0s (SumL.cons z0f (SumL.cons z0r (SumL.cons z0x (SumL.cons z12 (SumL.cons z2g (SumL.cons z13 (SumL.cons z21 (SumL.cons z1e (SumL.cons z1f (SumL.cons z22 (SumL.cons z33 (SumL.cons z15 (SumL.cons z34 (SumL.cons z1l (SumL.cons z1x (SumL.cons z0v (SumL.cons z29 (SumL.cons z0t (SumL.cons z16 (SumL.cons z2p (SumL.cons z1b (SumL.cons z11 (SumL.cons z10 (SumL.cons z1a (SumL.cons z1w (SumL.cons z2z (SumL.cons z2f (SumL.cons z06 (SumL.cons z0a (SumL.cons z04 (SumL.cons z08 (SumL.cons z3g (SumL.cons z2b (SumL.cons z2n (SumL.cons z2c (SumL.cons z2m (SumL.cons z1s (SumL.cons z27 (SumL.cons z30 (SumL.nil))))))))))))))))))))))))))))))))))))))))
theorem lt19_ok : LpL Try.prog fnTab lt19 := LpL.cons z0i (LpL.cons z0q (LpL.cons z0k (LpL.cons z20 (LpL.cons z00 (LpL.cons z02 (LpL.cons z2j (LpL.cons z1o (LpL.cons z18 (LpL.cons z28 (LpL.cons z0g (LpL.cons z0l (LpL.nil))))))))))))
noncomputable def tb20 : List (Nat × (List PT → Option (Bool × AV × List Blk))) := [(129, z0z), (133, z0j), (137, z0y), (139, z1p), (25, z1v), (59, z38), (64, z1u), (66, z2r), (68, z24), (78, z25), (91, z2s), (122, z3k), (131, z1t), (134, z3j), (58, z2a), (67, z2o), (111, z19), (123, z2y), (20, z14), (126, z1r), (138, z3d), (18, z1y), (46, z1n), (132, z1m), (135, z1z), (44, z2d), (90, z3h), (121, z31), (125, z07), (125, z0b), (110, z05), (110, z09), (124, z3o), (69, z2x), (103, z36), (104, z2v), (112, z35), (53, z26), (94, z2i), (54, z3a)]
noncomputable def lt20 : List ((Nat × Nat) × (Nat → St → Option (Bool × LO))) := [((20, 2), z0n), ((18, 4), z0w), ((132, 17), z0o), ((90, 5), z2k), ((125, 2), z01), ((125, 2), z03), ((124, 9), z37), ((103, 3), z23), ((94, 5), z1j), ((54, 5), z2e), ((19, 2), z0e), ((19, 2), z0h)]
noncomputable def Γ20 : Ctx := ⟨tyTab, fnTab, tblSum tb20, tblLp lt20⟩
theorem tb20_ok : SumL Try.prog tb20 := SumL.cons z0s (SumL.cons z0f (SumL.cons z0r (SumL.cons z0x (SumL.cons z12 (SumL.cons z2g (SumL.cons z13 (SumL.cons z21 (SumL.cons z1e (SumL.cons z1f (SumL.cons z22 (SumL.cons z33 (SumL.cons z15 (SumL.cons z34 (SumL.cons z1l (SumL.cons z1x (SumL.cons z0v (SumL.cons z29 (SumL.cons z0t (SumL.cons z16 (SumL.cons z2p (SumL.cons z1b (SumL.cons z11 (SumL.cons z10 (SumL.cons z1a (SumL.cons z1w (SumL.cons z2z (SumL.cons z2f (SumL.cons z06 (SumL.cons z0a (SumL.cons z04 (SumL.cons z08 (SumL.cons z3g (SumL.cons z2b (SumL.cons z2n (SumL.cons z2c (SumL.cons z2m (SumL.cons z1s (SumL.cons z27 (SumL.cons z30 (SumL.nil))))))))))))))))))))))))))))))))))))))))
theorem lt20_ok : LpL Try.prog fnTab lt20 := LpL.cons z0i (LpL.cons z0q (LpL.cons z0k (LpL.cons z20 (LpL.cons z00 (LpL.cons z02 (LpL.cons z2j (LpL.cons z1o (LpL.cons z18 (LpL.cons z28 (LpL.cons z0g (LpL.cons z0l (LpL.nil))))))))))))
noncomputable def z0p : Nat → St → Option (Bool × LO)
  | 9, (St.mk [(0, (AV.v (TV.one (At.sl 7 0 an 1)))), (1, (AV.v (TV.one (At.int IntKind.i64 k)))), (5, (AV.v (TV.one (At.int IntKind.i64 i))))] [(Blk.mk Bool.true (Body.cells [(At.sl 1 0 q0m 1), (At.sl 2 0 q0o 1), (At.sl 3 0 q0n 1)])), (Blk.mk Bool.true (Body.fl FloatKind.f32 b1)), (Blk.mk Bool.true (Body.fl FloatKind.f32 b2)), (Blk.mk Bool.true (Body.fl FloatKind.f32 b3)), (Blk.mk Bool.true (Body.cells [(At.sl 5 0 q0b 1), (At.sl 6 0 q0a 1), (At.sl 7 0 q0c 1)])), (Blk.mk Bool.true (Body.fl FloatKind.f32 b5)), (Blk.mk Bool.true (Body.fl FloatKind.f32 b6)), (Blk.mk Bool.true (Body.fl FloatKind.f32 b7)), (Blk.mk Bool.true (Body.cells [(At.sl 5 0 q0w 1), (At.sl 6 0 q0x 1), (At.sl 7 0 q0v 1)]))]) => some ((z4n an k i b7), (LO.one (Ex.exit 0) (St.mk [(0, (AV.v (TV.one (At.sl 7 0 an 1)))), (1, (AV.v (TV.one (At.int IntKind.i64 (z3y an k i b7))))), (5, (AV.v (TV.one (At.int IntKind.i64 (z58 an k i b7))))), (9, (AV.v (TV.one (At.bool (z59 an k i b7)))))] [(Blk.mk Bool.true (Body.cells [(At.sl 1 0 q0m 1), (At.sl 2 0 q0o 1), (At.sl 3 0 q0n 1)])), (Blk.mk Bool.true (Body.fl FloatKind.f32 b1)), (Blk.mk Bool.true (Body.fl FloatKind.f32 b2)), (Blk.mk Bool.true (Body.fl FloatKind.f32 b3)), (Blk.mk Bool.true (Body.cells [(At.sl 5 0 q0b 1), (At.sl 6 0 q0a 1), (At.sl 7 0 q0c 1)])), (Blk.mk Bool.true (Body.fl FloatKind.f32 b5)), (Blk.mk Bool.true (Body.fl FloatKind.f32 b6)), (Blk.mk Bool.true (Body.fl FloatKind.f32 (z2t an k i b7))), (Blk.mk Bool.true (Body.cells [(At.sl 5 0 q0w 1), (At.sl 6 0 q0x 1), (At.sl 7 0 q0v 1)]))])))
  | _, _ => none
def z4o (an : Nat) (q0m : Nat) (q0o : Nat) (q0n : Nat) (b1 : List Nat) (b2 : List Nat) (b3 : List Nat) (q0b : Nat) (q0a : Nat) (q0c : Nat) (b5 : List Nat) (b6 : List Nat) (q0w : Nat) (q0x : Nat) (q0v : Nat) : Option ((Int × Int × Bool × (List Nat))) → Option (Ex × St)
  | none => none
  | some r => some ((Ex.exit 0), (St.mk [(0, (AV.v (TV.one (At.sl 7 0 an 1)))), (1, (AV.v (TV.one (At.int IntKind.i64 r.1)))), (5, (AV.v (TV.one (At.int IntKind.i64 r.2.1)))), (9, (AV.v (TV.one (At.bool r.2.2.1))))] [(Blk.mk Bool.true (Body.cells [(At.sl 1 0 q0m 1), (At.sl 2 0 q0o 1), (At.sl 3 0 q0n 1)])), (Blk.mk Bool.true (Body.fl FloatKind.f32 b1)), (Blk.mk Bool.true (Body.fl FloatKind.f32 b2)), (Blk.mk Bool.true (Body.fl FloatKind.f32 b3)), (Blk.mk Bool.true (Body.cells [(At.sl 5 0 q0b 1), (At.sl 6 0 q0a 1), (At.sl 7 0 q0c 1)])), (Blk.mk Bool.true (Body.fl FloatKind.f32 b5)), (Blk.mk Bool.true (Body.fl FloatKind.f32 b6)), (Blk.mk Bool.true (Body.fl FloatKind.f32 r.2.2.2)), (Blk.mk Bool.true (Body.cells [(At.sl 5 0 q0w 1), (At.sl 6 0 q0x 1), (At.sl 7 0 q0v 1)]))]))
def z9c (an : Nat) (q0m : Nat) (q0o : Nat) (q0n : Nat) (b1 : List Nat) (b2 : List Nat) (b3 : List Nat) (q0b : Nat) (q0a : Nat) (q0c : Nat) (b5 : List Nat) (b6 : List Nat) (q0w : Nat) (q0x : Nat) (q0v : Nat) (x : Option ((Int × Int × Bool × (List Nat)))) : LO := (LO.one (Ex.exit 0) (St.mk [(0, (AV.v (TV.one (At.sl 7 0 an 1)))), (1, (AV.v (TV.one (At.int IntKind.i64 (x.getD default).1)))), (5, (AV.v (TV.one (At.int IntKind.i64 (x.getD default).2.1)))), (9, (AV.v (TV.one (At.bool (x.getD default).2.2.1))))] [(Blk.mk Bool.true (Body.cells [(At.sl 1 0 q0m 1), (At.sl 2 0 q0o 1), (At.sl 3 0 q0n 1)])), (Blk.mk Bool.true (Body.fl FloatKind.f32 b1)), (Blk.mk Bool.true (Body.fl FloatKind.f32 b2)), (Blk.mk Bool.true (Body.fl FloatKind.f32 b3)), (Blk.mk Bool.true (Body.cells [(At.sl 5 0 q0b 1), (At.sl 6 0 q0a 1), (At.sl 7 0 q0c 1)])), (Blk.mk Bool.true (Body.fl FloatKind.f32 b5)), (Blk.mk Bool.true (Body.fl FloatKind.f32 b6)), (Blk.mk Bool.true (Body.fl FloatKind.f32 (x.getD default).2.2.2)), (Blk.mk Bool.true (Body.cells [(At.sl 5 0 q0w 1), (At.sl 6 0 q0x 1), (At.sl 7 0 q0v 1)]))]))
theorem z9r (an : Nat) (q0m : Nat) (q0o : Nat) (q0n : Nat) (b1 : List Nat) (b2 : List Nat) (b3 : List Nat) (q0b : Nat) (q0a : Nat) (q0c : Nat) (b5 : List Nat) (b6 : List Nat) (q0w : Nat) (q0x : Nat) (q0v : Nat) : ∀ x : Option ((Int × Int × Bool × (List Nat))), x.isSome = true → (z4o an q0m q0o q0n b1 b2 b3 q0b q0a q0c b5 b6 q0w q0x q0v) x = some (pick (z9c an q0m q0o q0n b1 b2 b3 q0b q0a q0c b5 b6 q0w q0x q0v x))
  | none, h => by cases h
  | some r, _ => rfl
theorem z9s (an : Nat) (k : Int) (i : Int) (q0m : Nat) (q0o : Nat) (q0n : Nat) (b1 : List Nat) (b2 : List Nat) (b3 : List Nat) (q0b : Nat) (q0a : Nat) (q0c : Nat) (b5 : List Nat) (b6 : List Nat) (b7 : List Nat) (q0w : Nat) (q0x : Nat) (q0v : Nat) (K : Ex → St → Option (Ex × St)) : evC (R := Ex × St) Γ20 (evFn Γ20 8 8) 19 9 fi19.nt fi19.live fi19.nl 8 (findL 2 (loopsIn fi19.code)) (St.mk [(0, (AV.v (TV.one (At.sl 7 0 an 1)))), (1, (AV.v (TV.one (At.int IntKind.i64 k)))), (5, (AV.v (TV.one (At.int IntKind.i64 i))))] [(Blk.mk Bool.true (Body.cells [(At.sl 1 0 q0m 1), (At.sl 2 0 q0o 1), (At.sl 3 0 q0n 1)])), (Blk.mk Bool.true (Body.fl FloatKind.f32 b1)), (Blk.mk Bool.true (Body.fl FloatKind.f32 b2)), (Blk.mk Bool.true (Body.fl FloatKind.f32 b3)), (Blk.mk Bool.true (Body.cells [(At.sl 5 0 q0b 1), (At.sl 6 0 q0a 1), (At.sl 7 0 q0c 1)])), (Blk.mk Bool.true (Body.fl FloatKind.f32 b5)), (Blk.mk Bool.true (Body.fl FloatKind.f32 b6)), (Blk.mk Bool.true (Body.fl FloatKind.f32 b7)), (Blk.mk Bool.true (Body.cells [(At.sl 5 0 q0w 1), (At.sl 6 0 q0x 1), (At.sl 7 0 q0v 1)]))]) K = z3l an k i b7 (fun k' i' b7' => K .normal (St.mk [(0, (AV.v (TV.one (At.sl 7 0 an 1)))), (1, (AV.v (TV.one (At.int IntKind.i64 k')))), (5, (AV.v (TV.one (At.int IntKind.i64 i'))))] [(Blk.mk Bool.true (Body.cells [(At.sl 1 0 q0m 1), (At.sl 2 0 q0o 1), (At.sl 3 0 q0n 1)])), (Blk.mk Bool.true (Body.fl FloatKind.f32 b1)), (Blk.mk Bool.true (Body.fl FloatKind.f32 b2)), (Blk.mk Bool.true (Body.fl FloatKind.f32 b3)), (Blk.mk Bool.true (Body.cells [(At.sl 5 0 q0b 1), (At.sl 6 0 q0a 1), (At.sl 7 0 q0c 1)])), (Blk.mk Bool.true (Body.fl FloatKind.f32 b5)), (Blk.mk Bool.true (Body.fl FloatKind.f32 b6)), (Blk.mk Bool.true (Body.fl FloatKind.f32 b7')), (Blk.mk Bool.true (Body.cells [(At.sl 5 0 q0w 1), (At.sl 6 0 q0x 1), (At.sl 7 0 q0v 1)]))])) (fun c0_ c1_ c2_ c3_ => K (Ex.exit 0) (St.mk [(0, (AV.v (TV.one (At.sl 7 0 an 1)))), (1, (AV.v (TV.one (At.int IntKind.i64 c0_)))), (5, (AV.v (TV.one (At.int IntKind.i64 c1_)))), (9, (AV.v (TV.one (At.bool c2_))))] [(Blk.mk Bool.true (Body.cells [(At.sl 1 0 q0m 1), (At.sl 2 0 q0o 1), (At.sl 3 0 q0n 1)])), (Blk.mk Bool.true (Body.fl FloatKind.f32 b1)), (Blk.mk Bool.true (Body.fl FloatKind.f32 b2)), (Blk.mk Bool.true (Body.fl FloatKind.f32 b3)), (Blk.mk Bool.true (Body.cells [(At.sl 5 0 q0b 1), (At.sl 6 0 q0a 1), (At.sl 7 0 q0c 1)])), (Blk.mk Bool.true (Body.fl FloatKind.f32 b5)), (Blk.mk Bool.true (Body.fl FloatKind.f32 b6)), (Blk.mk Bool.true (Body.fl FloatKind.f32 c3_)), (Blk.mk Bool.true (Body.cells [(At.sl 5 0 q0w 1), (At.sl 6 0 q0x 1), (At.sl 7 0 q0v 1)]))])) := by kernel_rfl
theorem z9n (an : Nat) (q0m : Nat) (q0o : Nat) (q0n : Nat) (b1 : List Nat) (b2 : List Nat) (b3 : List Nat) (q0b : Nat) (q0a : Nat) (q0c : Nat) (b5 : List Nat) (b6 : List Nat) (q0w : Nat) (q0x : Nat) (q0v : Nat) : ∀ (n : Nat) (k : Int) (i : Int) (b7 : List Nat), iter 19 2 9 (evC (R := Ex × St) Γ20 (evFn Γ20 8 8) 19 9 fi19.nt fi19.live fi19.nl 8 (findL 2 (loopsIn fi19.code))) n (St.mk [(0, (AV.v (TV.one (At.sl 7 0 an 1)))), (1, (AV.v (TV.one (At.int IntKind.i64 k)))), (5, (AV.v (TV.one (At.int IntKind.i64 i))))] [(Blk.mk Bool.true (Body.cells [(At.sl 1 0 q0m 1), (At.sl 2 0 q0o 1), (At.sl 3 0 q0n 1)])), (Blk.mk Bool.true (Body.fl FloatKind.f32 b1)), (Blk.mk Bool.true (Body.fl FloatKind.f32 b2)), (Blk.mk Bool.true (Body.fl FloatKind.f32 b3)), (Blk.mk Bool.true (Body.cells [(At.sl 5 0 q0b 1), (At.sl 6 0 q0a 1), (At.sl 7 0 q0c 1)])), (Blk.mk Bool.true (Body.fl FloatKind.f32 b5)), (Blk.mk Bool.true (Body.fl FloatKind.f32 b6)), (Blk.mk Bool.true (Body.fl FloatKind.f32 b7)), (Blk.mk Bool.true (Body.cells [(At.sl 5 0 q0w 1), (At.sl 6 0 q0x 1), (At.sl 7 0 q0v 1)]))]) (fun e st => some (e, st)) = (z4o an q0m q0o q0n b1 b2 b3 q0b q0a q0c b5 b6 q0w q0x q0v) (z1g an n k i b7) := by
  intro n
  induction n with
  | zero => intros; rfl
  | succ n ih =>
    intro k i b7
    refine Eq.trans (iter_succ ..) (Eq.trans (z9s an k i q0m q0o q0n b1 b2 b3 q0b q0a q0c b5 b6 b7 q0w q0x q0v (nextK 19 2 9 (evC (R := Ex × St) Γ20 (evFn Γ20 8 8) 19 9 fi19.nt fi19.live fi19.nl 8 (findL 2 (loopsIn fi19.code))) n (fun e st => some (e, st)))) (Eq.trans ?_ (z8s (z4o an q0m q0o q0n b1 b2 b3 q0b q0a q0c b5 b6 q0w q0x q0v) rfl an k i b7 (fun k' i' b7' => z1g an n k' i' b7') (fun c0_ c1_ c2_ c3_ => some (c0_, c1_, c2_, c3_)))))
    exact congrArg (fun kn_ => z3l an k i b7 kn_ (fun c0_ c1_ c2_ c3_ => (z4o an q0m q0o q0n b1 b2 b3 q0b q0a q0c b5 b6 q0w q0x q0v) (some (c0_, c1_, c2_, c3_)))) (funext fun k' => funext fun i' => funext fun b7' => ih k' i' b7')
theorem z0u : LoopOne Try.prog fnTab 19 2 z0p := lp_of (Γ := Γ20) tyTab_ok (FnL.ok fnTab_ok _ _) (LpL.ok lt20_ok) (SumL.ok tb20_ok _) mixed (fi := fi19) (by kernel_rfl) (by kernel_rfl) (by
  intro lo st out hp
  unfold z0p at hp
  split at hp
  · rename_i an k i q0m q0o q0n b1 b2 b3 q0b q0a q0c b5 b6 b7 q0w q0x q0v
    injection hp with hp
    injection hp with h1 h2
    subst h2
    exact ⟨8, 8, big, Eq.trans (z9n an q0m q0o q0n b1 b2 b3 q0b q0a q0c b5 b6 q0w q0x q0v big k i b7) (z9r an q0m q0o q0n b1 b2 b3 q0b q0a q0c b5 b6 q0w q0x q0v (z1g an big k i b7) h1)⟩
  · cases hp)
noncomputable def tb21 : List (Nat × (List PT → Option (Bool × AV × List Blk))) := [(129, z0z), (133, z0j), (137, z0y), (139, z1p), (25, z1v), (59, z38), (64, z1u), (66, z2r), (68, z24), (78, z25), (91, z2s), (122, z3k), (131, z1t), (134, z3j), (58, z2a), (67, z2o), (111, z19), (123, z2y), (20, z14), (126, z1r), (138, z3d), (18, z1y), (46, z1n), (132, z1m), (135, z1z), (44, z2d), (90, z3h), (121, z31), (125, z07), (125, z0b), (110, z05), (110, z09), (124, z3o), (69, z2x), (103, z36), (104, z2v), (112, z35), (53, z26), (94, z2i), (54, z3a)]
noncomputable def lt21 : List ((Nat × Nat) × (Nat → St → Option (Bool × LO))) := [((20, 2), z0n), ((18, 4), z0w), ((132, 17), z0o), ((90, 5), z2k), ((125, 2), z01), ((125, 2), z03), ((124, 9), z37), ((103, 3), z23), ((94, 5), z1j), ((54, 5), z2e), ((19, 2), z0e), ((19, 2), z0h), ((19, 2), z0p)]
noncomputable def Γ21 : Ctx := ⟨tyTab, fnTab, tblSum tb21, tblLp lt21⟩
theorem tb21_ok : SumL Try.prog tb21 := SumL.cons z0s (SumL.cons z0f (SumL.cons z0r (SumL.cons z0x (SumL.cons z12 (SumL.cons z2g (SumL.cons z13 (SumL.cons z21 (SumL.cons z1e (SumL.cons z1f (SumL.cons z22 (SumL.cons z33 (SumL.cons z15 (SumL.cons z34 (SumL.cons z1l (SumL.cons z1x (SumL.cons z0v (SumL.cons z29 (SumL.cons z0t (SumL.cons z16 (SumL.cons z2p (SumL.cons z1b (SumL.cons z11 (SumL.cons z10 (SumL.cons z1a (SumL.cons z1w (SumL.cons z2z (SumL.cons z2f (SumL.cons z06 (SumL.cons z0a (SumL.cons z04 (SumL.cons z08 (SumL.cons z3g (SumL.cons z2b (SumL.cons z2n (SumL.cons z2c (SumL.cons z2m (SumL.cons z1s (SumL.cons z27 (SumL.cons z30 (SumL.nil))))))))))))))))))))))))))))))))))))))))
theorem lt21_ok : LpL Try.prog fnTab lt21 := LpL.cons z0i (LpL.cons z0q (LpL.cons z0k (LpL.cons z20 (LpL.cons z00 (LpL.cons z02 (LpL.cons z2j (LpL.cons z1o (LpL.cons z18 (LpL.cons z28 (LpL.cons z0g (LpL.cons z0l (LpL.cons z0u (LpL.nil)))))))))))))
noncomputable def z39 : List PT → Option (Bool × AV × List Blk)
  | [.one (.s (.int .i64 q01))] => some ((z8c q01), ((AV.v (TV.one (At.bool (z7v q01)))), []))
  | _ => none
def zba (q01 : Int) : Option (Bool) → Option (AV × List Blk)
  | some r => some ((AV.v (TV.one (At.bool r))), [])
  | none => none
theorem zco (q01 : Int) : evFn Γ21 8 8 13 (impTs 0 [.one (.s (.int .i64 q01))]).1 (impTs 0 [.one (.s (.int .i64 q01))]).2 (expo (impTs 0 [.one (.s (.int .i64 q01))]).2.length) = z5e q01 (fun c0_ => some ((AV.v (TV.one (At.bool c0_))), [])) := by kernel_rfl
theorem z3b : SumOne Try.prog 13 z39 := sum_of (Γ := Γ21) (fuel := 8) (d := 8) tyTab_ok (FnL.ok fnTab_ok _ _) (LpL.ok lt21_ok) (SumL.ok tb21_ok _) mixed (by
  intro pts v news hp hc
  clear hc
  unfold z39 at hp
  split at hp
  · rename_i q01
    exact Eq.trans (Eq.trans (zco q01) (zc7 (zba q01) rfl q01 (fun c0_ => some c0_))) (fin_out (o := (zba q01)) (x := z5f q01) (d := default) (V := fun r => ((AV.v (TV.one (At.bool r))), [])) (fun r => rfl) hp)
  · cases hp)
noncomputable def tb22 : List (Nat × (List PT → Option (Bool × AV × List Blk))) := [(129, z0z), (133, z0j), (137, z0y), (139, z1p), (25, z1v), (59, z38), (64, z1u), (66, z2r), (68, z24), (78, z25), (91, z2s), (122, z3k), (131, z1t), (134, z3j), (58, z2a), (67, z2o), (111, z19), (123, z2y), (20, z14), (126, z1r), (138, z3d), (18, z1y), (46, z1n), (132, z1m), (135, z1z), (44, z2d), (90, z3h), (121, z31), (125, z07), (125, z0b), (110, z05), (110, z09), (124, z3o), (69, z2x), (103, z36), (104, z2v), (112, z35), (53, z26), (94, z2i), (54, z3a), (13, z39)]
noncomputable def lt22 : List ((Nat × Nat) × (Nat → St → Option (Bool × LO))) := [((20, 2), z0n), ((18, 4), z0w), ((132, 17), z0o), ((90, 5), z2k), ((125, 2), z01), ((125, 2), z03), ((124, 9), z37), ((103, 3), z23), ((94, 5), z1j), ((54, 5), z2e), ((19, 2), z0e), ((19, 2), z0h), ((19, 2), z0p)]
noncomputable def Γ22 : Ctx := ⟨tyTab, fnTab, tblSum tb22, tblLp lt22⟩
theorem tb22_ok : SumL Try.prog tb22 := SumL.cons z0s (SumL.cons z0f (SumL.cons z0r (SumL.cons z0x (SumL.cons z12 (SumL.cons z2g (SumL.cons z13 (SumL.cons z21 (SumL.cons z1e (SumL.cons z1f (SumL.cons z22 (SumL.cons z33 (SumL.cons z15 (SumL.cons z34 (SumL.cons z1l (SumL.cons z1x (SumL.cons z0v (SumL.cons z29 (SumL.cons z0t (SumL.cons z16 (SumL.cons z2p (SumL.cons z1b (SumL.cons z11 (SumL.cons z10 (SumL.cons z1a (SumL.cons z1w (SumL.cons z2z (SumL.cons z2f (SumL.cons z06 (SumL.cons z0a (SumL.cons z04 (SumL.cons z08 (SumL.cons z3g (SumL.cons z2b (SumL.cons z2n (SumL.cons z2c (SumL.cons z2m (SumL.cons z1s (SumL.cons z27 (SumL.cons z30 (SumL.cons z3b (SumL.nil)))))))))))))))))))))))))))))))))))))))))
theorem lt22_ok : LpL Try.prog fnTab lt22 := LpL.cons z0i (LpL.cons z0q (LpL.cons z0k (LpL.cons z20 (LpL.cons z00 (LpL.cons z02 (LpL.cons z2j (LpL.cons z1o (LpL.cons z18 (LpL.cons z28 (LpL.cons z0g (LpL.cons z0l (LpL.cons z0u (LpL.nil)))))))))))))
noncomputable def tb23 : List (Nat × (List PT → Option (Bool × AV × List Blk))) := [(129, z0z), (133, z0j), (137, z0y), (139, z1p), (25, z1v), (59, z38), (64, z1u), (66, z2r), (68, z24), (78, z25), (91, z2s), (122, z3k), (131, z1t), (134, z3j), (58, z2a), (67, z2o), (111, z19), (123, z2y), (20, z14), (126, z1r), (138, z3d), (18, z1y), (46, z1n), (132, z1m), (135, z1z), (44, z2d), (90, z3h), (121, z31), (125, z07), (125, z0b), (110, z05), (110, z09), (124, z3o), (69, z2x), (103, z36), (104, z2v), (112, z35), (53, z26), (94, z2i), (54, z3a), (13, z39)]
noncomputable def lt23 : List ((Nat × Nat) × (Nat → St → Option (Bool × LO))) := [((20, 2), z0n), ((18, 4), z0w), ((132, 17), z0o), ((90, 5), z2k), ((125, 2), z01), ((125, 2), z03), ((124, 9), z37), ((103, 3), z23), ((94, 5), z1j), ((54, 5), z2e), ((19, 2), z0e), ((19, 2), z0h), ((19, 2), z0p)]
noncomputable def Γ23 : Ctx := ⟨tyTab, fnTab, tblSum tb23, tblLp lt23⟩
theorem tb23_ok : SumL Try.prog tb23 := SumL.cons z0s (SumL.cons z0f (SumL.cons z0r (SumL.cons z0x (SumL.cons z12 (SumL.cons z2g (SumL.cons z13 (SumL.cons z21 (SumL.cons z1e (SumL.cons z1f (SumL.cons z22 (SumL.cons z33 (SumL.cons z15 (SumL.cons z34 (SumL.cons z1l (SumL.cons z1x (SumL.cons z0v (SumL.cons z29 (SumL.cons z0t (SumL.cons z16 (SumL.cons z2p (SumL.cons z1b (SumL.cons z11 (SumL.cons z10 (SumL.cons z1a (SumL.cons z1w (SumL.cons z2z (SumL.cons z2f (SumL.cons z06 (SumL.cons z0a (SumL.cons z04 (SumL.cons z08 (SumL.cons z3g (SumL.cons z2b (SumL.cons z2n (SumL.cons z2c (SumL.cons z2m (SumL.cons z1s (SumL.cons z27 (SumL.cons z30 (SumL.cons z3b (SumL.nil)))))))))))))))))))))))))))))))))))))))))
theorem lt23_ok : LpL Try.prog fnTab lt23 := LpL.cons z0i (LpL.cons z0q (LpL.cons z0k (LpL.cons z20 (LpL.cons z00 (LpL.cons z02 (LpL.cons z2j (LpL.cons z1o (LpL.cons z18 (LpL.cons z28 (LpL.cons z0g (LpL.cons z0l (LpL.cons z0u (LpL.nil)))))))))))))
noncomputable def tb24 : List (Nat × (List PT → Option (Bool × AV × List Blk))) := [(129, z0z), (133, z0j), (137, z0y), (139, z1p), (25, z1v), (59, z38), (64, z1u), (66, z2r), (68, z24), (78, z25), (91, z2s), (122, z3k), (131, z1t), (134, z3j), (58, z2a), (67, z2o), (111, z19), (123, z2y), (20, z14), (126, z1r), (138, z3d), (18, z1y), (46, z1n), (132, z1m), (135, z1z), (44, z2d), (90, z3h), (121, z31), (125, z07), (125, z0b), (110, z05), (110, z09), (124, z3o), (69, z2x), (103, z36), (104, z2v), (112, z35), (53, z26), (94, z2i), (54, z3a), (13, z39)]
noncomputable def lt24 : List ((Nat × Nat) × (Nat → St → Option (Bool × LO))) := [((20, 2), z0n), ((18, 4), z0w), ((132, 17), z0o), ((90, 5), z2k), ((125, 2), z01), ((125, 2), z03), ((124, 9), z37), ((103, 3), z23), ((94, 5), z1j), ((54, 5), z2e), ((19, 2), z0e), ((19, 2), z0h), ((19, 2), z0p)]
noncomputable def Γ24 : Ctx := ⟨tyTab, fnTab, tblSum tb24, tblLp lt24⟩
theorem tb24_ok : SumL Try.prog tb24 := SumL.cons z0s (SumL.cons z0f (SumL.cons z0r (SumL.cons z0x (SumL.cons z12 (SumL.cons z2g (SumL.cons z13 (SumL.cons z21 (SumL.cons z1e (SumL.cons z1f (SumL.cons z22 (SumL.cons z33 (SumL.cons z15 (SumL.cons z34 (SumL.cons z1l (SumL.cons z1x (SumL.cons z0v (SumL.cons z29 (SumL.cons z0t (SumL.cons z16 (SumL.cons z2p (SumL.cons z1b (SumL.cons z11 (SumL.cons z10 (SumL.cons z1a (SumL.cons z1w (SumL.cons z2z (SumL.cons z2f (SumL.cons z06 (SumL.cons z0a (SumL.cons z04 (SumL.cons z08 (SumL.cons z3g (SumL.cons z2b (SumL.cons z2n (SumL.cons z2c (SumL.cons z2m (SumL.cons z1s (SumL.cons z27 (SumL.cons z30 (SumL.cons z3b (SumL.nil)))))))))))))))))))))))))))))))))))))))))
theorem lt24_ok : LpL Try.prog fnTab lt24 := LpL.cons z0i (LpL.cons z0q (LpL.cons z0k (LpL.cons z20 (LpL.cons z00 (LpL.cons z02 (LpL.cons z2j (LpL.cons z1o (LpL.cons z18 (LpL.cons z28 (LpL.cons z0g (LpL.cons z0l (LpL.cons z0u (LpL.nil)))))))))))))
noncomputable def tb25 : List (Nat × (List PT → Option (Bool × AV × List Blk))) := [(129, z0z), (133, z0j), (137, z0y), (139, z1p), (25, z1v), (59, z38), (64, z1u), (66, z2r), (68, z24), (78, z25), (91, z2s), (122, z3k), (131, z1t), (134, z3j), (58, z2a), (67, z2o), (111, z19), (123, z2y), (20, z14), (126, z1r), (138, z3d), (18, z1y), (46, z1n), (132, z1m), (135, z1z), (44, z2d), (90, z3h), (121, z31), (125, z07), (125, z0b), (110, z05), (110, z09), (124, z3o), (69, z2x), (103, z36), (104, z2v), (112, z35), (53, z26), (94, z2i), (54, z3a), (13, z39)]
noncomputable def lt25 : List ((Nat × Nat) × (Nat → St → Option (Bool × LO))) := [((20, 2), z0n), ((18, 4), z0w), ((132, 17), z0o), ((90, 5), z2k), ((125, 2), z01), ((125, 2), z03), ((124, 9), z37), ((103, 3), z23), ((94, 5), z1j), ((54, 5), z2e), ((19, 2), z0e), ((19, 2), z0h), ((19, 2), z0p)]
noncomputable def Γ25 : Ctx := ⟨tyTab, fnTab, tblSum tb25, tblLp lt25⟩
theorem tb25_ok : SumL Try.prog tb25 := SumL.cons z0s (SumL.cons z0f (SumL.cons z0r (SumL.cons z0x (SumL.cons z12 (SumL.cons z2g (SumL.cons z13 (SumL.cons z21 (SumL.cons z1e (SumL.cons z1f (SumL.cons z22 (SumL.cons z33 (SumL.cons z15 (SumL.cons z34 (SumL.cons z1l (SumL.cons z1x (SumL.cons z0v (SumL.cons z29 (SumL.cons z0t (SumL.cons z16 (SumL.cons z2p (SumL.cons z1b (SumL.cons z11 (SumL.cons z10 (SumL.cons z1a (SumL.cons z1w (SumL.cons z2z (SumL.cons z2f (SumL.cons z06 (SumL.cons z0a (SumL.cons z04 (SumL.cons z08 (SumL.cons z3g (SumL.cons z2b (SumL.cons z2n (SumL.cons z2c (SumL.cons z2m (SumL.cons z1s (SumL.cons z27 (SumL.cons z30 (SumL.cons z3b (SumL.nil)))))))))))))))))))))))))))))))))))))))))
theorem lt25_ok : LpL Try.prog fnTab lt25 := LpL.cons z0i (LpL.cons z0q (LpL.cons z0k (LpL.cons z20 (LpL.cons z00 (LpL.cons z02 (LpL.cons z2j (LpL.cons z1o (LpL.cons z18 (LpL.cons z28 (LpL.cons z0g (LpL.cons z0l (LpL.cons z0u (LpL.nil)))))))))))))
noncomputable def tb26 : List (Nat × (List PT → Option (Bool × AV × List Blk))) := [(129, z0z), (133, z0j), (137, z0y), (139, z1p), (25, z1v), (59, z38), (64, z1u), (66, z2r), (68, z24), (78, z25), (91, z2s), (122, z3k), (131, z1t), (134, z3j), (58, z2a), (67, z2o), (111, z19), (123, z2y), (20, z14), (126, z1r), (138, z3d), (18, z1y), (46, z1n), (132, z1m), (135, z1z), (44, z2d), (90, z3h), (121, z31), (125, z07), (125, z0b), (110, z05), (110, z09), (124, z3o), (69, z2x), (103, z36), (104, z2v), (112, z35), (53, z26), (94, z2i), (54, z3a), (13, z39)]
noncomputable def lt26 : List ((Nat × Nat) × (Nat → St → Option (Bool × LO))) := [((20, 2), z0n), ((18, 4), z0w), ((132, 17), z0o), ((90, 5), z2k), ((125, 2), z01), ((125, 2), z03), ((124, 9), z37), ((103, 3), z23), ((94, 5), z1j), ((54, 5), z2e), ((19, 2), z0e), ((19, 2), z0h), ((19, 2), z0p)]
noncomputable def Γ26 : Ctx := ⟨tyTab, fnTab, tblSum tb26, tblLp lt26⟩
theorem tb26_ok : SumL Try.prog tb26 := SumL.cons z0s (SumL.cons z0f (SumL.cons z0r (SumL.cons z0x (SumL.cons z12 (SumL.cons z2g (SumL.cons z13 (SumL.cons z21 (SumL.cons z1e (SumL.cons z1f (SumL.cons z22 (SumL.cons z33 (SumL.cons z15 (SumL.cons z34 (SumL.cons z1l (SumL.cons z1x (SumL.cons z0v (SumL.cons z29 (SumL.cons z0t (SumL.cons z16 (SumL.cons z2p (SumL.cons z1b (SumL.cons z11 (SumL.cons z10 (SumL.cons z1a (SumL.cons z1w (SumL.cons z2z (SumL.cons z2f (SumL.cons z06 (SumL.cons z0a (SumL.cons z04 (SumL.cons z08 (SumL.cons z3g (SumL.cons z2b (SumL.cons z2n (SumL.cons z2c (SumL.cons z2m (SumL.cons z1s (SumL.cons z27 (SumL.cons z30 (SumL.cons z3b (SumL.nil)))))))))))))))))))))))))))))))))))))))))
theorem lt26_ok : LpL Try.prog fnTab lt26 := LpL.cons z0i (LpL.cons z0q (LpL.cons z0k (LpL.cons z20 (LpL.cons z00 (LpL.cons z02 (LpL.cons z2j (LpL.cons z1o (LpL.cons z18 (LpL.cons z28 (LpL.cons z0g (LpL.cons z0l (LpL.cons z0u (LpL.nil)))))))))))))
noncomputable def tb27 : List (Nat × (List PT → Option (Bool × AV × List Blk))) := [(129, z0z), (133, z0j), (137, z0y), (139, z1p), (25, z1v), (59, z38), (64, z1u), (66, z2r), (68, z24), (78, z25), (91, z2s), (122, z3k), (131, z1t), (134, z3j), (58, z2a), (67, z2o), (111, z19), (123, z2y), (20, z14), (126, z1r), (138, z3d), (18, z1y), (46, z1n), (132, z1m), (135, z1z), (44, z2d), (90, z3h), (121, z31), (125, z07), (125, z0b), (110, z05), (110, z09), (124, z3o), (69, z2x), (103, z36), (104, z2v), (112, z35), (53, z26), (94, z2i), (54, z3a), (13, z39)]
noncomputable def lt27 : List ((Nat × Nat) × (Nat → St → Option (Bool × LO))) := [((20, 2), z0n), ((18, 4), z0w), ((132, 17), z0o), ((90, 5), z2k), ((125, 2), z01), ((125, 2), z03), ((124, 9), z37), ((103, 3), z23), ((94, 5), z1j), ((54, 5), z2e), ((19, 2), z0e), ((19, 2), z0h), ((19, 2), z0p)]
noncomputable def Γ27 : Ctx := ⟨tyTab, fnTab, tblSum tb27, tblLp lt27⟩
theorem tb27_ok : SumL Try.prog tb27 := SumL.cons z0s (SumL.cons z0f (SumL.cons z0r (SumL.cons z0x (SumL.cons z12 (SumL.cons z2g (SumL.cons z13 (SumL.cons z21 (SumL.cons z1e (SumL.cons z1f (SumL.cons z22 (SumL.cons z33 (SumL.cons z15 (SumL.cons z34 (SumL.cons z1l (SumL.cons z1x (SumL.cons z0v (SumL.cons z29 (SumL.cons z0t (SumL.cons z16 (SumL.cons z2p (SumL.cons z1b (SumL.cons z11 (SumL.cons z10 (SumL.cons z1a (SumL.cons z1w (SumL.cons z2z (SumL.cons z2f (SumL.cons z06 (SumL.cons z0a (SumL.cons z04 (SumL.cons z08 (SumL.cons z3g (SumL.cons z2b (SumL.cons z2n (SumL.cons z2c (SumL.cons z2m (SumL.cons z1s (SumL.cons z27 (SumL.cons z30 (SumL.cons z3b (SumL.nil)))))))))))))))))))))))))))))))))))))))))
theorem lt27_ok : LpL Try.prog fnTab lt27 := LpL.cons z0i (LpL.cons z0q (LpL.cons z0k (LpL.cons z20 (LpL.cons z00 (LpL.cons z02 (LpL.cons z2j (LpL.cons z1o (LpL.cons z18 (LpL.cons z28 (LpL.cons z0g (LpL.cons z0l (LpL.cons z0u (LpL.nil)))))))))))))
noncomputable def tb28 : List (Nat × (List PT → Option (Bool × AV × List Blk))) := [(129, z0z), (133, z0j), (137, z0y), (139, z1p), (25, z1v), (59, z38), (64, z1u), (66, z2r), (68, z24), (78, z25), (91, z2s), (122, z3k), (131, z1t), (134, z3j), (58, z2a), (67, z2o), (111, z19), (123, z2y), (20, z14), (126, z1r), (138, z3d), (18, z1y), (46, z1n), (132, z1m), (135, z1z), (44, z2d), (90, z3h), (121, z31), (125, z07), (125, z0b), (110, z05), (110, z09), (124, z3o), (69, z2x), (103, z36), (104, z2v), (112, z35), (53, z26), (94, z2i), (54, z3a), (13, z39)]
noncomputable def lt28 : List ((Nat × Nat) × (Nat → St → Option (Bool × LO))) := [((20, 2), z0n), ((18, 4), z0w), ((132, 17), z0o), ((90, 5), z2k), ((125, 2), z01), ((125, 2), z03), ((124, 9), z37), ((103, 3), z23), ((94, 5), z1j), ((54, 5), z2e), ((19, 2), z0e), ((19, 2), z0h), ((19, 2), z0p)]
noncomputable def Γ28 : Ctx := ⟨tyTab, fnTab, tblSum tb28, tblLp lt28⟩
theorem tb28_ok : SumL Try.prog tb28 := SumL.cons z0s (SumL.cons z0f (SumL.cons z0r (SumL.cons z0x (SumL.cons z12 (SumL.cons z2g (SumL.cons z13 (SumL.cons z21 (SumL.cons z1e (SumL.cons z1f (SumL.cons z22 (SumL.cons z33 (SumL.cons z15 (SumL.cons z34 (SumL.cons z1l (SumL.cons z1x (SumL.cons z0v (SumL.cons z29 (SumL.cons z0t (SumL.cons z16 (SumL.cons z2p (SumL.cons z1b (SumL.cons z11 (SumL.cons z10 (SumL.cons z1a (SumL.cons z1w (SumL.cons z2z (SumL.cons z2f (SumL.cons z06 (SumL.cons z0a (SumL.cons z04 (SumL.cons z08 (SumL.cons z3g (SumL.cons z2b (SumL.cons z2n (SumL.cons z2c (SumL.cons z2m (SumL.cons z1s (SumL.cons z27 (SumL.cons z30 (SumL.cons z3b (SumL.nil)))))))))))))))))))))))))))))))))))))))))
theorem lt28_ok : LpL Try.prog fnTab lt28 := LpL.cons z0i (LpL.cons z0q (LpL.cons z0k (LpL.cons z20 (LpL.cons z00 (LpL.cons z02 (LpL.cons z2j (LpL.cons z1o (LpL.cons z18 (LpL.cons z28 (LpL.cons z0g (LpL.cons z0l (LpL.cons z0u (LpL.nil)))))))))))))
noncomputable def tb29 : List (Nat × (List PT → Option (Bool × AV × List Blk))) := [(129, z0z), (133, z0j), (137, z0y), (139, z1p), (25, z1v), (59, z38), (64, z1u), (66, z2r), (68, z24), (78, z25), (91, z2s), (122, z3k), (131, z1t), (134, z3j), (58, z2a), (67, z2o), (111, z19), (123, z2y), (20, z14), (126, z1r), (138, z3d), (18, z1y), (46, z1n), (132, z1m), (135, z1z), (44, z2d), (90, z3h), (121, z31), (125, z07), (125, z0b), (110, z05), (110, z09), (124, z3o), (69, z2x), (103, z36), (104, z2v), (112, z35), (53, z26), (94, z2i), (54, z3a), (13, z39)]
noncomputable def lt29 : List ((Nat × Nat) × (Nat → St → Option (Bool × LO))) := [((20, 2), z0n), ((18, 4), z0w), ((132, 17), z0o), ((90, 5), z2k), ((125, 2), z01), ((125, 2), z03), ((124, 9), z37), ((103, 3), z23), ((94, 5), z1j), ((54, 5), z2e), ((19, 2), z0e), ((19, 2), z0h), ((19, 2), z0p)]
noncomputable def Γ29 : Ctx := ⟨tyTab, fnTab, tblSum tb29, tblLp lt29⟩
theorem tb29_ok : SumL Try.prog tb29 := SumL.cons z0s (SumL.cons z0f (SumL.cons z0r (SumL.cons z0x (SumL.cons z12 (SumL.cons z2g (SumL.cons z13 (SumL.cons z21 (SumL.cons z1e (SumL.cons z1f (SumL.cons z22 (SumL.cons z33 (SumL.cons z15 (SumL.cons z34 (SumL.cons z1l (SumL.cons z1x (SumL.cons z0v (SumL.cons z29 (SumL.cons z0t (SumL.cons z16 (SumL.cons z2p (SumL.cons z1b (SumL.cons z11 (SumL.cons z10 (SumL.cons z1a (SumL.cons z1w (SumL.cons z2z (SumL.cons z2f (SumL.cons z06 (SumL.cons z0a (SumL.cons z04 (SumL.cons z08 (SumL.cons z3g (SumL.cons z2b (SumL.cons z2n (SumL.cons z2c (SumL.cons z2m (SumL.cons z1s (SumL.cons z27 (SumL.cons z30 (SumL.cons z3b (SumL.nil)))))))))))))))))))))))))))))))))))))))))
theorem lt29_ok : LpL Try.prog fnTab lt29 := LpL.cons z0i (LpL.cons z0q (LpL.cons z0k (LpL.cons z20 (LpL.cons z00 (LpL.cons z02 (LpL.cons z2j (LpL.cons z1o (LpL.cons z18 (LpL.cons z28 (LpL.cons z0g (LpL.cons z0l (LpL.cons z0u (LpL.nil)))))))))))))
noncomputable def tb30 : List (Nat × (List PT → Option (Bool × AV × List Blk))) := [(129, z0z), (133, z0j), (137, z0y), (139, z1p), (25, z1v), (59, z38), (64, z1u), (66, z2r), (68, z24), (78, z25), (91, z2s), (122, z3k), (131, z1t), (134, z3j), (58, z2a), (67, z2o), (111, z19), (123, z2y), (20, z14), (126, z1r), (138, z3d), (18, z1y), (46, z1n), (132, z1m), (135, z1z), (44, z2d), (90, z3h), (121, z31), (125, z07), (125, z0b), (110, z05), (110, z09), (124, z3o), (69, z2x), (103, z36), (104, z2v), (112, z35), (53, z26), (94, z2i), (54, z3a), (13, z39)]
noncomputable def lt30 : List ((Nat × Nat) × (Nat → St → Option (Bool × LO))) := [((20, 2), z0n), ((18, 4), z0w), ((132, 17), z0o), ((90, 5), z2k), ((125, 2), z01), ((125, 2), z03), ((124, 9), z37), ((103, 3), z23), ((94, 5), z1j), ((54, 5), z2e), ((19, 2), z0e), ((19, 2), z0h), ((19, 2), z0p)]
noncomputable def Γ30 : Ctx := ⟨tyTab, fnTab, tblSum tb30, tblLp lt30⟩
theorem tb30_ok : SumL Try.prog tb30 := SumL.cons z0s (SumL.cons z0f (SumL.cons z0r (SumL.cons z0x (SumL.cons z12 (SumL.cons z2g (SumL.cons z13 (SumL.cons z21 (SumL.cons z1e (SumL.cons z1f (SumL.cons z22 (SumL.cons z33 (SumL.cons z15 (SumL.cons z34 (SumL.cons z1l (SumL.cons z1x (SumL.cons z0v (SumL.cons z29 (SumL.cons z0t (SumL.cons z16 (SumL.cons z2p (SumL.cons z1b (SumL.cons z11 (SumL.cons z10 (SumL.cons z1a (SumL.cons z1w (SumL.cons z2z (SumL.cons z2f (SumL.cons z06 (SumL.cons z0a (SumL.cons z04 (SumL.cons z08 (SumL.cons z3g (SumL.cons z2b (SumL.cons z2n (SumL.cons z2c (SumL.cons z2m (SumL.cons z1s (SumL.cons z27 (SumL.cons z30 (SumL.cons z3b (SumL.nil)))))))))))))))))))))))))))))))))))))))))
theorem lt30_ok : LpL Try.prog fnTab lt30 := LpL.cons z0i (LpL.cons z0q (LpL.cons z0k (LpL.cons z20 (LpL.cons z00 (LpL.cons z02 (LpL.cons z2j (LpL.cons z1o (LpL.cons z18 (LpL.cons z28 (LpL.cons z0g (LpL.cons z0l (LpL.cons z0u (LpL.nil)))))))))))))
noncomputable def tb31 : List (Nat × (List PT → Option (Bool × AV × List Blk))) := [(129, z0z), (133, z0j), (137, z0y), (139, z1p), (25, z1v), (59, z38), (64, z1u), (66, z2r), (68, z24), (78, z25), (91, z2s), (122, z3k), (131, z1t), (134, z3j), (58, z2a), (67, z2o), (111, z19), (123, z2y), (20, z14), (126, z1r), (138, z3d), (18, z1y), (46, z1n), (132, z1m), (135, z1z), (44, z2d), (90, z3h), (121, z31), (125, z07), (125, z0b), (110, z05), (110, z09), (124, z3o), (69, z2x), (103, z36), (104, z2v), (112, z35), (53, z26), (94, z2i), (54, z3a), (13, z39)]
noncomputable def lt31 : List ((Nat × Nat) × (Nat → St → Option (Bool × LO))) := [((20, 2), z0n), ((18, 4), z0w), ((132, 17), z0o), ((90, 5), z2k), ((125, 2), z01), ((125, 2), z03), ((124, 9), z37), ((103, 3), z23), ((94, 5), z1j), ((54, 5), z2e), ((19, 2), z0e), ((19, 2), z0h), ((19, 2), z0p)]
noncomputable def Γ31 : Ctx := ⟨tyTab, fnTab, tblSum tb31, tblLp lt31⟩
theorem tb31_ok : SumL Try.prog tb31 := SumL.cons z0s (SumL.cons z0f (SumL.cons z0r (SumL.cons z0x (SumL.cons z12 (SumL.cons z2g (SumL.cons z13 (SumL.cons z21 (SumL.cons z1e (SumL.cons z1f (SumL.cons z22 (SumL.cons z33 (SumL.cons z15 (SumL.cons z34 (SumL.cons z1l (SumL.cons z1x (SumL.cons z0v (SumL.cons z29 (SumL.cons z0t (SumL.cons z16 (SumL.cons z2p (SumL.cons z1b (SumL.cons z11 (SumL.cons z10 (SumL.cons z1a (SumL.cons z1w (SumL.cons z2z (SumL.cons z2f (SumL.cons z06 (SumL.cons z0a (SumL.cons z04 (SumL.cons z08 (SumL.cons z3g (SumL.cons z2b (SumL.cons z2n (SumL.cons z2c (SumL.cons z2m (SumL.cons z1s (SumL.cons z27 (SumL.cons z30 (SumL.cons z3b (SumL.nil)))))))))))))))))))))))))))))))))))))))))
theorem lt31_ok : LpL Try.prog fnTab lt31 := LpL.cons z0i (LpL.cons z0q (LpL.cons z0k (LpL.cons z20 (LpL.cons z00 (LpL.cons z02 (LpL.cons z2j (LpL.cons z1o (LpL.cons z18 (LpL.cons z28 (LpL.cons z0g (LpL.cons z0l (LpL.cons z0u (LpL.nil)))))))))))))
noncomputable def tb32 : List (Nat × (List PT → Option (Bool × AV × List Blk))) := [(129, z0z), (133, z0j), (137, z0y), (139, z1p), (25, z1v), (59, z38), (64, z1u), (66, z2r), (68, z24), (78, z25), (91, z2s), (122, z3k), (131, z1t), (134, z3j), (58, z2a), (67, z2o), (111, z19), (123, z2y), (20, z14), (126, z1r), (138, z3d), (18, z1y), (46, z1n), (132, z1m), (135, z1z), (44, z2d), (90, z3h), (121, z31), (125, z07), (125, z0b), (110, z05), (110, z09), (124, z3o), (69, z2x), (103, z36), (104, z2v), (112, z35), (53, z26), (94, z2i), (54, z3a), (13, z39)]
noncomputable def lt32 : List ((Nat × Nat) × (Nat → St → Option (Bool × LO))) := [((20, 2), z0n), ((18, 4), z0w), ((132, 17), z0o), ((90, 5), z2k), ((125, 2), z01), ((125, 2), z03), ((124, 9), z37), ((103, 3), z23), ((94, 5), z1j), ((54, 5), z2e), ((19, 2), z0e), ((19, 2), z0h), ((19, 2), z0p)]
noncomputable def Γ32 : Ctx := ⟨tyTab, fnTab, tblSum tb32, tblLp lt32⟩
theorem tb32_ok : SumL Try.prog tb32 := SumL.cons z0s (SumL.cons z0f (SumL.cons z0r (SumL.cons z0x (SumL.cons z12 (SumL.cons z2g (SumL.cons z13 (SumL.cons z21 (SumL.cons z1e (SumL.cons z1f (SumL.cons z22 (SumL.cons z33 (SumL.cons z15 (SumL.cons z34 (SumL.cons z1l (SumL.cons z1x (SumL.cons z0v (SumL.cons z29 (SumL.cons z0t (SumL.cons z16 (SumL.cons z2p (SumL.cons z1b (SumL.cons z11 (SumL.cons z10 (SumL.cons z1a (SumL.cons z1w (SumL.cons z2z (SumL.cons z2f (SumL.cons z06 (SumL.cons z0a (SumL.cons z04 (SumL.cons z08 (SumL.cons z3g (SumL.cons z2b (SumL.cons z2n (SumL.cons z2c (SumL.cons z2m (SumL.cons z1s (SumL.cons z27 (SumL.cons z30 (SumL.cons z3b (SumL.nil)))))))))))))))))))))))))))))))))))))))))
theorem lt32_ok : LpL Try.prog fnTab lt32 := LpL.cons z0i (LpL.cons z0q (LpL.cons z0k (LpL.cons z20 (LpL.cons z00 (LpL.cons z02 (LpL.cons z2j (LpL.cons z1o (LpL.cons z18 (LpL.cons z28 (LpL.cons z0g (LpL.cons z0l (LpL.cons z0u (LpL.nil)))))))))))))
noncomputable def tb33 : List (Nat × (List PT → Option (Bool × AV × List Blk))) := [(129, z0z), (133, z0j), (137, z0y), (139, z1p), (25, z1v), (59, z38), (64, z1u), (66, z2r), (68, z24), (78, z25), (91, z2s), (122, z3k), (131, z1t), (134, z3j), (58, z2a), (67, z2o), (111, z19), (123, z2y), (20, z14), (126, z1r), (138, z3d), (18, z1y), (46, z1n), (132, z1m), (135, z1z), (44, z2d), (90, z3h), (121, z31), (125, z07), (125, z0b), (110, z05), (110, z09), (124, z3o), (69, z2x), (103, z36), (104, z2v), (112, z35), (53, z26), (94, z2i), (54, z3a), (13, z39)]
noncomputable def lt33 : List ((Nat × Nat) × (Nat → St → Option (Bool × LO))) := [((20, 2), z0n), ((18, 4), z0w), ((132, 17), z0o), ((90, 5), z2k), ((125, 2), z01), ((125, 2), z03), ((124, 9), z37), ((103, 3), z23), ((94, 5), z1j), ((54, 5), z2e), ((19, 2), z0e), ((19, 2), z0h), ((19, 2), z0p)]
noncomputable def Γ33 : Ctx := ⟨tyTab, fnTab, tblSum tb33, tblLp lt33⟩
theorem tb33_ok : SumL Try.prog tb33 := SumL.cons z0s (SumL.cons z0f (SumL.cons z0r (SumL.cons z0x (SumL.cons z12 (SumL.cons z2g (SumL.cons z13 (SumL.cons z21 (SumL.cons z1e (SumL.cons z1f (SumL.cons z22 (SumL.cons z33 (SumL.cons z15 (SumL.cons z34 (SumL.cons z1l (SumL.cons z1x (SumL.cons z0v (SumL.cons z29 (SumL.cons z0t (SumL.cons z16 (SumL.cons z2p (SumL.cons z1b (SumL.cons z11 (SumL.cons z10 (SumL.cons z1a (SumL.cons z1w (SumL.cons z2z (SumL.cons z2f (SumL.cons z06 (SumL.cons z0a (SumL.cons z04 (SumL.cons z08 (SumL.cons z3g (SumL.cons z2b (SumL.cons z2n (SumL.cons z2c (SumL.cons z2m (SumL.cons z1s (SumL.cons z27 (SumL.cons z30 (SumL.cons z3b (SumL.nil)))))))))))))))))))))))))))))))))))))))))
theorem lt33_ok : LpL Try.prog fnTab lt33 := LpL.cons z0i (LpL.cons z0q (LpL.cons z0k (LpL.cons z20 (LpL.cons z00 (LpL.cons z02 (LpL.cons z2j (LpL.cons z1o (LpL.cons z18 (LpL.cons z28 (LpL.cons z0g (LpL.cons z0l (LpL.cons z0u (LpL.nil)))))))))))))
noncomputable def tb34 : List (Nat × (List PT → Option (Bool × AV × List Blk))) := [(129, z0z), (133, z0j), (137, z0y), (139, z1p), (25, z1v), (59, z38), (64, z1u), (66, z2r), (68, z24), (78, z25), (91, z2s), (122, z3k), (131, z1t), (134, z3j), (58, z2a), (67, z2o), (111, z19), (123, z2y), (20, z14), (126, z1r), (138, z3d), (18, z1y), (46, z1n), (132, z1m), (135, z1z), (44, z2d), (90, z3h), (121, z31), (125, z07), (125, z0b), (110, z05), (110, z09), (124, z3o), (69, z2x), (103, z36), (104, z2v), (112, z35), (53, z26), (94, z2i), (54, z3a), (13, z39)]
noncomputable def lt34 : List ((Nat × Nat) × (Nat → St → Option (Bool × LO))) := [((20, 2), z0n), ((18, 4), z0w), ((132, 17), z0o), ((90, 5), z2k), ((125, 2), z01), ((125, 2), z03), ((124, 9), z37), ((103, 3), z23), ((94, 5), z1j), ((54, 5), z2e), ((19, 2), z0e), ((19, 2), z0h), ((19, 2), z0p)]
noncomputable def Γ34 : Ctx := ⟨tyTab, fnTab, tblSum tb34, tblLp lt34⟩
end Go.Proofs.Ytdmbbllcgpicbaa
