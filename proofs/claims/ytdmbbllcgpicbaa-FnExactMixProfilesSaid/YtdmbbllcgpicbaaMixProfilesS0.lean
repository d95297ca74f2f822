/-
  What functions answer: that the evaluator answers so. Printed by a program.
-/
import Derived.Test.YtdmbbllcgpicbaaMixProfilesC
set_option linter.unusedVariables false
set_option linter.unusedSimpArgs false
set_option maxRecDepth 100000
set_option maxHeartbeats 4000000
namespace Go.Proofs.Ytdmbbllcgpicbaa
open Go Go.Rf
def z14 : List PT → Option (Bool × AV × List Blk)
  | [.one (.s (.flt .f64 x))] => some (bnot (nanQ .f64 x), A1 (.int .u64 x), [])
  | _ => none
theorem z0s : SumOne Try.prog 129 z14 := by
  intro pts v news hp w vals hv
  unfold z14 at hp
  split at hp
  · rename_i x
    injection hp with hp
    injection hp with h1 hp
    injection hp with h2 h3
    subst h2
    subst h3
    obtain ⟨l, hl⟩ : ∃ l, l = vals.toList := ⟨_, rfl⟩
    rw [← hl] at hv
    cases hv with
    | cons a1 a2 =>
      cases a2
      obtain ⟨b, hb1, hb2, hb3⟩ := a1
      subst hb1
      rename_i hx
      have hvals : vals = #[.float .f64 b] := by rw [← Array.toList_inj, ← hl]
      subst hvals
      have hn : nanB .f64 b = false := by rw [← nanB_cn, hb3]; simpa [bnot, nanQ] using h1
      rw [cn_of_not hn] at hb3
      subst hb3
      refine .inl ⟨_, w, by (simp only [callFunc, Sem.run_bind, run_program, Result.andThen_ok, Try.func129]; rfl), NoB, ⟨⟨(fun t b' h => by cases t <;> cases h), (fun t t' b1 b2 x x' _ h => by cases t <;> cases h)⟩, (fun t x h => by cases h), Fr.refl _ w⟩, rfl⟩
  · cases hp
def z0m : List PT → Option (Bool × AV × List Blk)
  | [.one (.s (.int .u64 x))] => some (okU .f64 x, A1 (.flt .f64 (cnI .f64 x)), [])
  | _ => none
theorem z0f : SumOne Try.prog 133 z0m := by
  intro pts v news hp w vals hv
  unfold z0m at hp
  split at hp
  · rename_i x
    injection hp with hp
    injection hp with h1 hp
    injection hp with h2 h3
    subst h2
    subst h3
    obtain ⟨l, hl⟩ : ∃ l, l = vals.toList := ⟨_, rfl⟩
    rw [← hl] at hv
    cases hv with
    | cons a1 a2 =>
      cases a2
      have hb1 : _ = Value.int .u64 x := a1
      subst hb1
      rename_i hx
      have hvals : vals = #[.int .u64 x] := by rw [← Array.toList_inj, ← hl]
      subst hvals
      have hw := okU_lt h1
      refine .inl ⟨_, w, by (simp only [callFunc, Sem.run_bind, run_program, Result.andThen_ok, Try.func133]; rfl), NoB, ⟨⟨(fun t b' h => by cases t <;> cases h), (fun t t' b1 b2 x x' _ h => by cases t <;> cases h)⟩, (fun t x h => by cases h), Fr.refl _ w⟩, ⟨_, rfl, hw, rfl⟩⟩
  · cases hp
def z16 : List PT → Option (Bool × AV × List Blk)
  | [.one (.s (.flt .f32 x))] => some (bnot (nanQ .f32 x), A1 (.int .u32 x), [])
  | _ => none
theorem z0t : SumOne Try.prog 137 z16 := by
  intro pts v news hp w vals hv
  unfold z16 at hp
  split at hp
  · rename_i x
    injection hp with hp
    injection hp with h1 hp
    injection hp with h2 h3
    subst h2
    subst h3
    obtain ⟨l, hl⟩ : ∃ l, l = vals.toList := ⟨_, rfl⟩
    rw [← hl] at hv
    cases hv with
    | cons a1 a2 =>
      cases a2
      obtain ⟨b, hb1, hb2, hb3⟩ := a1
      subst hb1
      rename_i hx
      have hvals : vals = #[.float .f32 b] := by rw [← Array.toList_inj, ← hl]
      subst hvals
      have hn : nanB .f32 b = false := by rw [← nanB_cn, hb3]; simpa [bnot, nanQ] using h1
      rw [cn_of_not hn] at hb3
      subst hb3
      refine .inl ⟨_, w, by (simp only [callFunc, Sem.run_bind, run_program, Result.andThen_ok, Try.func137]; rfl), NoB, ⟨⟨(fun t b' h => by cases t <;> cases h), (fun t t' b1 b2 x x' _ h => by cases t <;> cases h)⟩, (fun t x h => by cases h), Fr.refl _ w⟩, rfl⟩
  · cases hp
def z2c : List PT → Option (Bool × AV × List Blk)
  | [.one (.s (.flt .f64 x))] => some (bnot (nanQ .f64 x), A1 (.flt .f64 (fint .zero x)), [])
  | _ => none
theorem z15 : SumOne Try.prog 139 z2c := by
  intro pts v news hp w vals hv
  unfold z2c at hp
  split at hp
  · rename_i x
    injection hp with hp
    injection hp with h1 hp
    injection hp with h2 h3
    subst h2
    subst h3
    obtain ⟨l, hl⟩ : ∃ l, l = vals.toList := ⟨_, rfl⟩
    rw [← hl] at hv
    cases hv with
    | cons a1 a2 =>
      cases a2
      obtain ⟨b, hb1, hb2, hb3⟩ := a1
      subst hb1
      rename_i hx
      have hvals : vals = #[.float .f64 b] := by rw [← Array.toList_inj, ← hl]
      subst hvals
      have hn : nanB .f64 b = false := by rw [← nanB_cn, hb3]; simpa [bnot, nanQ] using h1
      rw [cn_of_not hn] at hb3
      subst hb3
      refine .inl ⟨_, w, by (simp only [callFunc, Sem.run_bind, run_program, Result.andThen_ok, Try.func139]; change (do let v ← Extern.MathFloor.toIntegral "math.archTrunc" .zero #[.float .f64 b]; pure (.value v) : Sem Next).run Try.prog w = _; rw [Sem.run_bind, run_fint hn]; rfl), NoB, ⟨⟨(fun t b' h => by cases t <;> cases h), (fun t t' b1 b2 x x' _ h => by cases t <;> cases h)⟩, (fun t x h => by cases h), Fr.refl _ w⟩, fint_rel hn⟩
  · cases hp
noncomputable def tb0 : List (Nat × (List PT → Option (Bool × AV × List Blk))) := [(129, z14), (133, z0m), (137, z16), (139, z2c)]
noncomputable def lt0 : List ((Nat × Nat) × (Nat → St → Option (Bool × LO))) := []
noncomputable def Γ0 : Ctx := ⟨tyTab, fnTab, tblSum tb0, tblLp lt0⟩
theorem tb0_ok : SumL Try.prog tb0 := SumL.cons z0s (SumL.cons z0f (SumL.cons z0t (SumL.cons z15 (SumL.nil))))
theorem lt0_ok : LpL Try.prog fnTab lt0 := LpL.nil
noncomputable def z2h : List PT → Option (Bool × AV × List Blk)
  | [.one (.s (.flt .f64 a)), .one (.s (.flt .f64 b))] => some ((zfe a b), ((AV.v (TV.one (At.bool (zer a b)))), []))
  | _ => none
def zh8 (a : Nat) (b : Nat) : Option (Bool) → Option (AV × List Blk)
  | some r => some ((AV.v (TV.one (At.bool r))), [])
  | none => none
theorem zk6 (a : Nat) (b : Nat) : evFn Γ0 8 8 25 (impTs 0 [.one (.s (.flt .f64 a)), .one (.s (.flt .f64 b))]).1 (impTs 0 [.one (.s (.flt .f64 a)), .one (.s (.flt .f64 b))]).2 (expo (impTs 0 [.one (.s (.flt .f64 a)), .one (.s (.flt .f64 b))]).2.length) = zal a b (fun c0_ => some ((AV.v (TV.one (At.bool c0_))), [])) := by kernel_rfl
theorem z1f : SumOne Try.prog 25 z2h := sum_of (Γ := Γ0) (fuel := 8) (d := 8) tyTab_ok (FnL.ok fnTab_ok _ _) (LpL.ok lt0_ok) (SumL.ok tb0_ok _) mixed (by
  intro pts v news hp hc
  clear hc
  unfold z2h at hp
  split at hp
  · rename_i a b
    exact Eq.trans (Eq.trans (zk6 a b) (zit (zh8 a b) rfl a b (fun c0_ => some c0_))) (fin_out (o := (zh8 a b)) (x := zap a b) (d := default) (V := fun r => ((AV.v (TV.one (At.bool r))), [])) (fun r => rfl) hp)
  · cases hp)
noncomputable def z2g : List PT → Option (Bool × AV × List Blk)
  | [.one (.s (.flt .f32 x))] => some ((z85 x), ((AV.v (TV.one (At.bool (z7i x)))), []))
  | _ => none
def zhg (x : Nat) : Option (Bool) → Option (AV × List Blk)
  | some r => some ((AV.v (TV.one (At.bool r))), [])
  | none => none
theorem zk5 (x : Nat) : evFn Γ0 8 8 64 (impTs 0 [.one (.s (.flt .f32 x))]).1 (impTs 0 [.one (.s (.flt .f32 x))]).2 (expo (impTs 0 [.one (.s (.flt .f32 x))]).2.length) = zbw x (fun c0_ => some ((AV.v (TV.one (At.bool c0_))), [])) := by kernel_rfl
theorem z1e : SumOne Try.prog 64 z2g := sum_of (Γ := Γ0) (fuel := 8) (d := 8) tyTab_ok (FnL.ok fnTab_ok _ _) (LpL.ok lt0_ok) (SumL.ok tb0_ok _) mixed (by
  intro pts v news hp hc
  clear hc
  unfold z2g at hp
  split at hp
  · rename_i x
    exact Eq.trans (Eq.trans (zk5 x) (ziz (zhg x) rfl x (fun c0_ => some c0_))) (fin_out (o := (zhg x)) (x := zc8 x) (d := default) (V := fun r => ((AV.v (TV.one (At.bool r))), [])) (fun r => rfl) hp)
  · cases hp)
noncomputable def z2r : List PT → Option (Bool × AV × List Blk)
  | [.one (.s (.flt .f32 x)), .one (.s (.flt .f32 low)), .one (.s (.flt .f32 q1t))] => some ((zfu x low q1t), ((AV.v (TV.one (At.bool (zfh x low q1t)))), []))
  | _ => none
def zht (x : Nat) (low : Nat) (q1t : Nat) : Option (Bool) → Option (AV × List Blk)
  | some r => some ((AV.v (TV.one (At.bool r))), [])
  | none => none
theorem zkf (x : Nat) (low : Nat) (q1t : Nat) : evFn Γ0 8 8 68 (impTs 0 [.one (.s (.flt .f32 x)), .one (.s (.flt .f32 low)), .one (.s (.flt .f32 q1t))]).1 (impTs 0 [.one (.s (.flt .f32 x)), .one (.s (.flt .f32 low)), .one (.s (.flt .f32 q1t))]).2 (expo (impTs 0 [.one (.s (.flt .f32 x)), .one (.s (.flt .f32 low)), .one (.s (.flt .f32 q1t))]).2.length) = zax x low q1t (fun c0_ => some ((AV.v (TV.one (At.bool c0_))), [])) := by kernel_rfl
theorem z1p : SumOne Try.prog 68 z2r := sum_of (Γ := Γ0) (fuel := 8) (d := 8) tyTab_ok (FnL.ok fnTab_ok _ _) (LpL.ok lt0_ok) (SumL.ok tb0_ok _) mixed (by
  intro pts v news hp hc
  clear hc
  unfold z2r at hp
  split at hp
  · rename_i x low q1t
    exact Eq.trans (Eq.trans (zkf x low q1t) (zjb (zht x low q1t) rfl x low q1t (fun c0_ => some c0_))) (fin_out (o := (zht x low q1t)) (x := zb3 x low q1t) (d := default) (V := fun r => ((AV.v (TV.one (At.bool r))), [])) (fun r => rfl) hp)
  · cases hp)
noncomputable def z1s : List PT → Option (Bool × AV × List Blk)
  | [.one (.row 1 a_n (.fl .f32 a)), .one (.s (.int .i64 q1j))] => some ((za8 a_n a q1j), ((AV.v (TV.one (At.int IntKind.i64 (z4f a_n a q1j)))), []))
  | _ => none
def zgz (a_n : Nat) (a : List Nat) (q1j : Int) : Option (Int) → Option (AV × List Blk)
  | some r => some ((AV.v (TV.one (At.int IntKind.i64 r))), [])
  | none => none
theorem zjt (a_n : Nat) (a : List Nat) (q1j : Int) : evFn Γ0 8 8 70 (impTs 0 [.one (.row 1 a_n (.fl .f32 a)), .one (.s (.int .i64 q1j))]).1 (impTs 0 [.one (.row 1 a_n (.fl .f32 a)), .one (.s (.int .i64 q1j))]).2 (expo (impTs 0 [.one (.row 1 a_n (.fl .f32 a)), .one (.s (.int .i64 q1j))]).2.length) = za9 a_n a q1j (fun c0_ => some ((AV.v (TV.one (At.int IntKind.i64 c0_))), [])) := by kernel_rfl
theorem z12 : SumOne Try.prog 70 z1s := sum_of (Γ := Γ0) (fuel := 8) (d := 8) tyTab_ok (FnL.ok fnTab_ok _ _) (LpL.ok lt0_ok) (SumL.ok tb0_ok _) mixed (by
  intro pts v news hp hc
  clear hc
  unfold z1s at hp
  split at hp
  · rename_i a_n a q1j
    exact Eq.trans (Eq.trans (zjt a_n a q1j) (zib (zgz a_n a q1j) rfl a_n a q1j (fun c0_ => some c0_))) (fin_out (o := (zgz a_n a q1j)) (x := za7 a_n a q1j) (d := default) (V := fun r => ((AV.v (TV.one (At.int IntKind.i64 r))), [])) (fun r => rfl) hp)
  · cases hp)
noncomputable def z2s : List PT → Option (Bool × AV × List Blk)
  | [.one (.s (.flt .f32 x))] => some ((zb2 x), ((AV.v (TV.one (At.bool (zan x)))), []))
  | _ => none
def zhv (x : Nat) : Option (Bool) → Option (AV × List Blk)
  | some r => some ((AV.v (TV.one (At.bool r))), [])
  | none => none
theorem zkb (x : Nat) : evFn Γ0 8 8 78 (impTs 0 [.one (.s (.flt .f32 x))]).1 (impTs 0 [.one (.s (.flt .f32 x))]).2 (expo (impTs 0 [.one (.s (.flt .f32 x))]).2.length) = zdg x (fun c0_ => some ((AV.v (TV.one (At.bool c0_))), [])) := by kernel_rfl
theorem z1r : SumOne Try.prog 78 z2s := sum_of (Γ := Γ0) (fuel := 8) (d := 8) tyTab_ok (FnL.ok fnTab_ok _ _) (LpL.ok lt0_ok) (SumL.ok tb0_ok _) mixed (by
  intro pts v news hp hc
  clear hc
  unfold z2s at hp
  split at hp
  · rename_i x
    exact Eq.trans (Eq.trans (zkb x) (zj5 (zhv x) rfl x (fun c0_ => some c0_))) (fin_out (o := (zhv x)) (x := zdp x) (d := default) (V := fun r => ((AV.v (TV.one (At.bool r))), [])) (fun r => rfl) hp)
  · cases hp)
noncomputable def z39 : List PT → Option (Bool × AV × List Blk)
  | [] => some (zg9, ((AV.v (TV.agg [(At.sl 0 0 0 1), (At.sl 1 0 0 1), (At.sl 2 0 0 1)])), [(Blk.mk Bool.true (Body.fl FloatKind.f32 z3i)), (Blk.mk Bool.true (Body.fl FloatKind.f32 z3j)), (Blk.mk Bool.true (Body.fl FloatKind.f32 z3h))]))
  | _ => none
def zj1  : Option ((List Nat) × (List Nat) × (List Nat)) → Option (AV × List Blk)
  | some r => some ((AV.v (TV.agg [(At.sl 0 0 0 1), (At.sl 1 0 0 1), (At.sl 2 0 0 1)])), [(Blk.mk Bool.true (Body.fl FloatKind.f32 r.1)), (Blk.mk Bool.true (Body.fl FloatKind.f32 r.2.1)), (Blk.mk Bool.true (Body.fl FloatKind.f32 r.2.2))])
  | none => none
theorem zki  : evFn Γ0 8 8 91 (impTs 0 []).1 (impTs 0 []).2 (expo (impTs 0 []).2.length) = zfq (fun c0_ c1_ c2_ => some ((AV.v (TV.agg [(At.sl 0 0 0 1), (At.sl 1 0 0 1), (At.sl 2 0 0 1)])), [(Blk.mk Bool.true (Body.fl FloatKind.f32 c0_)), (Blk.mk Bool.true (Body.fl FloatKind.f32 c1_)), (Blk.mk Bool.true (Body.fl FloatKind.f32 c2_))])) := by kernel_rfl
theorem z2q : SumOne Try.prog 91 z39 := sum_of (Γ := Γ0) (fuel := 8) (d := 8) tyTab_ok (FnL.ok fnTab_ok _ _) (LpL.ok lt0_ok) (SumL.ok tb0_ok _) mixed (by
  intro pts v news hp hc
  clear hc
  unfold z39 at hp
  split at hp
  · exact Eq.trans (Eq.trans (zki) (zjn zj1 rfl  (fun c0_ c1_ c2_ => some (c0_, c1_, c2_)))) (fin_out (o := zj1) (x := zb5) (d := default) (V := fun r => ((AV.v (TV.agg [(At.sl 0 0 0 1), (At.sl 1 0 0 1), (At.sl 2 0 0 1)])), [(Blk.mk Bool.true (Body.fl FloatKind.f32 r.1)), (Blk.mk Bool.true (Body.fl FloatKind.f32 r.2.1)), (Blk.mk Bool.true (Body.fl FloatKind.f32 r.2.2))])) (fun r => rfl) hp)
  · cases hp)
noncomputable def z3d : List PT → Option (Bool × AV × List Blk)
  | [.one (.s (.flt .f32 a)), .one (.s (.flt .f32 b)), .one (.s (.flt .f32 q1q))] => some ((zg3 a b q1q), ((AV.v (TV.one (At.flt FloatKind.f32 (zfl a b q1q)))), []))
  | _ => none
def zjl (a : Nat) (b : Nat) (q1q : Nat) : Option (Nat) → Option (AV × List Blk)
  | some r => some ((AV.v (TV.one (At.flt FloatKind.f32 r))), [])
  | none => none
theorem zkk (a : Nat) (b : Nat) (q1q : Nat) : evFn Γ0 8 8 97 (impTs 0 [.one (.s (.flt .f32 a)), .one (.s (.flt .f32 b)), .one (.s (.flt .f32 q1q))]).1 (impTs 0 [.one (.s (.flt .f32 a)), .one (.s (.flt .f32 b)), .one (.s (.flt .f32 q1q))]).2 (expo (impTs 0 [.one (.s (.flt .f32 a)), .one (.s (.flt .f32 b)), .one (.s (.flt .f32 q1q))]).2.length) = zg4 a b q1q (fun c0_ => some ((AV.v (TV.one (At.flt FloatKind.f32 c0_))), [])) := by kernel_rfl
theorem z30 : SumOne Try.prog 97 z3d := sum_of (Γ := Γ0) (fuel := 8) (d := 8) tyTab_ok (FnL.ok fnTab_ok _ _) (LpL.ok lt0_ok) (SumL.ok tb0_ok _) mixed (by
  intro pts v news hp hc
  clear hc
  unfold z3d at hp
  split at hp
  · rename_i a b q1q
    exact Eq.trans (Eq.trans (zkk a b q1q) (zk2 (zjl a b q1q) rfl a b q1q (fun c0_ => some c0_))) (fin_out (o := (zjl a b q1q)) (x := zf4 a b q1q) (d := default) (V := fun r => ((AV.v (TV.one (At.flt FloatKind.f32 r))), [])) (fun r => rfl) hp)
  · cases hp)
noncomputable def z0j : List PT → Option (Bool × AV × List Blk)
  | [.one (.row 1 s_n (.fl .f32 s))] => some ((z84 s_n s), ((AV.v (TV.one (At.sl 0 0 (z7m s_n s) 1))), [(Blk.mk Bool.true (Body.fl FloatKind.f32 (z7o s_n s)))]))
  | _ => none
def z8i (s_n : Nat) (s : List Nat) : Option (Nat × (List Nat)) → Option (AV × List Blk)
  | some r => some ((AV.v (TV.one (At.sl 0 0 r.1 1))), [(Blk.mk Bool.true (Body.fl FloatKind.f32 r.2))])
  | none => none
theorem zh4 (s_n : Nat) (s : List Nat) : ∀ a b, (z8i s_n s) a = (z8i s_n s) b → a = b := by
  intro a b h
  cases a <;> cases b <;> simp_all [z8i, Prod.ext_iff]
theorem zhk (s_n : Nat) (s : List Nat) : evFn Γ0 8 8 119 (impTs 0 [.one (.row 1 s_n (.fl .f32 s))]).1 (impTs 0 [.one (.row 1 s_n (.fl .f32 s))]).2 (expo (impTs 0 [.one (.row 1 s_n (.fl .f32 s))]).2.length) = z83 s_n s (fun c0_ c1_ => some ((AV.v (TV.one (At.sl 0 0 c0_ 1))), [(Blk.mk Bool.true (Body.fl FloatKind.f32 c1_))])) := by kernel_rfl
theorem z0e : SumOne Try.prog 119 z0j := sum_of (Γ := Γ0) (fuel := 8) (d := 8) tyTab_ok (FnL.ok fnTab_ok _ _) (LpL.ok lt0_ok) (SumL.ok tb0_ok _) mixed (by
  intro pts v news hp hc
  clear hc
  unfold z0j at hp
  split at hp
  · rename_i s_n s
    exact Eq.trans (Eq.trans (zhk s_n s) (zgp (z8i s_n s) rfl (zh4 s_n s) s_n s (fun c0_ c1_ => some (c0_, c1_)))) (fin_out (o := (z8i s_n s)) (x := z75 s_n s) (d := default) (V := fun r => ((AV.v (TV.one (At.sl 0 0 r.1 1))), [(Blk.mk Bool.true (Body.fl FloatKind.f32 r.2))])) (fun r => rfl) hp)
  · cases hp)
noncomputable def tb1 : List (Nat × (List PT → Option (Bool × AV × List Blk))) := [(129, z14), (133, z0m), (137, z16), (139, z2c), (25, z2h), (64, z2g), (68, z2r), (70, z1s), (78, z2s), (91, z39), (97, z3d), (119, z0j)]
noncomputable def lt1 : List ((Nat × Nat) × (Nat → St → Option (Bool × LO))) := []
noncomputable def Γ1 : Ctx := ⟨tyTab, fnTab, tblSum tb1, tblLp lt1⟩
theorem tb1_ok : SumL Try.prog tb1 := SumL.cons z0s (SumL.cons z0f (SumL.cons z0t (SumL.cons z15 (SumL.cons z1f (SumL.cons z1e (SumL.cons z1p (SumL.cons z12 (SumL.cons z1r (SumL.cons z2q (SumL.cons z30 (SumL.cons z0e (SumL.nil))))))))))))
theorem lt1_ok : LpL Try.prog fnTab lt1 := LpL.nil
noncomputable def z2n : List PT → Option (Bool × AV × List Blk)
  | [.agg [.row 1 q0c (.fl .f32 q0l), .row 1 q0j (.fl .f32 q0s), .row 1 q0k (.fl .f32 q0t)], .one (.s (.int .i64 q1j))] => some ((zby q0c q0l q0j q0s q0k q0t q1j), ((AV.v (TV.one (At.int IntKind.i64 (zbc q0c q0l q0j q0s q0k q0t q1j)))), []))
  | _ => none
def zhd (q0c : Nat) (q0l : List Nat) (q0j : Nat) (q0s : List Nat) (q0k : Nat) (q0t : List Nat) (q1j : Int) : Option (Int) → Option (AV × List Blk)
  | some r => some ((AV.v (TV.one (At.int IntKind.i64 r))), [])
  | none => none
theorem zjy (q0c : Nat) (q0l : List Nat) (q0j : Nat) (q0s : List Nat) (q0k : Nat) (q0t : List Nat) (q1j : Int) : evFn Γ1 8 8 40 (impTs 0 [.agg [.row 1 q0c (.fl .f32 q0l), .row 1 q0j (.fl .f32 q0s), .row 1 q0k (.fl .f32 q0t)], .one (.s (.int .i64 q1j))]).1 (impTs 0 [.agg [.row 1 q0c (.fl .f32 q0l), .row 1 q0j (.fl .f32 q0s), .row 1 q0k (.fl .f32 q0t)], .one (.s (.int .i64 q1j))]).2 (expo (impTs 0 [.agg [.row 1 q0c (.fl .f32 q0l), .row 1 q0j (.fl .f32 q0s), .row 1 q0k (.fl .f32 q0t)], .one (.s (.int .i64 q1j))]).2.length) = zak q0c q0l q0j q0s q0k q0t q1j (fun c0_ => some ((AV.v (TV.one (At.int IntKind.i64 c0_))), [])) := by kernel_rfl
theorem z1m : SumOne Try.prog 40 z2n := sum_of (Γ := Γ1) (fuel := 8) (d := 8) tyTab_ok (FnL.ok fnTab_ok _ _) (LpL.ok lt1_ok) (SumL.ok tb1_ok _) mixed (by
  intro pts v news hp hc
  clear hc
  unfold z2n at hp
  split at hp
  · rename_i q0c q0l q0j q0s q0k q0t q1j
    exact Eq.trans (Eq.trans (zjy q0c q0l q0j q0s q0k q0t q1j) (zio (zhd q0c q0l q0j q0s q0k q0t q1j) rfl q0c q0l q0j q0s q0k q0t q1j (fun c0_ => some c0_))) (fin_out (o := (zhd q0c q0l q0j q0s q0k q0t q1j)) (x := zas q0c q0l q0j q0s q0k q0t q1j) (d := default) (V := fun r => ((AV.v (TV.one (At.int IntKind.i64 r))), [])) (fun r => rfl) hp)
  · cases hp)
noncomputable def z2v : List PT → Option (Bool × AV × List Blk)
  | [.one (.s (.flt .f32 x))] => some ((z9y x), ((AV.v (TV.one (At.bool (z9i x)))), []))
  | _ => none
def zhs (x : Nat) : Option (Bool) → Option (AV × List Blk)
  | some r => some ((AV.v (TV.one (At.bool r))), [])
  | none => none
theorem zk9 (x : Nat) : evFn Γ1 8 8 58 (impTs 0 [.one (.s (.flt .f32 x))]).1 (impTs 0 [.one (.s (.flt .f32 x))]).2 (expo (impTs 0 [.one (.s (.flt .f32 x))]).2.length) = zb4 x (fun c0_ => some ((AV.v (TV.one (At.bool c0_))), [])) := by kernel_rfl
theorem z2a : SumOne Try.prog 58 z2v := sum_of (Γ := Γ1) (fuel := 8) (d := 8) tyTab_ok (FnL.ok fnTab_ok _ _) (LpL.ok lt1_ok) (SumL.ok tb1_ok _) mixed (by
  intro pts v news hp hc
  clear hc
  unfold z2v at hp
  split at hp
  · rename_i x
    exact Eq.trans (Eq.trans (zk9 x) (zjc (zhs x) rfl x (fun c0_ => some c0_))) (fin_out (o := (zhs x)) (x := zav x) (d := default) (V := fun r => ((AV.v (TV.one (At.bool r))), [])) (fun r => rfl) hp)
  · cases hp)
noncomputable def z35 : List PT → Option (Bool × AV × List Blk)
  | [.one (.s (.flt .f32 x))] => some ((zg5 x), ((AV.v (TV.one (At.bool (zfw x)))), []))
  | _ => none
def zie (x : Nat) : Option (Bool) → Option (AV × List Blk)
  | some r => some ((AV.v (TV.one (At.bool r))), [])
  | none => none
theorem zkg (x : Nat) : evFn Γ1 8 8 67 (impTs 0 [.one (.s (.flt .f32 x))]).1 (impTs 0 [.one (.s (.flt .f32 x))]).2 (expo (impTs 0 [.one (.s (.flt .f32 x))]).2.length) = zbr x (fun c0_ => some ((AV.v (TV.one (At.bool c0_))), [])) := by kernel_rfl
theorem z2k : SumOne Try.prog 67 z35 := sum_of (Γ := Γ1) (fuel := 8) (d := 8) tyTab_ok (FnL.ok fnTab_ok _ _) (LpL.ok lt1_ok) (SumL.ok tb1_ok _) mixed (by
  intro pts v news hp hc
  clear hc
  unfold z35 at hp
  split at hp
  · rename_i x
    exact Eq.trans (Eq.trans (zkg x) (zje (zie x) rfl x (fun c0_ => some c0_))) (fin_out (o := (zie x)) (x := zbo x) (d := default) (V := fun r => ((AV.v (TV.one (At.bool r))), [])) (fun r => rfl) hp)
  · cases hp)
noncomputable def z1k : List PT → Option (Bool × AV × List Blk)
  | [.agg [.row 1 q13 (.fl .f32 q19), .row 1 q16 (.fl .f32 q1e), .row 1 q15 (.fl .f32 q1f)]] => some ((zda q13 q19 q16 q1e q15 q1f), ((AV.v (TV.agg [(At.sl 0 0 (z44 q13 q19 q16 q1e q15 q1f) 1), (At.sl 1 0 (z46 q13 q19 q16 q1e q15 q1f) 1), (At.sl 2 0 (z45 q13 q19 q16 q1e q15 q1f) 1)])), [(Blk.mk Bool.true (Body.fl FloatKind.f32 (z9c q13 q19 q16 q1e q15 q1f))), (Blk.mk Bool.true (Body.fl FloatKind.f32 (z67 q13 q19 q16 q1e q15 q1f))), (Blk.mk Bool.true (Body.fl FloatKind.f32 (z66 q13 q19 q16 q1e q15 q1f)))]))
  | _ => none
def zgn (q13 : Nat) (q19 : List Nat) (q16 : Nat) (q1e : List Nat) (q15 : Nat) (q1f : List Nat) : Option (Nat × Nat × Nat × (List Nat) × (List Nat) × (List Nat)) → Option (AV × List Blk)
  | some r => some ((AV.v (TV.agg [(At.sl 0 0 r.1 1), (At.sl 1 0 r.2.1 1), (At.sl 2 0 r.2.2.1 1)])), [(Blk.mk Bool.true (Body.fl FloatKind.f32 r.2.2.2.1)), (Blk.mk Bool.true (Body.fl FloatKind.f32 r.2.2.2.2.1)), (Blk.mk Bool.true (Body.fl FloatKind.f32 r.2.2.2.2.2))])
  | none => none
theorem zjm (q13 : Nat) (q19 : List Nat) (q16 : Nat) (q1e : List Nat) (q15 : Nat) (q1f : List Nat) : evFn Γ1 8 8 96 (impTs 0 [.agg [.row 1 q13 (.fl .f32 q19), .row 1 q16 (.fl .f32 q1e), .row 1 q15 (.fl .f32 q1f)]]).1 (impTs 0 [.agg [.row 1 q13 (.fl .f32 q19), .row 1 q16 (.fl .f32 q1e), .row 1 q15 (.fl .f32 q1f)]]).2 (expo (impTs 0 [.agg [.row 1 q13 (.fl .f32 q19), .row 1 q16 (.fl .f32 q1e), .row 1 q15 (.fl .f32 q1f)]]).2.length) = z9j q13 q19 q16 q1e q15 q1f (fun c0_ c1_ c2_ c3_ c4_ c5_ => some ((AV.v (TV.agg [(At.sl 0 0 c0_ 1), (At.sl 1 0 c1_ 1), (At.sl 2 0 c2_ 1)])), [(Blk.mk Bool.true (Body.fl FloatKind.f32 c3_)), (Blk.mk Bool.true (Body.fl FloatKind.f32 c4_)), (Blk.mk Bool.true (Body.fl FloatKind.f32 c5_))])) := by kernel_rfl
theorem z0x : SumOne Try.prog 96 z1k := sum_of (Γ := Γ1) (fuel := 8) (d := 8) tyTab_ok (FnL.ok fnTab_ok _ _) (LpL.ok lt1_ok) (SumL.ok tb1_ok _) mixed (by
  intro pts v news hp hc
  clear hc
  unfold z1k at hp
  split at hp
  · rename_i q13 q19 q16 q1e q15 q1f
    exact Eq.trans (Eq.trans (zjm q13 q19 q16 q1e q15 q1f) (zia (zgn q13 q19 q16 q1e q15 q1f) rfl q13 q19 q16 q1e q15 q1f (fun c0_ c1_ c2_ c3_ c4_ c5_ => some (c0_, c1_, c2_, c3_, c4_, c5_)))) (fin_out (o := (zgn q13 q19 q16 q1e q15 q1f)) (x := z5x q13 q19 q16 q1e q15 q1f) (d := default) (V := fun r => ((AV.v (TV.agg [(At.sl 0 0 r.1 1), (At.sl 1 0 r.2.1 1), (At.sl 2 0 r.2.2.1 1)])), [(Blk.mk Bool.true (Body.fl FloatKind.f32 r.2.2.2.1)), (Blk.mk Bool.true (Body.fl FloatKind.f32 r.2.2.2.2.1)), (Blk.mk Bool.true (Body.fl FloatKind.f32 r.2.2.2.2.2))])) (fun r => rfl) hp)
  · cases hp)
noncomputable def z1l : List PT → Option (Bool × AV × List Blk)
  | [.one (.s (.flt .f32 x))] => some ((zdj x), ((AV.v (TV.one (At.bool (zcm x)))), []))
  | _ => none
def zgo (x : Nat) : Option (Bool) → Option (AV × List Blk)
  | some r => some ((AV.v (TV.one (At.bool r))), [])
  | none => none
theorem zji (x : Nat) : evFn Γ1 8 8 111 (impTs 0 [.one (.s (.flt .f32 x))]).1 (impTs 0 [.one (.s (.flt .f32 x))]).2 (expo (impTs 0 [.one (.s (.flt .f32 x))]).2.length) = z9t x (fun c0_ => some ((AV.v (TV.one (At.bool c0_))), [])) := by kernel_rfl
theorem z0y : SumOne Try.prog 111 z1l := sum_of (Γ := Γ1) (fuel := 8) (d := 8) tyTab_ok (FnL.ok fnTab_ok _ _) (LpL.ok lt1_ok) (SumL.ok tb1_ok _) mixed (by
  intro pts v news hp hc
  clear hc
  unfold z1l at hp
  split at hp
  · rename_i x
    exact Eq.trans (Eq.trans (zji x) (zi3 (zgo x) rfl x (fun c0_ => some c0_))) (fin_out (o := (zgo x)) (x := z9k x) (d := default) (V := fun r => ((AV.v (TV.one (At.bool r))), [])) (fun r => rfl) hp)
  · cases hp)
noncomputable def z0p : Nat → St → Option (Bool × LO)
  | 1, (St.mk [(0, (AV.v (TV.one (At.vw 0 0 an 1)))), (1, (AV.v (TV.one (At.int IntKind.i64 k)))), (5, (AV.v (TV.one (At.int IntKind.i64 i))))] [(Blk.mk Bool.false (Body.fl FloatKind.f32 b0))]) => some ((zau an b0 k i), (LO.two (zah an b0 k i) (LO.one Ex.ret (St.mk [(4, (AV.v (TV.one (At.int IntKind.i64 (Int.negSucc 0)))))] [(Blk.mk Bool.false (Body.fl FloatKind.f32 b0))])) (LO.one (Ex.exit 0) (St.mk [(0, (AV.v (TV.one (At.vw 0 0 an 1)))), (1, (AV.v (TV.one (At.int IntKind.i64 (z9w an b0 k i))))), (5, (AV.v (TV.one (At.int IntKind.i64 (zbh an b0 k i))))), (9, (AV.v (TV.one (At.bool (zbf an b0 k i)))))] [(Blk.mk Bool.false (Body.fl FloatKind.f32 b0))]))))
  | _, _ => none
def z9g (an : Nat) (b0 : List Nat) : Option ((Unit) ⊕ (Int × Int × Bool)) → Option (Ex × St)
  | none => none
  | some (Sum.inl r) => some (Ex.ret, (St.mk [(4, (AV.v (TV.one (At.int IntKind.i64 (Int.negSucc 0)))))] [(Blk.mk Bool.false (Body.fl FloatKind.f32 b0))]))
  | some (Sum.inr r) => some ((Ex.exit 0), (St.mk [(0, (AV.v (TV.one (At.vw 0 0 an 1)))), (1, (AV.v (TV.one (At.int IntKind.i64 r.1)))), (5, (AV.v (TV.one (At.int IntKind.i64 r.2.1)))), (9, (AV.v (TV.one (At.bool r.2.2))))] [(Blk.mk Bool.false (Body.fl FloatKind.f32 b0))]))
def zhp (an : Nat) (b0 : List Nat) (x : Option ((Unit) ⊕ (Int × Int × Bool))) : LO := (LO.two (oL x) (LO.one Ex.ret (St.mk [(4, (AV.v (TV.one (At.int IntKind.i64 (Int.negSucc 0)))))] [(Blk.mk Bool.false (Body.fl FloatKind.f32 b0))])) (LO.one (Ex.exit 0) (St.mk [(0, (AV.v (TV.one (At.vw 0 0 an 1)))), (1, (AV.v (TV.one (At.int IntKind.i64 ((tR x).getD default).1)))), (5, (AV.v (TV.one (At.int IntKind.i64 ((tR x).getD default).2.1)))), (9, (AV.v (TV.one (At.bool ((tR x).getD default).2.2))))] [(Blk.mk Bool.false (Body.fl FloatKind.f32 b0))])))
theorem zi5 (an : Nat) (b0 : List Nat) : ∀ x : Option ((Unit) ⊕ (Int × Int × Bool)), x.isSome = true → (z9g an b0) x = some (pick (zhp an b0 x))
  | none, h => by cases h
  | some (Sum.inl r), _ => rfl
  | some (Sum.inr r), _ => rfl
theorem zi1 (an : Nat) (k : Int) (i : Int) (b0 : List Nat) (K : Ex → St → Option (Ex × St)) : evC (R := Ex × St) Γ1 (evFn Γ1 8 8) 20 1 fi20.nt fi20.live fi20.nl 8 (findL 2 (loopsIn fi20.code)) (St.mk [(0, (AV.v (TV.one (At.vw 0 0 an 1)))), (1, (AV.v (TV.one (At.int IntKind.i64 k)))), (5, (AV.v (TV.one (At.int IntKind.i64 i))))] [(Blk.mk Bool.false (Body.fl FloatKind.f32 b0))]) K = z5r an b0 k i (fun k' i' => K .normal (St.mk [(0, (AV.v (TV.one (At.vw 0 0 an 1)))), (1, (AV.v (TV.one (At.int IntKind.i64 k')))), (5, (AV.v (TV.one (At.int IntKind.i64 i'))))] [(Blk.mk Bool.false (Body.fl FloatKind.f32 b0))])) (fun _ => K Ex.ret (St.mk [(4, (AV.v (TV.one (At.int IntKind.i64 (Int.negSucc 0)))))] [(Blk.mk Bool.false (Body.fl FloatKind.f32 b0))])) (fun c0_ c1_ c2_ => K (Ex.exit 0) (St.mk [(0, (AV.v (TV.one (At.vw 0 0 an 1)))), (1, (AV.v (TV.one (At.int IntKind.i64 c0_)))), (5, (AV.v (TV.one (At.int IntKind.i64 c1_)))), (9, (AV.v (TV.one (At.bool c2_))))] [(Blk.mk Bool.false (Body.fl FloatKind.f32 b0))])) := by kernel_rfl
theorem zhx (an : Nat) (b0 : List Nat) : ∀ (n : Nat) (k : Int) (i : Int), iter 20 2 1 (evC (R := Ex × St) Γ1 (evFn Γ1 8 8) 20 1 fi20.nt fi20.live fi20.nl 8 (findL 2 (loopsIn fi20.code))) n (St.mk [(0, (AV.v (TV.one (At.vw 0 0 an 1)))), (1, (AV.v (TV.one (At.int IntKind.i64 k)))), (5, (AV.v (TV.one (At.int IntKind.i64 i))))] [(Blk.mk Bool.false (Body.fl FloatKind.f32 b0))]) (fun e st => some (e, st)) = (z9g an b0) (z3p an b0 n k i) := by
  intro n
  induction n with
  | zero => intros; rfl
  | succ n ih =>
    intro k i
    refine Eq.trans (iter_succ ..) (Eq.trans (zi1 an k i b0 (nextK 20 2 1 (evC (R := Ex × St) Γ1 (evFn Γ1 8 8) 20 1 fi20.nt fi20.live fi20.nl 8 (findL 2 (loopsIn fi20.code))) n (fun e st => some (e, st)))) (Eq.trans ?_ (zgs (z9g an b0) rfl an b0 k i (fun k' i' => z3p an b0 n k' i') (fun _ => some (Sum.inl ())) (fun c0_ c1_ c2_ => some (Sum.inr (c0_, c1_, c2_))))))
    exact congrArg (fun kn_ => z5r an b0 k i kn_ (fun _ => (z9g an b0) (some (Sum.inl ()))) (fun c0_ c1_ c2_ => (z9g an b0) (some (Sum.inr (c0_, c1_, c2_))))) (funext fun k' => funext fun i' => ih k' i')
theorem z0k : LoopOne Try.prog fnTab 20 2 z0p := lp_of (Γ := Γ1) tyTab_ok (FnL.ok fnTab_ok _ _) (LpL.ok lt1_ok) (SumL.ok tb1_ok _) mixed (fi := fi20) (by kernel_rfl) (by kernel_rfl) (by
  intro lo st out hp
  unfold z0p at hp
  split at hp
  · rename_i an k i b0
    injection hp with hp
    injection hp with h1 h2
    subst h2
    exact ⟨8, 8, big, Eq.trans (zhx an b0 big k i) (zi5 an b0 (z3p an b0 big k i) h1)⟩
  · cases hp)
noncomputable def z0w : Nat → St → Option (Bool × LO)
  | 1, (St.mk [(0, (AV.v (TV.one (At.vw 0 0 an 1)))), (3, (AV.v (TV.one (At.sl 1 0 q1n 1)))), (4, (AV.v (TV.one (At.int IntKind.i64 i))))] [(Blk.mk Bool.false (Body.fl FloatKind.f32 b0)), (Blk.mk Bool.true (Body.fl FloatKind.f32 b1))]) => some ((z9z an q1n b0 i b1), (LO.one (Ex.exit 0) (St.mk [(0, (AV.v (TV.one (At.vw 0 0 an 1)))), (3, (AV.v (TV.one (At.sl 1 0 q1n 1)))), (4, (AV.v (TV.one (At.int IntKind.i64 (zd0 an q1n b0 i b1))))), (11, (AV.v (TV.one (At.bool (zd8 an q1n b0 i b1)))))] [(Blk.mk Bool.false (Body.fl FloatKind.f32 b0)), (Blk.mk Bool.true (Body.fl FloatKind.f32 (z8j an q1n b0 i b1)))])))
  | _, _ => none
def zbi (an : Nat) (q1n : Nat) (b0 : List Nat) : Option ((Int × Bool × (List Nat))) → Option (Ex × St)
  | none => none
  | some r => some ((Ex.exit 0), (St.mk [(0, (AV.v (TV.one (At.vw 0 0 an 1)))), (3, (AV.v (TV.one (At.sl 1 0 q1n 1)))), (4, (AV.v (TV.one (At.int IntKind.i64 r.1)))), (11, (AV.v (TV.one (At.bool r.2.1))))] [(Blk.mk Bool.false (Body.fl FloatKind.f32 b0)), (Blk.mk Bool.true (Body.fl FloatKind.f32 r.2.2))]))
def zin (an : Nat) (q1n : Nat) (b0 : List Nat) (x : Option ((Int × Bool × (List Nat)))) : LO := (LO.one (Ex.exit 0) (St.mk [(0, (AV.v (TV.one (At.vw 0 0 an 1)))), (3, (AV.v (TV.one (At.sl 1 0 q1n 1)))), (4, (AV.v (TV.one (At.int IntKind.i64 (x.getD default).1)))), (11, (AV.v (TV.one (At.bool (x.getD default).2.1))))] [(Blk.mk Bool.false (Body.fl FloatKind.f32 b0)), (Blk.mk Bool.true (Body.fl FloatKind.f32 (x.getD default).2.2))]))
theorem zis (an : Nat) (q1n : Nat) (b0 : List Nat) : ∀ x : Option ((Int × Bool × (List Nat))), x.isSome = true → (zbi an q1n b0) x = some (pick (zin an q1n b0 x))
  | none, h => by cases h
  | some r, _ => rfl
theorem ziv (an : Nat) (q1n : Nat) (i : Int) (b0 : List Nat) (b1 : List Nat) (K : Ex → St → Option (Ex × St)) : evC (R := Ex × St) Γ1 (evFn Γ1 8 8) 74 1 fi74.nt fi74.live fi74.nl 8 (findL 3 (loopsIn fi74.code)) (St.mk [(0, (AV.v (TV.one (At.vw 0 0 an 1)))), (3, (AV.v (TV.one (At.sl 1 0 q1n 1)))), (4, (AV.v (TV.one (At.int IntKind.i64 i))))] [(Blk.mk Bool.false (Body.fl FloatKind.f32 b0)), (Blk.mk Bool.true (Body.fl FloatKind.f32 b1))]) K = z6b an q1n b0 i b1 (fun i' b1' => K .normal (St.mk [(0, (AV.v (TV.one (At.vw 0 0 an 1)))), (3, (AV.v (TV.one (At.sl 1 0 q1n 1)))), (4, (AV.v (TV.one (At.int IntKind.i64 i'))))] [(Blk.mk Bool.false (Body.fl FloatKind.f32 b0)), (Blk.mk Bool.true (Body.fl FloatKind.f32 b1'))])) (fun c0_ c1_ c2_ => K (Ex.exit 0) (St.mk [(0, (AV.v (TV.one (At.vw 0 0 an 1)))), (3, (AV.v (TV.one (At.sl 1 0 q1n 1)))), (4, (AV.v (TV.one (At.int IntKind.i64 c0_)))), (11, (AV.v (TV.one (At.bool c1_))))] [(Blk.mk Bool.false (Body.fl FloatKind.f32 b0)), (Blk.mk Bool.true (Body.fl FloatKind.f32 c2_))])) := by kernel_rfl
theorem ziy (an : Nat) (q1n : Nat) (b0 : List Nat) : ∀ (n : Nat) (i : Int) (b1 : List Nat), iter 74 3 1 (evC (R := Ex × St) Γ1 (evFn Γ1 8 8) 74 1 fi74.nt fi74.live fi74.nl 8 (findL 3 (loopsIn fi74.code))) n (St.mk [(0, (AV.v (TV.one (At.vw 0 0 an 1)))), (3, (AV.v (TV.one (At.sl 1 0 q1n 1)))), (4, (AV.v (TV.one (At.int IntKind.i64 i))))] [(Blk.mk Bool.false (Body.fl FloatKind.f32 b0)), (Blk.mk Bool.true (Body.fl FloatKind.f32 b1))]) (fun e st => some (e, st)) = (zbi an q1n b0) (z4o an q1n b0 n i b1) := by
  intro n
  induction n with
  | zero => intros; rfl
  | succ n ih =>
    intro i b1
    refine Eq.trans (iter_succ ..) (Eq.trans (ziv an q1n i b0 b1 (nextK 74 3 1 (evC (R := Ex × St) Γ1 (evFn Γ1 8 8) 74 1 fi74.nt fi74.live fi74.nl 8 (findL 3 (loopsIn fi74.code))) n (fun e st => some (e, st)))) (Eq.trans ?_ (zh9 (zbi an q1n b0) rfl an q1n b0 i b1 (fun i' b1' => z4o an q1n b0 n i' b1') (fun c0_ c1_ c2_ => some (c0_, c1_, c2_)))))
    exact congrArg (fun kn_ => z6b an q1n b0 i b1 kn_ (fun c0_ c1_ c2_ => (zbi an q1n b0) (some (c0_, c1_, c2_)))) (funext fun i' => funext fun b1' => ih i' b1')
theorem z0q : LoopOne Try.prog fnTab 74 3 z0w := lp_of (Γ := Γ1) tyTab_ok (FnL.ok fnTab_ok _ _) (LpL.ok lt1_ok) (SumL.ok tb1_ok _) mixed (fi := fi74) (by kernel_rfl) (by kernel_rfl) (by
  intro lo st out hp
  unfold z0w at hp
  split at hp
  · rename_i an q1n i b0 b1
    injection hp with hp
    injection hp with h1 h2
    subst h2
    exact ⟨8, 8, big, Eq.trans (ziy an q1n b0 big i b1) (zis an q1n b0 (z4o an q1n b0 big i b1) h1)⟩
  · cases hp)
noncomputable def z0d : Nat → St → Option (Bool × LO)
  | 2, (St.mk [(0, (AV.v (TV.one (At.vw 0 0 s1n 1)))), (1, (AV.v (TV.one (At.vw 1 0 s2n 1)))), (12, (AV.v (TV.one (At.int IntKind.i64 t12)))), (13, (AV.v (TV.one (At.int IntKind.i64 t13))))] [(Blk.mk Bool.false (Body.fl FloatKind.f32 b0)), (Blk.mk Bool.false (Body.fl FloatKind.f32 b1))]) => some ((z56 s1n s2n t12 b0 b1 t13), (LO.two (z4s s1n s2n t12 b0 b1 t13) (LO.one Ex.ret (St.mk [(4, (AV.v (TV.one (At.bool Bool.false))))] [(Blk.mk Bool.false (Body.fl FloatKind.f32 b0)), (Blk.mk Bool.false (Body.fl FloatKind.f32 b1))])) (LO.one (Ex.exit 0) (St.mk [(0, (AV.v (TV.one (At.vw 0 0 s1n 1)))), (1, (AV.v (TV.one (At.vw 1 0 s2n 1)))), (12, (AV.v (TV.one (At.int IntKind.i64 t12)))), (13, (AV.v (TV.one (At.int IntKind.i64 (zaf s1n s2n t12 b0 b1 t13))))), (14, (AV.v (TV.one (At.bool (zae s1n s2n t12 b0 b1 t13)))))] [(Blk.mk Bool.false (Body.fl FloatKind.f32 b0)), (Blk.mk Bool.false (Body.fl FloatKind.f32 b1))]))))
  | _, _ => none
def z88 (s1n : Nat) (s2n : Nat) (t12 : Int) (b0 : List Nat) (b1 : List Nat) : Option ((Unit) ⊕ (Int × Bool)) → Option (Ex × St)
  | none => none
  | some (Sum.inl r) => some (Ex.ret, (St.mk [(4, (AV.v (TV.one (At.bool Bool.false))))] [(Blk.mk Bool.false (Body.fl FloatKind.f32 b0)), (Blk.mk Bool.false (Body.fl FloatKind.f32 b1))]))
  | some (Sum.inr r) => some ((Ex.exit 0), (St.mk [(0, (AV.v (TV.one (At.vw 0 0 s1n 1)))), (1, (AV.v (TV.one (At.vw 1 0 s2n 1)))), (12, (AV.v (TV.one (At.int IntKind.i64 t12)))), (13, (AV.v (TV.one (At.int IntKind.i64 r.1)))), (14, (AV.v (TV.one (At.bool r.2))))] [(Blk.mk Bool.false (Body.fl FloatKind.f32 b0)), (Blk.mk Bool.false (Body.fl FloatKind.f32 b1))]))
def zgm (s1n : Nat) (s2n : Nat) (t12 : Int) (b0 : List Nat) (b1 : List Nat) (x : Option ((Unit) ⊕ (Int × Bool))) : LO := (LO.two (oL x) (LO.one Ex.ret (St.mk [(4, (AV.v (TV.one (At.bool Bool.false))))] [(Blk.mk Bool.false (Body.fl FloatKind.f32 b0)), (Blk.mk Bool.false (Body.fl FloatKind.f32 b1))])) (LO.one (Ex.exit 0) (St.mk [(0, (AV.v (TV.one (At.vw 0 0 s1n 1)))), (1, (AV.v (TV.one (At.vw 1 0 s2n 1)))), (12, (AV.v (TV.one (At.int IntKind.i64 t12)))), (13, (AV.v (TV.one (At.int IntKind.i64 ((tR x).getD default).1)))), (14, (AV.v (TV.one (At.bool ((tR x).getD default).2))))] [(Blk.mk Bool.false (Body.fl FloatKind.f32 b0)), (Blk.mk Bool.false (Body.fl FloatKind.f32 b1))])))
theorem zgu (s1n : Nat) (s2n : Nat) (t12 : Int) (b0 : List Nat) (b1 : List Nat) : ∀ x : Option ((Unit) ⊕ (Int × Bool)), x.isSome = true → (z88 s1n s2n t12 b0 b1) x = some (pick (zgm s1n s2n t12 b0 b1 x))
  | none, h => by cases h
  | some (Sum.inl r), _ => rfl
  | some (Sum.inr r), _ => rfl
theorem zgv (s1n : Nat) (s2n : Nat) (t12 : Int) (t13 : Int) (b0 : List Nat) (b1 : List Nat) (K : Ex → St → Option (Ex × St)) : evC (R := Ex × St) Γ1 (evFn Γ1 8 8) 95 2 fi95.nt fi95.live fi95.nl 8 (findL 4 (loopsIn fi95.code)) (St.mk [(0, (AV.v (TV.one (At.vw 0 0 s1n 1)))), (1, (AV.v (TV.one (At.vw 1 0 s2n 1)))), (12, (AV.v (TV.one (At.int IntKind.i64 t12)))), (13, (AV.v (TV.one (At.int IntKind.i64 t13))))] [(Blk.mk Bool.false (Body.fl FloatKind.f32 b0)), (Blk.mk Bool.false (Body.fl FloatKind.f32 b1))]) K = z4p s1n s2n t12 b0 b1 t13 (fun t13' => K .normal (St.mk [(0, (AV.v (TV.one (At.vw 0 0 s1n 1)))), (1, (AV.v (TV.one (At.vw 1 0 s2n 1)))), (12, (AV.v (TV.one (At.int IntKind.i64 t12)))), (13, (AV.v (TV.one (At.int IntKind.i64 t13'))))] [(Blk.mk Bool.false (Body.fl FloatKind.f32 b0)), (Blk.mk Bool.false (Body.fl FloatKind.f32 b1))])) (fun _ => K Ex.ret (St.mk [(4, (AV.v (TV.one (At.bool Bool.false))))] [(Blk.mk Bool.false (Body.fl FloatKind.f32 b0)), (Blk.mk Bool.false (Body.fl FloatKind.f32 b1))])) (fun c0_ c1_ => K (Ex.exit 0) (St.mk [(0, (AV.v (TV.one (At.vw 0 0 s1n 1)))), (1, (AV.v (TV.one (At.vw 1 0 s2n 1)))), (12, (AV.v (TV.one (At.int IntKind.i64 t12)))), (13, (AV.v (TV.one (At.int IntKind.i64 c0_)))), (14, (AV.v (TV.one (At.bool c1_))))] [(Blk.mk Bool.false (Body.fl FloatKind.f32 b0)), (Blk.mk Bool.false (Body.fl FloatKind.f32 b1))])) := by kernel_rfl
theorem zgq (s1n : Nat) (s2n : Nat) (t12 : Int) (b0 : List Nat) (b1 : List Nat) : ∀ (n : Nat) (t13 : Int), iter 95 4 2 (evC (R := Ex × St) Γ1 (evFn Γ1 8 8) 95 2 fi95.nt fi95.live fi95.nl 8 (findL 4 (loopsIn fi95.code))) n (St.mk [(0, (AV.v (TV.one (At.vw 0 0 s1n 1)))), (1, (AV.v (TV.one (At.vw 1 0 s2n 1)))), (12, (AV.v (TV.one (At.int IntKind.i64 t12)))), (13, (AV.v (TV.one (At.int IntKind.i64 t13))))] [(Blk.mk Bool.false (Body.fl FloatKind.f32 b0)), (Blk.mk Bool.false (Body.fl FloatKind.f32 b1))]) (fun e st => some (e, st)) = (z88 s1n s2n t12 b0 b1) (z3q s1n s2n t12 b0 b1 n t13) := by
  intro n
  induction n with
  | zero => intros; rfl
  | succ n ih =>
    intro t13
    refine Eq.trans (iter_succ ..) (Eq.trans (zgv s1n s2n t12 t13 b0 b1 (nextK 95 4 2 (evC (R := Ex × St) Γ1 (evFn Γ1 8 8) 95 2 fi95.nt fi95.live fi95.nl 8 (findL 4 (loopsIn fi95.code))) n (fun e st => some (e, st)))) (Eq.trans ?_ (zgb (z88 s1n s2n t12 b0 b1) rfl s1n s2n t12 b0 b1 t13 (fun t13' => z3q s1n s2n t12 b0 b1 n t13') (fun _ => some (Sum.inl ())) (fun c0_ c1_ => some (Sum.inr (c0_, c1_))))))
    exact congrArg (fun kn_ => z4p s1n s2n t12 b0 b1 t13 kn_ (fun _ => (z88 s1n s2n t12 b0 b1) (some (Sum.inl ()))) (fun c0_ c1_ => (z88 s1n s2n t12 b0 b1) (some (Sum.inr (c0_, c1_))))) (funext fun t13' => ih t13')
theorem z0c : LoopOne Try.prog fnTab 95 4 z0d := lp_of (Γ := Γ1) tyTab_ok (FnL.ok fnTab_ok _ _) (LpL.ok lt1_ok) (SumL.ok tb1_ok _) mixed (fi := fi95) (by kernel_rfl) (by kernel_rfl) (by
  intro lo st out hp
  unfold z0d at hp
  split at hp
  · rename_i s1n s2n t12 t13 b0 b1
    injection hp with hp
    injection hp with h1 h2
    subst h2
    exact ⟨8, 8, big, Eq.trans (zgq s1n s2n t12 b0 b1 big t13) (zgu s1n s2n t12 b0 b1 (z3q s1n s2n t12 b0 b1 big t13) h1)⟩
  · cases hp)
noncomputable def tb2 : List (Nat × (List PT → Option (Bool × AV × List Blk))) := [(129, z14), (133, z0m), (137, z16), (139, z2c), (25, z2h), (64, z2g), (68, z2r), (70, z1s), (78, z2s), (91, z39), (97, z3d), (119, z0j), (40, z2n), (58, z2v), (67, z35), (96, z1k), (111, z1l)]
noncomputable def lt2 : List ((Nat × Nat) × (Nat → St → Option (Bool × LO))) := [((20, 2), z0p), ((74, 3), z0w), ((95, 4), z0d)]
noncomputable def Γ2 : Ctx := ⟨tyTab, fnTab, tblSum tb2, tblLp lt2⟩
theorem tb2_ok : SumL Try.prog tb2 := SumL.cons z0s (SumL.cons z0f (SumL.cons z0t (SumL.cons z15 (SumL.cons z1f (SumL.cons z1e (SumL.cons z1p (SumL.cons z12 (SumL.cons z1r (SumL.cons z2q (SumL.cons z30 (SumL.cons z0e (SumL.cons z1m (SumL.cons z2a (SumL.cons z2k (SumL.cons z0x (SumL.cons z0y (SumL.nil)))))))))))))))))
theorem lt2_ok : LpL Try.prog fnTab lt2 := LpL.cons z0k (LpL.cons z0q (LpL.cons z0c (LpL.nil)))
noncomputable def z1d : List PT → Option (Bool × AV × List Blk)
  | [.one (.row 1 a_n (.fl .f32 a)), .one (.s (.int .i64 k))] => some ((z9f a_n a k), ((AV.v (TV.one (At.int IntKind.i64 (z41 a_n a k)))), []))
  | _ => none
def zgf (a_n : Nat) (a : List Nat) (k : Int) : Option (Int) → Option (AV × List Blk)
  | some r => some ((AV.v (TV.one (At.int IntKind.i64 r))), [])
  | none => none
theorem zja (a_n : Nat) (a : List Nat) (k : Int) : evFn Γ2 8 8 20 (impTs 0 [.one (.row 1 a_n (.fl .f32 a)), .one (.s (.int .i64 k))]).1 (impTs 0 [.one (.row 1 a_n (.fl .f32 a)), .one (.s (.int .i64 k))]).2 (expo (impTs 0 [.one (.row 1 a_n (.fl .f32 a)), .one (.s (.int .i64 k))]).2.length) = z9b a_n a k (fun c0_ => some ((AV.v (TV.one (At.int IntKind.i64 c0_))), [])) := by kernel_rfl
theorem z0v : SumOne Try.prog 20 z1d := sum_of (Γ := Γ2) (fuel := 8) (d := 8) tyTab_ok (FnL.ok fnTab_ok _ _) (LpL.ok lt2_ok) (SumL.ok tb2_ok _) mixed (by
  intro pts v news hp hc
  clear hc
  unfold z1d at hp
  split at hp
  · rename_i a_n a k
    exact Eq.trans (Eq.trans (zja a_n a k) (zhj (zgf a_n a k) rfl a_n a k (fun c0_ => some c0_))) (fin_out (o := (zgf a_n a k)) (x := z99 a_n a k) (d := default) (V := fun r => ((AV.v (TV.one (At.int IntKind.i64 r))), [])) (fun r => rfl) hp)
  · cases hp)
noncomputable def z2e : List PT → Option (Bool × AV × List Blk)
  | [.one (.row 1 a_n (.fl .f32 a))] => some ((za6 a_n a), ((AV.v (TV.one (At.sl 0 0 (z9m a_n a) 1))), [(Blk.mk Bool.true (Body.fl FloatKind.f32 (z9u a_n a)))]))
  | _ => none
def zh0 (a_n : Nat) (a : List Nat) : Option (Nat × (List Nat)) → Option (AV × List Blk)
  | some r => some ((AV.v (TV.one (At.sl 0 0 r.1 1))), [(Blk.mk Bool.true (Body.fl FloatKind.f32 r.2))])
  | none => none
theorem zjs (a_n : Nat) (a : List Nat) : evFn Γ2 8 8 74 (impTs 0 [.one (.row 1 a_n (.fl .f32 a))]).1 (impTs 0 [.one (.row 1 a_n (.fl .f32 a))]).2 (expo (impTs 0 [.one (.row 1 a_n (.fl .f32 a))]).2.length) = za3 a_n a (fun c0_ c1_ => some ((AV.v (TV.one (At.sl 0 0 c0_ 1))), [(Blk.mk Bool.true (Body.fl FloatKind.f32 c1_))])) := by kernel_rfl
theorem z1g : SumOne Try.prog 74 z2e := sum_of (Γ := Γ2) (fuel := 8) (d := 8) tyTab_ok (FnL.ok fnTab_ok _ _) (LpL.ok lt2_ok) (SumL.ok tb2_ok _) mixed (by
  intro pts v news hp hc
  clear hc
  unfold z2e at hp
  split at hp
  · rename_i a_n a
    exact Eq.trans (Eq.trans (zjs a_n a) (zid (zh0 a_n a) rfl a_n a (fun c0_ c1_ => some (c0_, c1_)))) (fin_out (o := (zh0 a_n a)) (x := z8l a_n a) (d := default) (V := fun r => ((AV.v (TV.one (At.sl 0 0 r.1 1))), [(Blk.mk Bool.true (Body.fl FloatKind.f32 r.2))])) (fun r => rfl) hp)
  · cases hp)
noncomputable def z0n : List PT → Option (Bool × AV × List Blk)
  | [.one (.row 1 q1r (.fl .f32 s1)), .one (.row 1 q1s (.fl .f32 s2))] => some ((zag q1r s1 q1s s2), ((AV.v (TV.one (At.bool (za0 q1r s1 q1s s2)))), []))
  | _ => none
def zg6 (q1r : Nat) (s1 : List Nat) (q1s : Nat) (s2 : List Nat) : Option (Bool) → Option (AV × List Blk)
  | some r => some ((AV.v (TV.one (At.bool r))), [])
  | none => none
theorem zhl (q1r : Nat) (s1 : List Nat) (q1s : Nat) (s2 : List Nat) : evFn Γ2 8 8 95 (impTs 0 [.one (.row 1 q1r (.fl .f32 s1)), .one (.row 1 q1s (.fl .f32 s2))]).1 (impTs 0 [.one (.row 1 q1r (.fl .f32 s1)), .one (.row 1 q1s (.fl .f32 s2))]).2 (expo (impTs 0 [.one (.row 1 q1r (.fl .f32 s1)), .one (.row 1 q1s (.fl .f32 s2))]).2.length) = z82 q1r s1 q1s s2 (fun c0_ => some ((AV.v (TV.one (At.bool c0_))), [])) := by kernel_rfl
theorem z0h : SumOne Try.prog 95 z0n := sum_of (Γ := Γ2) (fuel := 8) (d := 8) tyTab_ok (FnL.ok fnTab_ok _ _) (LpL.ok lt2_ok) (SumL.ok tb2_ok _) mixed (by
  intro pts v news hp hc
  clear hc
  unfold z0n at hp
  split at hp
  · rename_i q1r s1 q1s s2
    exact Eq.trans (Eq.trans (zhl q1r s1 q1s s2) (zgj (zg6 q1r s1 q1s s2) rfl q1r s1 q1s s2 (fun c0_ => some c0_))) (fin_out (o := (zg6 q1r s1 q1s s2)) (x := z81 q1r s1 q1s s2) (d := default) (V := fun r => ((AV.v (TV.one (At.bool r))), [])) (fun r => rfl) hp)
  · cases hp)
noncomputable def z2f : List PT → Option (Bool × AV × List Blk)
  | [.one (.s (.flt .f32 x))] => some ((zes x), ((AV.v (TV.one (At.bool (zdi x)))), []))
  | _ => none
def zh1 (x : Nat) : Option (Bool) → Option (AV × List Blk)
  | some r => some ((AV.v (TV.one (At.bool r))), [])
  | none => none
theorem zjr (x : Nat) : evFn Γ2 8 8 126 (impTs 0 [.one (.s (.flt .f32 x))]).1 (impTs 0 [.one (.s (.flt .f32 x))]).2 (expo (impTs 0 [.one (.s (.flt .f32 x))]).2.length) = za2 x (fun c0_ => some ((AV.v (TV.one (At.bool c0_))), [])) := by kernel_rfl
theorem z1i : SumOne Try.prog 126 z2f := sum_of (Γ := Γ2) (fuel := 8) (d := 8) tyTab_ok (FnL.ok fnTab_ok _ _) (LpL.ok lt2_ok) (SumL.ok tb2_ok _) mixed (by
  intro pts v news hp hc
  clear hc
  unfold z2f at hp
  split at hp
  · rename_i x
    exact Eq.trans (Eq.trans (zjr x) (zih (zh1 x) rfl x (fun c0_ => some c0_))) (fin_out (o := (zh1 x)) (x := zac x) (d := default) (V := fun r => ((AV.v (TV.one (At.bool r))), [])) (fun r => rfl) hp)
  · cases hp)
noncomputable def z13 : Nat → St → Option (Bool × LO)
  | 2, (St.mk [(0, (AV.v (TV.one (At.vw 0 0 an 1)))), (1, (AV.v (TV.one (At.vw 1 0 bn 1)))), (5, (AV.v (TV.one (At.int IntKind.i64 i))))] [(Blk.mk Bool.false (Body.fl FloatKind.f32 b0)), (Blk.mk Bool.false (Body.fl FloatKind.f32 b1))]) => some ((zbe an bn b0 b1 i), (LO.two (zb0 an bn b0 b1 i) (LO.one Ex.ret (St.mk [(4, (AV.v (TV.one (At.bool Bool.false))))] [(Blk.mk Bool.false (Body.fl FloatKind.f32 b0)), (Blk.mk Bool.false (Body.fl FloatKind.f32 b1))])) (LO.one (Ex.exit 0) (St.mk [(0, (AV.v (TV.one (At.vw 0 0 an 1)))), (1, (AV.v (TV.one (At.vw 1 0 bn 1)))), (5, (AV.v (TV.one (At.int IntKind.i64 (zcw an bn b0 b1 i))))), (14, (AV.v (TV.one (At.bool (zcu an bn b0 b1 i)))))] [(Blk.mk Bool.false (Body.fl FloatKind.f32 b0)), (Blk.mk Bool.false (Body.fl FloatKind.f32 b1))]))))
  | _, _ => none
def za1 (an : Nat) (bn : Nat) (b0 : List Nat) (b1 : List Nat) : Option ((Unit) ⊕ (Int × Bool)) → Option (Ex × St)
  | none => none
  | some (Sum.inl r) => some (Ex.ret, (St.mk [(4, (AV.v (TV.one (At.bool Bool.false))))] [(Blk.mk Bool.false (Body.fl FloatKind.f32 b0)), (Blk.mk Bool.false (Body.fl FloatKind.f32 b1))]))
  | some (Sum.inr r) => some ((Ex.exit 0), (St.mk [(0, (AV.v (TV.one (At.vw 0 0 an 1)))), (1, (AV.v (TV.one (At.vw 1 0 bn 1)))), (5, (AV.v (TV.one (At.int IntKind.i64 r.1)))), (14, (AV.v (TV.one (At.bool r.2))))] [(Blk.mk Bool.false (Body.fl FloatKind.f32 b0)), (Blk.mk Bool.false (Body.fl FloatKind.f32 b1))]))
def zim (an : Nat) (bn : Nat) (b0 : List Nat) (b1 : List Nat) (x : Option ((Unit) ⊕ (Int × Bool))) : LO := (LO.two (oL x) (LO.one Ex.ret (St.mk [(4, (AV.v (TV.one (At.bool Bool.false))))] [(Blk.mk Bool.false (Body.fl FloatKind.f32 b0)), (Blk.mk Bool.false (Body.fl FloatKind.f32 b1))])) (LO.one (Ex.exit 0) (St.mk [(0, (AV.v (TV.one (At.vw 0 0 an 1)))), (1, (AV.v (TV.one (At.vw 1 0 bn 1)))), (5, (AV.v (TV.one (At.int IntKind.i64 ((tR x).getD default).1)))), (14, (AV.v (TV.one (At.bool ((tR x).getD default).2))))] [(Blk.mk Bool.false (Body.fl FloatKind.f32 b0)), (Blk.mk Bool.false (Body.fl FloatKind.f32 b1))])))
theorem zir (an : Nat) (bn : Nat) (b0 : List Nat) (b1 : List Nat) : ∀ x : Option ((Unit) ⊕ (Int × Bool)), x.isSome = true → (za1 an bn b0 b1) x = some (pick (zim an bn b0 b1 x))
  | none, h => by cases h
  | some (Sum.inl r), _ => rfl
  | some (Sum.inr r), _ => rfl
theorem ziq (an : Nat) (bn : Nat) (i : Int) (b0 : List Nat) (b1 : List Nat) (K : Ex → St → Option (Ex × St)) : evC (R := Ex × St) Γ2 (evFn Γ2 8 8) 18 2 fi18.nt fi18.live fi18.nl 8 (findL 4 (loopsIn fi18.code)) (St.mk [(0, (AV.v (TV.one (At.vw 0 0 an 1)))), (1, (AV.v (TV.one (At.vw 1 0 bn 1)))), (5, (AV.v (TV.one (At.int IntKind.i64 i))))] [(Blk.mk Bool.false (Body.fl FloatKind.f32 b0)), (Blk.mk Bool.false (Body.fl FloatKind.f32 b1))]) K = z6a an bn b0 b1 i (fun i' => K .normal (St.mk [(0, (AV.v (TV.one (At.vw 0 0 an 1)))), (1, (AV.v (TV.one (At.vw 1 0 bn 1)))), (5, (AV.v (TV.one (At.int IntKind.i64 i'))))] [(Blk.mk Bool.false (Body.fl FloatKind.f32 b0)), (Blk.mk Bool.false (Body.fl FloatKind.f32 b1))])) (fun _ => K Ex.ret (St.mk [(4, (AV.v (TV.one (At.bool Bool.false))))] [(Blk.mk Bool.false (Body.fl FloatKind.f32 b0)), (Blk.mk Bool.false (Body.fl FloatKind.f32 b1))])) (fun c0_ c1_ => K (Ex.exit 0) (St.mk [(0, (AV.v (TV.one (At.vw 0 0 an 1)))), (1, (AV.v (TV.one (At.vw 1 0 bn 1)))), (5, (AV.v (TV.one (At.int IntKind.i64 c0_)))), (14, (AV.v (TV.one (At.bool c1_))))] [(Blk.mk Bool.false (Body.fl FloatKind.f32 b0)), (Blk.mk Bool.false (Body.fl FloatKind.f32 b1))])) := by kernel_rfl
theorem ziu (an : Nat) (bn : Nat) (b0 : List Nat) (b1 : List Nat) : ∀ (n : Nat) (i : Int), iter 18 4 2 (evC (R := Ex × St) Γ2 (evFn Γ2 8 8) 18 2 fi18.nt fi18.live fi18.nl 8 (findL 4 (loopsIn fi18.code))) n (St.mk [(0, (AV.v (TV.one (At.vw 0 0 an 1)))), (1, (AV.v (TV.one (At.vw 1 0 bn 1)))), (5, (AV.v (TV.one (At.int IntKind.i64 i))))] [(Blk.mk Bool.false (Body.fl FloatKind.f32 b0)), (Blk.mk Bool.false (Body.fl FloatKind.f32 b1))]) (fun e st => some (e, st)) = (za1 an bn b0 b1) (z4n an bn b0 b1 n i) := by
  intro n
  induction n with
  | zero => intros; rfl
  | succ n ih =>
    intro i
    refine Eq.trans (iter_succ ..) (Eq.trans (ziq an bn i b0 b1 (nextK 18 4 2 (evC (R := Ex × St) Γ2 (evFn Γ2 8 8) 18 2 fi18.nt fi18.live fi18.nl 8 (findL 4 (loopsIn fi18.code))) n (fun e st => some (e, st)))) (Eq.trans ?_ (zha (za1 an bn b0 b1) rfl an bn b0 b1 i (fun i' => z4n an bn b0 b1 n i') (fun _ => some (Sum.inl ())) (fun c0_ c1_ => some (Sum.inr (c0_, c1_))))))
    exact congrArg (fun kn_ => z6a an bn b0 b1 i kn_ (fun _ => (za1 an bn b0 b1) (some (Sum.inl ()))) (fun c0_ c1_ => (za1 an bn b0 b1) (some (Sum.inr (c0_, c1_))))) (funext fun i' => ih i')
theorem z0r : LoopOne Try.prog fnTab 18 4 z13 := lp_of (Γ := Γ2) tyTab_ok (FnL.ok fnTab_ok _ _) (LpL.ok lt2_ok) (SumL.ok tb2_ok _) mixed (fi := fi18) (by kernel_rfl) (by kernel_rfl) (by
  intro lo st out hp
  unfold z13 at hp
  split at hp
  · rename_i an bn i b0 b1
    injection hp with hp
    injection hp with h1 h2
    subst h2
    exact ⟨8, 8, big, Eq.trans (ziu an bn b0 b1 big i) (zir an bn b0 b1 (z4n an bn b0 b1 big i) h1)⟩
  · cases hp)
noncomputable def tb3 : List (Nat × (List PT → Option (Bool × AV × List Blk))) := [(129, z14), (133, z0m), (137, z16), (139, z2c), (25, z2h), (64, z2g), (68, z2r), (70, z1s), (78, z2s), (91, z39), (97, z3d), (119, z0j), (40, z2n), (58, z2v), (67, z35), (96, z1k), (111, z1l), (20, z1d), (74, z2e), (95, z0n), (126, z2f)]
noncomputable def lt3 : List ((Nat × Nat) × (Nat → St → Option (Bool × LO))) := [((20, 2), z0p), ((74, 3), z0w), ((95, 4), z0d), ((18, 4), z13)]
noncomputable def Γ3 : Ctx := ⟨tyTab, fnTab, tblSum tb3, tblLp lt3⟩
theorem tb3_ok : SumL Try.prog tb3 := SumL.cons z0s (SumL.cons z0f (SumL.cons z0t (SumL.cons z15 (SumL.cons z1f (SumL.cons z1e (SumL.cons z1p (SumL.cons z12 (SumL.cons z1r (SumL.cons z2q (SumL.cons z30 (SumL.cons z0e (SumL.cons z1m (SumL.cons z2a (SumL.cons z2k (SumL.cons z0x (SumL.cons z0y (SumL.cons z0v (SumL.cons z1g (SumL.cons z0h (SumL.cons z1i (SumL.nil)))))))))))))))))))))
theorem lt3_ok : LpL Try.prog fnTab lt3 := LpL.cons z0k (LpL.cons z0q (LpL.cons z0c (LpL.cons z0r (LpL.nil))))
noncomputable def z2l : List PT → Option (Bool × AV × List Blk)
  | [.one (.row 1 a_n (.fl .f32 a)), .one (.row 1 b_n (.fl .f32 b))] => some ((za5 a_n a b_n b), ((AV.v (TV.one (At.bool (z9r a_n a b_n b)))), []))
  | _ => none
def zh2 (a_n : Nat) (a : List Nat) (b_n : Nat) (b : List Nat) : Option (Bool) → Option (AV × List Blk)
  | some r => some ((AV.v (TV.one (At.bool r))), [])
  | none => none
theorem zjo (a_n : Nat) (a : List Nat) (b_n : Nat) (b : List Nat) : evFn Γ3 8 8 18 (impTs 0 [.one (.row 1 a_n (.fl .f32 a)), .one (.row 1 b_n (.fl .f32 b))]).1 (impTs 0 [.one (.row 1 a_n (.fl .f32 a)), .one (.row 1 b_n (.fl .f32 b))]).2 (expo (impTs 0 [.one (.row 1 a_n (.fl .f32 a)), .one (.row 1 b_n (.fl .f32 b))]).2.length) = za4 a_n a b_n b (fun c0_ => some ((AV.v (TV.one (At.bool c0_))), [])) := by kernel_rfl
theorem z1n : SumOne Try.prog 18 z2l := sum_of (Γ := Γ3) (fuel := 8) (d := 8) tyTab_ok (FnL.ok fnTab_ok _ _) (LpL.ok lt3_ok) (SumL.ok tb3_ok _) mixed (by
  intro pts v news hp hc
  clear hc
  unfold z2l at hp
  split at hp
  · rename_i a_n a b_n b
    exact Eq.trans (Eq.trans (zjo a_n a b_n b) (zic (zh2 a_n a b_n b) rfl a_n a b_n b (fun c0_ => some c0_))) (fin_out (o := (zh2 a_n a b_n b)) (x := zab a_n a b_n b) (d := default) (V := fun r => ((AV.v (TV.one (At.bool r))), [])) (fun r => rfl) hp)
  · cases hp)
noncomputable def z2u : List PT → Option (Bool × AV × List Blk)
  | [.agg [.row 1 q0c (.fl .f32 q0l), .row 1 q0j (.fl .f32 q0s), .row 1 q0k (.fl .f32 q0t)]] => some ((zc2 q0c q0l q0j q0s q0k q0t), ((AV.v (TV.agg [(At.sl 0 0 (zb9 q0c q0l q0j q0s q0k q0t) 1), (At.sl 1 0 (zbb q0c q0l q0j q0s q0k q0t) 1), (At.sl 2 0 (zb8 q0c q0l q0j q0s q0k q0t) 1)])), [(Blk.mk Bool.true (Body.fl FloatKind.f32 (zb7 q0c q0l q0j q0s q0k q0t))), (Blk.mk Bool.true (Body.fl FloatKind.f32 (zba q0c q0l q0j q0s q0k q0t))), (Blk.mk Bool.true (Body.fl FloatKind.f32 (zbd q0c q0l q0j q0s q0k q0t)))]))
  | _ => none
def zhf (q0c : Nat) (q0l : List Nat) (q0j : Nat) (q0s : List Nat) (q0k : Nat) (q0t : List Nat) : Option (Nat × Nat × Nat × (List Nat) × (List Nat) × (List Nat)) → Option (AV × List Blk)
  | some r => some ((AV.v (TV.agg [(At.sl 0 0 r.1 1), (At.sl 1 0 r.2.1 1), (At.sl 2 0 r.2.2.1 1)])), [(Blk.mk Bool.true (Body.fl FloatKind.f32 r.2.2.2.1)), (Blk.mk Bool.true (Body.fl FloatKind.f32 r.2.2.2.2.1)), (Blk.mk Bool.true (Body.fl FloatKind.f32 r.2.2.2.2.2))])
  | none => none
theorem zk4 (q0c : Nat) (q0l : List Nat) (q0j : Nat) (q0s : List Nat) (q0k : Nat) (q0t : List Nat) : evFn Γ3 8 8 42 (impTs 0 [.agg [.row 1 q0c (.fl .f32 q0l), .row 1 q0j (.fl .f32 q0s), .row 1 q0k (.fl .f32 q0t)]]).1 (impTs 0 [.agg [.row 1 q0c (.fl .f32 q0l), .row 1 q0j (.fl .f32 q0s), .row 1 q0k (.fl .f32 q0t)]]).2 (expo (impTs 0 [.agg [.row 1 q0c (.fl .f32 q0l), .row 1 q0j (.fl .f32 q0s), .row 1 q0k (.fl .f32 q0t)]]).2.length) = zaj q0c q0l q0j q0s q0k q0t (fun c0_ c1_ c2_ c3_ c4_ c5_ => some ((AV.v (TV.agg [(At.sl 0 0 c0_ 1), (At.sl 1 0 c1_ 1), (At.sl 2 0 c2_ 1)])), [(Blk.mk Bool.true (Body.fl FloatKind.f32 c3_)), (Blk.mk Bool.true (Body.fl FloatKind.f32 c4_)), (Blk.mk Bool.true (Body.fl FloatKind.f32 c5_))])) := by kernel_rfl
theorem z2d : SumOne Try.prog 42 z2u := sum_of (Γ := Γ3) (fuel := 8) (d := 8) tyTab_ok (FnL.ok fnTab_ok _ _) (LpL.ok lt3_ok) (SumL.ok tb3_ok _) mixed (by
  intro pts v news hp hc
  clear hc
  unfold z2u at hp
  split at hp
  · rename_i q0c q0l q0j q0s q0k q0t
    exact Eq.trans (Eq.trans (zk4 q0c q0l q0j q0s q0k q0t) (zip (zhf q0c q0l q0j q0s q0k q0t) rfl q0c q0l q0j q0s q0k q0t (fun c0_ c1_ c2_ c3_ c4_ c5_ => some (c0_, c1_, c2_, c3_, c4_, c5_)))) (fin_out (o := (zhf q0c q0l q0j q0s q0k q0t)) (x := z6e q0c q0l q0j q0s q0k q0t) (d := default) (V := fun r => ((AV.v (TV.agg [(At.sl 0 0 r.1 1), (At.sl 1 0 r.2.1 1), (At.sl 2 0 r.2.2.1 1)])), [(Blk.mk Bool.true (Body.fl FloatKind.f32 r.2.2.2.1)), (Blk.mk Bool.true (Body.fl FloatKind.f32 r.2.2.2.2.1)), (Blk.mk Bool.true (Body.fl FloatKind.f32 r.2.2.2.2.2))])) (fun r => rfl) hp)
  · cases hp)
noncomputable def z29 : List PT → Option (Bool × AV × List Blk)
  | [.agg [.row 1 q0c (.fl .f32 q0l), .row 1 q0j (.fl .f32 q0s), .row 1 q0k (.fl .f32 q0t)], .one (.s (.int .i64 k))] => some ((zds q0c q0l q0j q0s q0k q0t k), ((AV.v (TV.one (At.int IntKind.i64 (zcc q0c q0l q0j q0s q0k q0t k)))), []))
  | _ => none
def zgl (q0c : Nat) (q0l : List Nat) (q0j : Nat) (q0s : List Nat) (q0k : Nat) (q0t : List Nat) (k : Int) : Option (Int) → Option (AV × List Blk)
  | some r => some ((AV.v (TV.one (At.int IntKind.i64 r))), [])
  | none => none
theorem zjj (q0c : Nat) (q0l : List Nat) (q0j : Nat) (q0s : List Nat) (q0k : Nat) (q0t : List Nat) (k : Int) : evFn Γ3 8 8 46 (impTs 0 [.agg [.row 1 q0c (.fl .f32 q0l), .row 1 q0j (.fl .f32 q0s), .row 1 q0k (.fl .f32 q0t)], .one (.s (.int .i64 k))]).1 (impTs 0 [.agg [.row 1 q0c (.fl .f32 q0l), .row 1 q0j (.fl .f32 q0s), .row 1 q0k (.fl .f32 q0t)], .one (.s (.int .i64 k))]).2 (expo (impTs 0 [.agg [.row 1 q0c (.fl .f32 q0l), .row 1 q0j (.fl .f32 q0s), .row 1 q0k (.fl .f32 q0t)], .one (.s (.int .i64 k))]).2.length) = z9p q0c q0l q0j q0s q0k q0t k (fun c0_ => some ((AV.v (TV.one (At.int IntKind.i64 c0_))), [])) := by kernel_rfl
theorem z1b : SumOne Try.prog 46 z29 := sum_of (Γ := Γ3) (fuel := 8) (d := 8) tyTab_ok (FnL.ok fnTab_ok _ _) (LpL.ok lt3_ok) (SumL.ok tb3_ok _) mixed (by
  intro pts v news hp hc
  clear hc
  unfold z29 at hp
  split at hp
  · rename_i q0c q0l q0j q0s q0k q0t k
    exact Eq.trans (Eq.trans (zjj q0c q0l q0j q0s q0k q0t k) (zhy (zgl q0c q0l q0j q0s q0k q0t k) rfl q0c q0l q0j q0s q0k q0t k (fun c0_ => some c0_))) (fin_out (o := (zgl q0c q0l q0j q0s q0k q0t k)) (x := z9n q0c q0l q0j q0s q0k q0t k) (d := default) (V := fun r => ((AV.v (TV.one (At.int IntKind.i64 r))), [])) (fun r => rfl) hp)
  · cases hp)
noncomputable def z34 : Nat → St → Option (Bool × LO)
  | 4, (St.mk [(0, (AV.v (TV.one (At.ptr 3 0 3)))), (3, (AV.v (TV.one (At.int IntKind.i64 t3)))), (4, (AV.v (TV.one (At.int IntKind.i64 t4))))] [(Blk.mk Bool.false (Body.fl FloatKind.f32 b0)), (Blk.mk Bool.false (Body.fl FloatKind.f32 b1)), (Blk.mk Bool.false (Body.fl FloatKind.f32 b2)), (Blk.mk Bool.false (Body.cells [(At.vw 0 0 q12 1), (At.vw 1 0 q18 1), (At.vw 2 0 q17 1)]))]) => some ((z8v t3 b0 b1 b2 q12 q18 q17 t4), (LO.two (z8e t3 b0 b1 b2 q12 q18 q17 t4) (LO.one Ex.ret (St.mk [(2, (AV.v (TV.one (At.bool Bool.false))))] [(Blk.mk Bool.false (Body.fl FloatKind.f32 b0)), (Blk.mk Bool.false (Body.fl FloatKind.f32 b1)), (Blk.mk Bool.false (Body.fl FloatKind.f32 b2)), (Blk.mk Bool.false (Body.cells [(At.vw 0 0 q12 1), (At.vw 1 0 q18 1), (At.vw 2 0 q17 1)]))])) (LO.one (Ex.exit 0) (St.mk [(0, (AV.v (TV.one (At.ptr 3 0 3)))), (3, (AV.v (TV.one (At.int IntKind.i64 t3)))), (4, (AV.v (TV.one (At.int IntKind.i64 (zg0 t3 b0 b1 b2 q12 q18 q17 t4))))), (36, (AV.v (TV.one (At.bool (zg2 t3 b0 b1 b2 q12 q18 q17 t4)))))] [(Blk.mk Bool.false (Body.fl FloatKind.f32 b0)), (Blk.mk Bool.false (Body.fl FloatKind.f32 b1)), (Blk.mk Bool.false (Body.fl FloatKind.f32 b2)), (Blk.mk Bool.false (Body.cells [(At.vw 0 0 q12 1), (At.vw 1 0 q18 1), (At.vw 2 0 q17 1)]))]))))
  | _, _ => none
def zdf (t3 : Int) (b0 : List Nat) (b1 : List Nat) (b2 : List Nat) (q12 : Nat) (q18 : Nat) (q17 : Nat) : Option ((Unit) ⊕ (Int × Bool)) → Option (Ex × St)
  | none => none
  | some (Sum.inl r) => some (Ex.ret, (St.mk [(2, (AV.v (TV.one (At.bool Bool.false))))] [(Blk.mk Bool.false (Body.fl FloatKind.f32 b0)), (Blk.mk Bool.false (Body.fl FloatKind.f32 b1)), (Blk.mk Bool.false (Body.fl FloatKind.f32 b2)), (Blk.mk Bool.false (Body.cells [(At.vw 0 0 q12 1), (At.vw 1 0 q18 1), (At.vw 2 0 q17 1)]))]))
  | some (Sum.inr r) => some ((Ex.exit 0), (St.mk [(0, (AV.v (TV.one (At.ptr 3 0 3)))), (3, (AV.v (TV.one (At.int IntKind.i64 t3)))), (4, (AV.v (TV.one (At.int IntKind.i64 r.1)))), (36, (AV.v (TV.one (At.bool r.2))))] [(Blk.mk Bool.false (Body.fl FloatKind.f32 b0)), (Blk.mk Bool.false (Body.fl FloatKind.f32 b1)), (Blk.mk Bool.false (Body.fl FloatKind.f32 b2)), (Blk.mk Bool.false (Body.cells [(At.vw 0 0 q12 1), (At.vw 1 0 q18 1), (At.vw 2 0 q17 1)]))]))
def zk1 (t3 : Int) (b0 : List Nat) (b1 : List Nat) (b2 : List Nat) (q12 : Nat) (q18 : Nat) (q17 : Nat) (x : Option ((Unit) ⊕ (Int × Bool))) : LO := (LO.two (oL x) (LO.one Ex.ret (St.mk [(2, (AV.v (TV.one (At.bool Bool.false))))] [(Blk.mk Bool.false (Body.fl FloatKind.f32 b0)), (Blk.mk Bool.false (Body.fl FloatKind.f32 b1)), (Blk.mk Bool.false (Body.fl FloatKind.f32 b2)), (Blk.mk Bool.false (Body.cells [(At.vw 0 0 q12 1), (At.vw 1 0 q18 1), (At.vw 2 0 q17 1)]))])) (LO.one (Ex.exit 0) (St.mk [(0, (AV.v (TV.one (At.ptr 3 0 3)))), (3, (AV.v (TV.one (At.int IntKind.i64 t3)))), (4, (AV.v (TV.one (At.int IntKind.i64 ((tR x).getD default).1)))), (36, (AV.v (TV.one (At.bool ((tR x).getD default).2))))] [(Blk.mk Bool.false (Body.fl FloatKind.f32 b0)), (Blk.mk Bool.false (Body.fl FloatKind.f32 b1)), (Blk.mk Bool.false (Body.fl FloatKind.f32 b2)), (Blk.mk Bool.false (Body.cells [(At.vw 0 0 q12 1), (At.vw 1 0 q18 1), (At.vw 2 0 q17 1)]))])))
theorem zk8 (t3 : Int) (b0 : List Nat) (b1 : List Nat) (b2 : List Nat) (q12 : Nat) (q18 : Nat) (q17 : Nat) : ∀ x : Option ((Unit) ⊕ (Int × Bool)), x.isSome = true → (zdf t3 b0 b1 b2 q12 q18 q17) x = some (pick (zk1 t3 b0 b1 b2 q12 q18 q17 x))
  | none, h => by cases h
  | some (Sum.inl r), _ => rfl
  | some (Sum.inr r), _ => rfl
theorem zkd (t3 : Int) (t4 : Int) (b0 : List Nat) (b1 : List Nat) (b2 : List Nat) (q12 : Nat) (q18 : Nat) (q17 : Nat) (K : Ex → St → Option (Ex × St)) : evC (R := Ex × St) Γ3 (evFn Γ3 8 8) 90 4 fi90.nt fi90.live fi90.nl 8 (findL 5 (loopsIn fi90.code)) (St.mk [(0, (AV.v (TV.one (At.ptr 3 0 3)))), (3, (AV.v (TV.one (At.int IntKind.i64 t3)))), (4, (AV.v (TV.one (At.int IntKind.i64 t4))))] [(Blk.mk Bool.false (Body.fl FloatKind.f32 b0)), (Blk.mk Bool.false (Body.fl FloatKind.f32 b1)), (Blk.mk Bool.false (Body.fl FloatKind.f32 b2)), (Blk.mk Bool.false (Body.cells [(At.vw 0 0 q12 1), (At.vw 1 0 q18 1), (At.vw 2 0 q17 1)]))]) K = z8c t3 b0 b1 b2 q12 q18 q17 t4 (fun t4' => K .normal (St.mk [(0, (AV.v (TV.one (At.ptr 3 0 3)))), (3, (AV.v (TV.one (At.int IntKind.i64 t3)))), (4, (AV.v (TV.one (At.int IntKind.i64 t4'))))] [(Blk.mk Bool.false (Body.fl FloatKind.f32 b0)), (Blk.mk Bool.false (Body.fl FloatKind.f32 b1)), (Blk.mk Bool.false (Body.fl FloatKind.f32 b2)), (Blk.mk Bool.false (Body.cells [(At.vw 0 0 q12 1), (At.vw 1 0 q18 1), (At.vw 2 0 q17 1)]))])) (fun _ => K Ex.ret (St.mk [(2, (AV.v (TV.one (At.bool Bool.false))))] [(Blk.mk Bool.false (Body.fl FloatKind.f32 b0)), (Blk.mk Bool.false (Body.fl FloatKind.f32 b1)), (Blk.mk Bool.false (Body.fl FloatKind.f32 b2)), (Blk.mk Bool.false (Body.cells [(At.vw 0 0 q12 1), (At.vw 1 0 q18 1), (At.vw 2 0 q17 1)]))])) (fun c0_ c1_ => K (Ex.exit 0) (St.mk [(0, (AV.v (TV.one (At.ptr 3 0 3)))), (3, (AV.v (TV.one (At.int IntKind.i64 t3)))), (4, (AV.v (TV.one (At.int IntKind.i64 c0_)))), (36, (AV.v (TV.one (At.bool c1_))))] [(Blk.mk Bool.false (Body.fl FloatKind.f32 b0)), (Blk.mk Bool.false (Body.fl FloatKind.f32 b1)), (Blk.mk Bool.false (Body.fl FloatKind.f32 b2)), (Blk.mk Bool.false (Body.cells [(At.vw 0 0 q12 1), (At.vw 1 0 q18 1), (At.vw 2 0 q17 1)]))])) := by kernel_rfl
theorem zka (t3 : Int) (b0 : List Nat) (b1 : List Nat) (b2 : List Nat) (q12 : Nat) (q18 : Nat) (q17 : Nat) : ∀ (n : Nat) (t4 : Int), iter 90 5 4 (evC (R := Ex × St) Γ3 (evFn Γ3 8 8) 90 4 fi90.nt fi90.live fi90.nl 8 (findL 5 (loopsIn fi90.code))) n (St.mk [(0, (AV.v (TV.one (At.ptr 3 0 3)))), (3, (AV.v (TV.one (At.int IntKind.i64 t3)))), (4, (AV.v (TV.one (At.int IntKind.i64 t4))))] [(Blk.mk Bool.false (Body.fl FloatKind.f32 b0)), (Blk.mk Bool.false (Body.fl FloatKind.f32 b1)), (Blk.mk Bool.false (Body.fl FloatKind.f32 b2)), (Blk.mk Bool.false (Body.cells [(At.vw 0 0 q12 1), (At.vw 1 0 q18 1), (At.vw 2 0 q17 1)]))]) (fun e st => some (e, st)) = (zdf t3 b0 b1 b2 q12 q18 q17) (z65 t3 b0 b1 b2 q12 q18 q17 n t4) := by
  intro n
  induction n with
  | zero => intros; rfl
  | succ n ih =>
    intro t4
    refine Eq.trans (iter_succ ..) (Eq.trans (zkd t3 t4 b0 b1 b2 q12 q18 q17 (nextK 90 5 4 (evC (R := Ex × St) Γ3 (evFn Γ3 8 8) 90 4 fi90.nt fi90.live fi90.nl 8 (findL 5 (loopsIn fi90.code))) n (fun e st => some (e, st)))) (Eq.trans ?_ (zj3 (zdf t3 b0 b1 b2 q12 q18 q17) rfl t3 b0 b1 b2 q12 q18 q17 t4 (fun t4' => z65 t3 b0 b1 b2 q12 q18 q17 n t4') (fun _ => some (Sum.inl ())) (fun c0_ c1_ => some (Sum.inr (c0_, c1_))))))
    exact congrArg (fun kn_ => z8c t3 b0 b1 b2 q12 q18 q17 t4 kn_ (fun _ => (zdf t3 b0 b1 b2 q12 q18 q17) (some (Sum.inl ()))) (fun c0_ c1_ => (zdf t3 b0 b1 b2 q12 q18 q17) (some (Sum.inr (c0_, c1_))))) (funext fun t4' => ih t4')
theorem z2m : LoopOne Try.prog fnTab 90 5 z34 := lp_of (Γ := Γ3) tyTab_ok (FnL.ok fnTab_ok _ _) (LpL.ok lt3_ok) (SumL.ok tb3_ok _) mixed (fi := fi90) (by kernel_rfl) (by kernel_rfl) (by
  intro lo st out hp
  unfold z34 at hp
  split at hp
  · rename_i t3 t4 b0 b1 b2 q12 q18 q17
    injection hp with hp
    injection hp with h1 h2
    subst h2
    exact ⟨8, 8, big, Eq.trans (zka t3 b0 b1 b2 q12 q18 q17 big t4) (zk8 t3 b0 b1 b2 q12 q18 q17 (z65 t3 b0 b1 b2 q12 q18 q17 big t4) h1)⟩
  · cases hp)
noncomputable def z01 : Nat → St → Option (Bool × LO)
  | 1, (St.mk [(0, (AV.v (TV.one (At.vw 0 0 sn 1)))), (1, (AV.v (TV.one (At.fn 111 [])))), (7, (AV.v (TV.one (At.int IntKind.i64 t7)))), (8, (AV.v (TV.one (At.int IntKind.i64 t8))))] [(Blk.mk Bool.false (Body.fl FloatKind.f32 b0))]) => some ((z4d sn t7 b0 t8), (LO.two (z47 sn t7 b0 t8) (LO.one Ex.ret (St.mk [(4, (AV.v (TV.one (At.int IntKind.i64 (z58 sn t7 b0 t8)))))] [(Blk.mk Bool.false (Body.fl FloatKind.f32 b0))])) (LO.one (Ex.exit 0) (St.mk [(0, (AV.v (TV.one (At.vw 0 0 sn 1)))), (1, (AV.v (TV.one (At.fn 111 [])))), (7, (AV.v (TV.one (At.int IntKind.i64 t7)))), (8, (AV.v (TV.one (At.int IntKind.i64 (z78 sn t7 b0 t8))))), (9, (AV.v (TV.one (At.bool (z7a sn t7 b0 t8)))))] [(Blk.mk Bool.false (Body.fl FloatKind.f32 b0))]))))
  | _, _ => none
def z4q (sn : Nat) (t7 : Int) (b0 : List Nat) : Option ((Int) ⊕ (Int × Bool)) → Option (Ex × St)
  | none => none
  | some (Sum.inl r) => some (Ex.ret, (St.mk [(4, (AV.v (TV.one (At.int IntKind.i64 r))))] [(Blk.mk Bool.false (Body.fl FloatKind.f32 b0))]))
  | some (Sum.inr r) => some ((Ex.exit 0), (St.mk [(0, (AV.v (TV.one (At.vw 0 0 sn 1)))), (1, (AV.v (TV.one (At.fn 111 [])))), (7, (AV.v (TV.one (At.int IntKind.i64 t7)))), (8, (AV.v (TV.one (At.int IntKind.i64 r.1)))), (9, (AV.v (TV.one (At.bool r.2))))] [(Blk.mk Bool.false (Body.fl FloatKind.f32 b0))]))
def zem (sn : Nat) (t7 : Int) (b0 : List Nat) (x : Option ((Int) ⊕ (Int × Bool))) : LO := (LO.two (oL x) (LO.one Ex.ret (St.mk [(4, (AV.v (TV.one (At.int IntKind.i64 ((tL x).getD default)))))] [(Blk.mk Bool.false (Body.fl FloatKind.f32 b0))])) (LO.one (Ex.exit 0) (St.mk [(0, (AV.v (TV.one (At.vw 0 0 sn 1)))), (1, (AV.v (TV.one (At.fn 111 [])))), (7, (AV.v (TV.one (At.int IntKind.i64 t7)))), (8, (AV.v (TV.one (At.int IntKind.i64 ((tR x).getD default).1)))), (9, (AV.v (TV.one (At.bool ((tR x).getD default).2))))] [(Blk.mk Bool.false (Body.fl FloatKind.f32 b0))])))
theorem zez (sn : Nat) (t7 : Int) (b0 : List Nat) : ∀ x : Option ((Int) ⊕ (Int × Bool)), x.isSome = true → (z4q sn t7 b0) x = some (pick (zem sn t7 b0 x))
  | none, h => by cases h
  | some (Sum.inl r), _ => rfl
  | some (Sum.inr r), _ => rfl
theorem zeu (sn : Nat) (t7 : Int) (t8 : Int) (b0 : List Nat) (K : Ex → St → Option (Ex × St)) : evC (R := Ex × St) Γ3 (evFn Γ3 8 8) 125 1 fi125.nt fi125.live fi125.nl 8 (findL 2 (loopsIn fi125.code)) (St.mk [(0, (AV.v (TV.one (At.vw 0 0 sn 1)))), (1, (AV.v (TV.one (At.fn 111 [])))), (7, (AV.v (TV.one (At.int IntKind.i64 t7)))), (8, (AV.v (TV.one (At.int IntKind.i64 t8))))] [(Blk.mk Bool.false (Body.fl FloatKind.f32 b0))]) K = z3g sn t7 b0 t8 (fun t8' => K .normal (St.mk [(0, (AV.v (TV.one (At.vw 0 0 sn 1)))), (1, (AV.v (TV.one (At.fn 111 [])))), (7, (AV.v (TV.one (At.int IntKind.i64 t7)))), (8, (AV.v (TV.one (At.int IntKind.i64 t8'))))] [(Blk.mk Bool.false (Body.fl FloatKind.f32 b0))])) (fun c0_ => K Ex.ret (St.mk [(4, (AV.v (TV.one (At.int IntKind.i64 c0_))))] [(Blk.mk Bool.false (Body.fl FloatKind.f32 b0))])) (fun c0_ c1_ => K (Ex.exit 0) (St.mk [(0, (AV.v (TV.one (At.vw 0 0 sn 1)))), (1, (AV.v (TV.one (At.fn 111 [])))), (7, (AV.v (TV.one (At.int IntKind.i64 t7)))), (8, (AV.v (TV.one (At.int IntKind.i64 c0_)))), (9, (AV.v (TV.one (At.bool c1_))))] [(Blk.mk Bool.false (Body.fl FloatKind.f32 b0))])) := by kernel_rfl
theorem zex (sn : Nat) (t7 : Int) (b0 : List Nat) : ∀ (n : Nat) (t8 : Int), iter 125 2 1 (evC (R := Ex × St) Γ3 (evFn Γ3 8 8) 125 1 fi125.nt fi125.live fi125.nl 8 (findL 2 (loopsIn fi125.code))) n (St.mk [(0, (AV.v (TV.one (At.vw 0 0 sn 1)))), (1, (AV.v (TV.one (At.fn 111 [])))), (7, (AV.v (TV.one (At.int IntKind.i64 t7)))), (8, (AV.v (TV.one (At.int IntKind.i64 t8))))] [(Blk.mk Bool.false (Body.fl FloatKind.f32 b0))]) (fun e st => some (e, st)) = (z4q sn t7 b0) (z1q sn t7 b0 n t8) := by
  intro n
  induction n with
  | zero => intros; rfl
  | succ n ih =>
    intro t8
    refine Eq.trans (iter_succ ..) (Eq.trans (zeu sn t7 t8 b0 (nextK 125 2 1 (evC (R := Ex × St) Γ3 (evFn Γ3 8 8) 125 1 fi125.nt fi125.live fi125.nl 8 (findL 2 (loopsIn fi125.code))) n (fun e st => some (e, st)))) (Eq.trans ?_ (zd3 (z4q sn t7 b0) rfl sn t7 b0 t8 (fun t8' => z1q sn t7 b0 n t8') (fun c0_ => some (Sum.inl c0_)) (fun c0_ c1_ => some (Sum.inr (c0_, c1_))))))
    exact congrArg (fun kn_ => z3g sn t7 b0 t8 kn_ (fun c0_ => (z4q sn t7 b0) (some (Sum.inl c0_))) (fun c0_ c1_ => (z4q sn t7 b0) (some (Sum.inr (c0_, c1_))))) (funext fun t8' => ih t8')
theorem z00 : LoopOne Try.prog fnTab 125 2 z01 := lp_of (Γ := Γ3) tyTab_ok (FnL.ok fnTab_ok _ _) (LpL.ok lt3_ok) (SumL.ok tb3_ok _) mixed (fi := fi125) (by kernel_rfl) (by kernel_rfl) (by
  intro lo st out hp
  unfold z01 at hp
  split at hp
  · rename_i sn t7 t8 b0
    injection hp with hp
    injection hp with h1 h2
    subst h2
    exact ⟨8, 8, big, Eq.trans (zex sn t7 b0 big t8) (zez sn t7 b0 (z1q sn t7 b0 big t8) h1)⟩
  · cases hp)
noncomputable def tb4 : List (Nat × (List PT → Option (Bool × AV × List Blk))) := [(129, z14), (133, z0m), (137, z16), (139, z2c), (25, z2h), (64, z2g), (68, z2r), (70, z1s), (78, z2s), (91, z39), (97, z3d), (119, z0j), (40, z2n), (58, z2v), (67, z35), (96, z1k), (111, z1l), (20, z1d), (74, z2e), (95, z0n), (126, z2f), (18, z2l), (42, z2u), (46, z29)]
noncomputable def lt4 : List ((Nat × Nat) × (Nat → St → Option (Bool × LO))) := [((20, 2), z0p), ((74, 3), z0w), ((95, 4), z0d), ((18, 4), z13), ((90, 5), z34), ((125, 2), z01)]
noncomputable def Γ4 : Ctx := ⟨tyTab, fnTab, tblSum tb4, tblLp lt4⟩
theorem tb4_ok : SumL Try.prog tb4 := SumL.cons z0s (SumL.cons z0f (SumL.cons z0t (SumL.cons z15 (SumL.cons z1f (SumL.cons z1e (SumL.cons z1p (SumL.cons z12 (SumL.cons z1r (SumL.cons z2q (SumL.cons z30 (SumL.cons z0e (SumL.cons z1m (SumL.cons z2a (SumL.cons z2k (SumL.cons z0x (SumL.cons z0y (SumL.cons z0v (SumL.cons z1g (SumL.cons z0h (SumL.cons z1i (SumL.cons z1n (SumL.cons z2d (SumL.cons z1b (SumL.nil))))))))))))))))))))))))
theorem lt4_ok : LpL Try.prog fnTab lt4 := LpL.cons z0k (LpL.cons z0q (LpL.cons z0c (LpL.cons z0r (LpL.cons z2m (LpL.cons z00 (LpL.nil))))))
noncomputable def z2x : List PT → Option (Bool × AV × List Blk)
  | [.agg [.row 1 q0c (.fl .f32 q0l), .row 1 q0j (.fl .f32 q0s), .row 1 q0k (.fl .f32 q0t)], .agg [.row 1 q1g (.fl .f32 q1m), .row 1 q1i (.fl .f32 q1o), .row 1 q1h (.fl .f32 q1p)]] => some ((zar q0c q0l q0j q0s q0k q0t q1g q1m q1i q1o q1h q1p), ((AV.v (TV.one (At.bool (zaa q0c q0l q0j q0s q0k q0t q1g q1m q1i q1o q1h q1p)))), []))
  | _ => none
def zhe (q0c : Nat) (q0l : List Nat) (q0j : Nat) (q0s : List Nat) (q0k : Nat) (q0t : List Nat) (q1g : Nat) (q1m : List Nat) (q1i : Nat) (q1o : List Nat) (q1h : Nat) (q1p : List Nat) : Option (Bool) → Option (AV × List Blk)
  | some r => some ((AV.v (TV.one (At.bool r))), [])
  | none => none
theorem zjw (q0c : Nat) (q0l : List Nat) (q0j : Nat) (q0s : List Nat) (q0k : Nat) (q0t : List Nat) (q1g : Nat) (q1m : List Nat) (q1i : Nat) (q1o : List Nat) (q1h : Nat) (q1p : List Nat) : evFn Γ4 8 8 44 (impTs 0 [.agg [.row 1 q0c (.fl .f32 q0l), .row 1 q0j (.fl .f32 q0s), .row 1 q0k (.fl .f32 q0t)], .agg [.row 1 q1g (.fl .f32 q1m), .row 1 q1i (.fl .f32 q1o), .row 1 q1h (.fl .f32 q1p)]]).1 (impTs 0 [.agg [.row 1 q0c (.fl .f32 q0l), .row 1 q0j (.fl .f32 q0s), .row 1 q0k (.fl .f32 q0t)], .agg [.row 1 q1g (.fl .f32 q1m), .row 1 q1i (.fl .f32 q1o), .row 1 q1h (.fl .f32 q1p)]]).2 (expo (impTs 0 [.agg [.row 1 q0c (.fl .f32 q0l), .row 1 q0j (.fl .f32 q0s), .row 1 q0k (.fl .f32 q0t)], .agg [.row 1 q1g (.fl .f32 q1m), .row 1 q1i (.fl .f32 q1o), .row 1 q1h (.fl .f32 q1p)]]).2.length) = zam q0c q0l q0j q0s q0k q0t q1g q1m q1i q1o q1h q1p (fun c0_ => some ((AV.v (TV.one (At.bool c0_))), [])) := by kernel_rfl
theorem z2i : SumOne Try.prog 44 z2x := sum_of (Γ := Γ4) (fuel := 8) (d := 8) tyTab_ok (FnL.ok fnTab_ok _ _) (LpL.ok lt4_ok) (SumL.ok tb4_ok _) mixed (by
  intro pts v news hp hc
  clear hc
  unfold z2x at hp
  split at hp
  · rename_i q0c q0l q0j q0s q0k q0t q1g q1m q1i q1o q1h q1p
    exact Eq.trans (Eq.trans (zjw q0c q0l q0j q0s q0k q0t q1g q1m q1i q1o q1h q1p) (ziw (zhe q0c q0l q0j q0s q0k q0t q1g q1m q1i q1o q1h q1p) rfl q0c q0l q0j q0s q0k q0t q1g q1m q1i q1o q1h q1p (fun c0_ => some c0_))) (fin_out (o := (zhe q0c q0l q0j q0s q0k q0t q1g q1m q1i q1o q1h q1p)) (x := zat q0c q0l q0j q0s q0k q0t q1g q1m q1i q1o q1h q1p) (d := default) (V := fun r => ((AV.v (TV.one (At.bool r))), [])) (fun r => rfl) hp)
  · cases hp)
noncomputable def z3m : List PT → Option (Bool × AV × List Blk)
  | [.ptr [.row 1 q00 (.fl .f32 q03), .row 1 q02 (.fl .f32 q05), .row 1 q01 (.fl .f32 q04)]] => some ((zf6 q00 q03 q02 q05 q01 q04), ((AV.v (TV.one (At.bool (zd9 q00 q03 q02 q05 q01 q04)))), []))
  | _ => none
def zjg (q00 : Nat) (q03 : List Nat) (q02 : Nat) (q05 : List Nat) (q01 : Nat) (q04 : List Nat) : Option (Bool) → Option (AV × List Blk)
  | some r => some ((AV.v (TV.one (At.bool r))), [])
  | none => none
theorem zkj (q00 : Nat) (q03 : List Nat) (q02 : Nat) (q05 : List Nat) (q01 : Nat) (q04 : List Nat) : evFn Γ4 8 8 90 (impTs 0 [.ptr [.row 1 q00 (.fl .f32 q03), .row 1 q02 (.fl .f32 q05), .row 1 q01 (.fl .f32 q04)]]).1 (impTs 0 [.ptr [.row 1 q00 (.fl .f32 q03), .row 1 q02 (.fl .f32 q05), .row 1 q01 (.fl .f32 q04)]]).2 (expo (impTs 0 [.ptr [.row 1 q00 (.fl .f32 q03), .row 1 q02 (.fl .f32 q05), .row 1 q01 (.fl .f32 q04)]]).2.length) = zf0 q00 q03 q02 q05 q01 q04 (fun c0_ => some ((AV.v (TV.one (At.bool c0_))), [])) := by kernel_rfl
theorem z3b : SumOne Try.prog 90 z3m := sum_of (Γ := Γ4) (fuel := 8) (d := 8) tyTab_ok (FnL.ok fnTab_ok _ _) (LpL.ok lt4_ok) (SumL.ok tb4_ok _) mixed (by
  intro pts v news hp hc
  clear hc
  unfold z3m at hp
  split at hp
  · rename_i q00 q03 q02 q05 q01 q04
    exact Eq.trans (Eq.trans (zkj q00 q03 q02 q05 q01 q04) (zjz (zjg q00 q03 q02 q05 q01 q04) rfl q00 q03 q02 q05 q01 q04 (fun c0_ => some c0_))) (fin_out (o := (zjg q00 q03 q02 q05 q01 q04)) (x := zey q00 q03 q02 q05 q01 q04) (d := default) (V := fun r => ((AV.v (TV.one (At.bool r))), [])) (fun r => rfl) hp)
  · cases hp)
noncomputable def z07 : List PT → Option (Bool × AV × List Blk)
  | [.one (.row 1 s_n (.fl .f32 s)), .fn 111 []] => some ((z6c s_n s), ((AV.v (TV.one (At.int IntKind.i64 (z69 s_n s)))), []))
  | _ => none
def zad (s_n : Nat) (s : List Nat) : Option (Int) → Option (AV × List Blk)
  | some r => some ((AV.v (TV.one (At.int IntKind.i64 r))), [])
  | none => none
theorem zfn (s_n : Nat) (s : List Nat) : evFn Γ4 8 8 125 (impTs 0 [.one (.row 1 s_n (.fl .f32 s)), .fn 111 []]).1 (impTs 0 [.one (.row 1 s_n (.fl .f32 s)), .fn 111 []]).2 (expo (impTs 0 [.one (.row 1 s_n (.fl .f32 s)), .fn 111 []]).2.length) = z4j s_n s (fun c0_ => some ((AV.v (TV.one (At.int IntKind.i64 c0_))), [])) := by kernel_rfl
theorem z06 : SumOne Try.prog 125 z07 := sum_of (Γ := Γ4) (fuel := 8) (d := 8) tyTab_ok (FnL.ok fnTab_ok _ _) (LpL.ok lt4_ok) (SumL.ok tb4_ok _) mixed (by
  intro pts v news hp hc
  clear hc
  unfold z07 at hp
  split at hp
  · rename_i s_n s
    exact Eq.trans (Eq.trans (zfn s_n s) (zel (zad s_n s) rfl s_n s (fun c0_ => some c0_))) (fin_out (o := (zad s_n s)) (x := z4k s_n s) (d := default) (V := fun r => ((AV.v (TV.one (At.int IntKind.i64 r))), [])) (fun r => rfl) hp)
  · cases hp)
noncomputable def z03 : Nat → St → Option (Bool × LO)
  | 1, (St.mk [(0, (AV.v (TV.one (At.vw 0 0 sn 1)))), (1, (AV.v (TV.one (At.fn 126 [])))), (7, (AV.v (TV.one (At.int IntKind.i64 t7)))), (8, (AV.v (TV.one (At.int IntKind.i64 t8))))] [(Blk.mk Bool.false (Body.fl FloatKind.f32 b0))]) => some ((z4i sn t7 b0 t8), (LO.two (z4e sn t7 b0 t8) (LO.one Ex.ret (St.mk [(4, (AV.v (TV.one (At.int IntKind.i64 (z5n sn t7 b0 t8)))))] [(Blk.mk Bool.false (Body.fl FloatKind.f32 b0))])) (LO.one (Ex.exit 0) (St.mk [(0, (AV.v (TV.one (At.vw 0 0 sn 1)))), (1, (AV.v (TV.one (At.fn 126 [])))), (7, (AV.v (TV.one (At.int IntKind.i64 t7)))), (8, (AV.v (TV.one (At.int IntKind.i64 (z7e sn t7 b0 t8))))), (9, (AV.v (TV.one (At.bool (z7d sn t7 b0 t8)))))] [(Blk.mk Bool.false (Body.fl FloatKind.f32 b0))]))))
  | _, _ => none
def z4r (sn : Nat) (t7 : Int) (b0 : List Nat) : Option ((Int) ⊕ (Int × Bool)) → Option (Ex × St)
  | none => none
  | some (Sum.inl r) => some (Ex.ret, (St.mk [(4, (AV.v (TV.one (At.int IntKind.i64 r))))] [(Blk.mk Bool.false (Body.fl FloatKind.f32 b0))]))
  | some (Sum.inr r) => some ((Ex.exit 0), (St.mk [(0, (AV.v (TV.one (At.vw 0 0 sn 1)))), (1, (AV.v (TV.one (At.fn 126 [])))), (7, (AV.v (TV.one (At.int IntKind.i64 t7)))), (8, (AV.v (TV.one (At.int IntKind.i64 r.1)))), (9, (AV.v (TV.one (At.bool r.2))))] [(Blk.mk Bool.false (Body.fl FloatKind.f32 b0))]))
def zew (sn : Nat) (t7 : Int) (b0 : List Nat) (x : Option ((Int) ⊕ (Int × Bool))) : LO := (LO.two (oL x) (LO.one Ex.ret (St.mk [(4, (AV.v (TV.one (At.int IntKind.i64 ((tL x).getD default)))))] [(Blk.mk Bool.false (Body.fl FloatKind.f32 b0))])) (LO.one (Ex.exit 0) (St.mk [(0, (AV.v (TV.one (At.vw 0 0 sn 1)))), (1, (AV.v (TV.one (At.fn 126 [])))), (7, (AV.v (TV.one (At.int IntKind.i64 t7)))), (8, (AV.v (TV.one (At.int IntKind.i64 ((tR x).getD default).1)))), (9, (AV.v (TV.one (At.bool ((tR x).getD default).2))))] [(Blk.mk Bool.false (Body.fl FloatKind.f32 b0))])))
theorem zf9 (sn : Nat) (t7 : Int) (b0 : List Nat) : ∀ x : Option ((Int) ⊕ (Int × Bool)), x.isSome = true → (z4r sn t7 b0) x = some (pick (zew sn t7 b0 x))
  | none, h => by cases h
  | some (Sum.inl r), _ => rfl
  | some (Sum.inr r), _ => rfl
theorem zf8 (sn : Nat) (t7 : Int) (t8 : Int) (b0 : List Nat) (K : Ex → St → Option (Ex × St)) : evC (R := Ex × St) Γ4 (evFn Γ4 8 8) 125 1 fi125.nt fi125.live fi125.nl 8 (findL 2 (loopsIn fi125.code)) (St.mk [(0, (AV.v (TV.one (At.vw 0 0 sn 1)))), (1, (AV.v (TV.one (At.fn 126 [])))), (7, (AV.v (TV.one (At.int IntKind.i64 t7)))), (8, (AV.v (TV.one (At.int IntKind.i64 t8))))] [(Blk.mk Bool.false (Body.fl FloatKind.f32 b0))]) K = z3l sn t7 b0 t8 (fun t8' => K .normal (St.mk [(0, (AV.v (TV.one (At.vw 0 0 sn 1)))), (1, (AV.v (TV.one (At.fn 126 [])))), (7, (AV.v (TV.one (At.int IntKind.i64 t7)))), (8, (AV.v (TV.one (At.int IntKind.i64 t8'))))] [(Blk.mk Bool.false (Body.fl FloatKind.f32 b0))])) (fun c0_ => K Ex.ret (St.mk [(4, (AV.v (TV.one (At.int IntKind.i64 c0_))))] [(Blk.mk Bool.false (Body.fl FloatKind.f32 b0))])) (fun c0_ c1_ => K (Ex.exit 0) (St.mk [(0, (AV.v (TV.one (At.vw 0 0 sn 1)))), (1, (AV.v (TV.one (At.fn 126 [])))), (7, (AV.v (TV.one (At.int IntKind.i64 t7)))), (8, (AV.v (TV.one (At.int IntKind.i64 c0_)))), (9, (AV.v (TV.one (At.bool c1_))))] [(Blk.mk Bool.false (Body.fl FloatKind.f32 b0))])) := by kernel_rfl
theorem zfb (sn : Nat) (t7 : Int) (b0 : List Nat) : ∀ (n : Nat) (t8 : Int), iter 125 2 1 (evC (R := Ex × St) Γ4 (evFn Γ4 8 8) 125 1 fi125.nt fi125.live fi125.nl 8 (findL 2 (loopsIn fi125.code))) n (St.mk [(0, (AV.v (TV.one (At.vw 0 0 sn 1)))), (1, (AV.v (TV.one (At.fn 126 [])))), (7, (AV.v (TV.one (At.int IntKind.i64 t7)))), (8, (AV.v (TV.one (At.int IntKind.i64 t8))))] [(Blk.mk Bool.false (Body.fl FloatKind.f32 b0))]) (fun e st => some (e, st)) = (z4r sn t7 b0) (z28 sn t7 b0 n t8) := by
  intro n
  induction n with
  | zero => intros; rfl
  | succ n ih =>
    intro t8
    refine Eq.trans (iter_succ ..) (Eq.trans (zf8 sn t7 t8 b0 (nextK 125 2 1 (evC (R := Ex × St) Γ4 (evFn Γ4 8 8) 125 1 fi125.nt fi125.live fi125.nl 8 (findL 2 (loopsIn fi125.code))) n (fun e st => some (e, st)))) (Eq.trans ?_ (zdn (z4r sn t7 b0) rfl sn t7 b0 t8 (fun t8' => z28 sn t7 b0 n t8') (fun c0_ => some (Sum.inl c0_)) (fun c0_ c1_ => some (Sum.inr (c0_, c1_))))))
    exact congrArg (fun kn_ => z3l sn t7 b0 t8 kn_ (fun c0_ => (z4r sn t7 b0) (some (Sum.inl c0_))) (fun c0_ c1_ => (z4r sn t7 b0) (some (Sum.inr (c0_, c1_))))) (funext fun t8' => ih t8')
theorem z02 : LoopOne Try.prog fnTab 125 2 z03 := lp_of (Γ := Γ4) tyTab_ok (FnL.ok fnTab_ok _ _) (LpL.ok lt4_ok) (SumL.ok tb4_ok _) mixed (fi := fi125) (by kernel_rfl) (by kernel_rfl) (by
  intro lo st out hp
  unfold z03 at hp
  split at hp
  · rename_i sn t7 t8 b0
    injection hp with hp
    injection hp with h1 h2
    subst h2
    exact ⟨8, 8, big, Eq.trans (zfb sn t7 b0 big t8) (zf9 sn t7 b0 (z28 sn t7 b0 big t8) h1)⟩
  · cases hp)
noncomputable def tb5 : List (Nat × (List PT → Option (Bool × AV × List Blk))) := [(129, z14), (133, z0m), (137, z16), (139, z2c), (25, z2h), (64, z2g), (68, z2r), (70, z1s), (78, z2s), (91, z39), (97, z3d), (119, z0j), (40, z2n), (58, z2v), (67, z35), (96, z1k), (111, z1l), (20, z1d), (74, z2e), (95, z0n), (126, z2f), (18, z2l), (42, z2u), (46, z29), (44, z2x), (90, z3m), (125, z07)]
noncomputable def lt5 : List ((Nat × Nat) × (Nat → St → Option (Bool × LO))) := [((20, 2), z0p), ((74, 3), z0w), ((95, 4), z0d), ((18, 4), z13), ((90, 5), z34), ((125, 2), z01), ((125, 2), z03)]
noncomputable def Γ5 : Ctx := ⟨tyTab, fnTab, tblSum tb5, tblLp lt5⟩
theorem tb5_ok : SumL Try.prog tb5 := SumL.cons z0s (SumL.cons z0f (SumL.cons z0t (SumL.cons z15 (SumL.cons z1f (SumL.cons z1e (SumL.cons z1p (SumL.cons z12 (SumL.cons z1r (SumL.cons z2q (SumL.cons z30 (SumL.cons z0e (SumL.cons z1m (SumL.cons z2a (SumL.cons z2k (SumL.cons z0x (SumL.cons z0y (SumL.cons z0v (SumL.cons z1g (SumL.cons z0h (SumL.cons z1i (SumL.cons z1n (SumL.cons z2d (SumL.cons z1b (SumL.cons z2i (SumL.cons z3b (SumL.cons z06 (SumL.nil)))))))))))))))))))))))))))
theorem lt5_ok : LpL Try.prog fnTab lt5 := LpL.cons z0k (LpL.cons z0q (LpL.cons z0c (LpL.cons z0r (LpL.cons z2m (LpL.cons z00 (LpL.cons z02 (LpL.nil)))))))
noncomputable def z0b : List PT → Option (Bool × AV × List Blk)
  | [.one (.row 1 s_n (.fl .f32 s)), .fn 126 []] => some ((z6f s_n s), ((AV.v (TV.one (At.int IntKind.i64 (z6d s_n s)))), []))
  | _ => none
def zai (s_n : Nat) (s : List Nat) : Option (Int) → Option (AV × List Blk)
  | some r => some ((AV.v (TV.one (At.int IntKind.i64 r))), [])
  | none => none
theorem zfr (s_n : Nat) (s : List Nat) : evFn Γ5 8 8 125 (impTs 0 [.one (.row 1 s_n (.fl .f32 s)), .fn 126 []]).1 (impTs 0 [.one (.row 1 s_n (.fl .f32 s)), .fn 126 []]).2 (expo (impTs 0 [.one (.row 1 s_n (.fl .f32 s)), .fn 126 []]).2.length) = z4m s_n s (fun c0_ => some ((AV.v (TV.one (At.int IntKind.i64 c0_))), [])) := by kernel_rfl
theorem z0a : SumOne Try.prog 125 z0b := sum_of (Γ := Γ5) (fuel := 8) (d := 8) tyTab_ok (FnL.ok fnTab_ok _ _) (LpL.ok lt5_ok) (SumL.ok tb5_ok _) mixed (by
  intro pts v news hp hc
  clear hc
  unfold z0b at hp
  split at hp
  · rename_i s_n s
    exact Eq.trans (Eq.trans (zfr s_n s) (zf1 (zai s_n s) rfl s_n s (fun c0_ => some c0_))) (fin_out (o := (zai s_n s)) (x := z4l s_n s) (d := default) (V := fun r => ((AV.v (TV.one (At.int IntKind.i64 r))), [])) (fun r => rfl) hp)
  · cases hp)
noncomputable def tb6 : List (Nat × (List PT → Option (Bool × AV × List Blk))) := [(129, z14), (133, z0m), (137, z16), (139, z2c), (25, z2h), (64, z2g), (68, z2r), (70, z1s), (78, z2s), (91, z39), (97, z3d), (119, z0j), (40, z2n), (58, z2v), (67, z35), (96, z1k), (111, z1l), (20, z1d), (74, z2e), (95, z0n), (126, z2f), (18, z2l), (42, z2u), (46, z29), (44, z2x), (90, z3m), (125, z07), (125, z0b)]
noncomputable def lt6 : List ((Nat × Nat) × (Nat → St → Option (Bool × LO))) := [((20, 2), z0p), ((74, 3), z0w), ((95, 4), z0d), ((18, 4), z13), ((90, 5), z34), ((125, 2), z01), ((125, 2), z03)]
noncomputable def Γ6 : Ctx := ⟨tyTab, fnTab, tblSum tb6, tblLp lt6⟩
theorem tb6_ok : SumL Try.prog tb6 := SumL.cons z0s (SumL.cons z0f (SumL.cons z0t (SumL.cons z15 (SumL.cons z1f (SumL.cons z1e (SumL.cons z1p (SumL.cons z12 (SumL.cons z1r (SumL.cons z2q (SumL.cons z30 (SumL.cons z0e (SumL.cons z1m (SumL.cons z2a (SumL.cons z2k (SumL.cons z0x (SumL.cons z0y (SumL.cons z0v (SumL.cons z1g (SumL.cons z0h (SumL.cons z1i (SumL.cons z1n (SumL.cons z2d (SumL.cons z1b (SumL.cons z2i (SumL.cons z3b (SumL.cons z06 (SumL.cons z0a (SumL.nil))))))))))))))))))))))))))))
theorem lt6_ok : LpL Try.prog fnTab lt6 := LpL.cons z0k (LpL.cons z0q (LpL.cons z0c (LpL.cons z0r (LpL.cons z2m (LpL.cons z00 (LpL.cons z02 (LpL.nil)))))))
noncomputable def z05 : List PT → Option (Bool × AV × List Blk)
  | [.one (.row 1 s_n (.fl .f32 s)), .fn 111 []] => some ((z5z s_n s), ((AV.v (TV.one (At.bool (z5y s_n s)))), []))
  | _ => none
def z9l (s_n : Nat) (s : List Nat) : Option (Bool) → Option (AV × List Blk)
  | some r => some ((AV.v (TV.one (At.bool r))), [])
  | none => none
theorem zev (s_n : Nat) (s : List Nat) : evFn Γ6 8 8 110 (impTs 0 [.one (.row 1 s_n (.fl .f32 s)), .fn 111 []]).1 (impTs 0 [.one (.row 1 s_n (.fl .f32 s)), .fn 111 []]).2 (expo (impTs 0 [.one (.row 1 s_n (.fl .f32 s)), .fn 111 []]).2.length) = z4c s_n s (fun c0_ => some ((AV.v (TV.one (At.bool c0_))), [])) := by kernel_rfl
theorem z04 : SumOne Try.prog 110 z05 := sum_of (Γ := Γ6) (fuel := 8) (d := 8) tyTab_ok (FnL.ok fnTab_ok _ _) (LpL.ok lt6_ok) (SumL.ok tb6_ok _) mixed (by
  intro pts v news hp hc
  clear hc
  unfold z05 at hp
  split at hp
  · rename_i s_n s
    exact Eq.trans (Eq.trans (zev s_n s) (zcy (z9l s_n s) rfl s_n s (fun c0_ => some c0_))) (fin_out (o := (z9l s_n s)) (x := z4b s_n s) (d := default) (V := fun r => ((AV.v (TV.one (At.bool r))), [])) (fun r => rfl) hp)
  · cases hp)
noncomputable def z09 : List PT → Option (Bool × AV × List Blk)
  | [.one (.row 1 s_n (.fl .f32 s)), .fn 126 []] => some ((z68 s_n s), ((AV.v (TV.one (At.bool (z62 s_n s)))), []))
  | _ => none
def z9x (s_n : Nat) (s : List Nat) : Option (Bool) → Option (AV × List Blk)
  | some r => some ((AV.v (TV.one (At.bool r))), [])
  | none => none
theorem zfa (s_n : Nat) (s : List Nat) : evFn Γ6 8 8 110 (impTs 0 [.one (.row 1 s_n (.fl .f32 s)), .fn 126 []]).1 (impTs 0 [.one (.row 1 s_n (.fl .f32 s)), .fn 126 []]).2 (expo (impTs 0 [.one (.row 1 s_n (.fl .f32 s)), .fn 126 []]).2.length) = z4h s_n s (fun c0_ => some ((AV.v (TV.one (At.bool c0_))), [])) := by kernel_rfl
theorem z08 : SumOne Try.prog 110 z09 := sum_of (Γ := Γ6) (fuel := 8) (d := 8) tyTab_ok (FnL.ok fnTab_ok _ _) (LpL.ok lt6_ok) (SumL.ok tb6_ok _) mixed (by
  intro pts v news hp hc
  clear hc
  unfold z09 at hp
  split at hp
  · rename_i s_n s
    exact Eq.trans (Eq.trans (zfa s_n s) (zdh (z9x s_n s) rfl s_n s (fun c0_ => some c0_))) (fin_out (o := (z9x s_n s)) (x := z4g s_n s) (d := default) (V := fun r => ((AV.v (TV.one (At.bool r))), [])) (fun r => rfl) hp)
  · cases hp)
noncomputable def tb7 : List (Nat × (List PT → Option (Bool × AV × List Blk))) := [(129, z14), (133, z0m), (137, z16), (139, z2c), (25, z2h), (64, z2g), (68, z2r), (70, z1s), (78, z2s), (91, z39), (97, z3d), (119, z0j), (40, z2n), (58, z2v), (67, z35), (96, z1k), (111, z1l), (20, z1d), (74, z2e), (95, z0n), (126, z2f), (18, z2l), (42, z2u), (46, z29), (44, z2x), (90, z3m), (125, z07), (125, z0b), (110, z05), (110, z09)]
noncomputable def lt7 : List ((Nat × Nat) × (Nat → St → Option (Bool × LO))) := [((20, 2), z0p), ((74, 3), z0w), ((95, 4), z0d), ((18, 4), z13), ((90, 5), z34), ((125, 2), z01), ((125, 2), z03)]
noncomputable def Γ7 : Ctx := ⟨tyTab, fnTab, tblSum tb7, tblLp lt7⟩
theorem tb7_ok : SumL Try.prog tb7 := SumL.cons z0s (SumL.cons z0f (SumL.cons z0t (SumL.cons z15 (SumL.cons z1f (SumL.cons z1e (SumL.cons z1p (SumL.cons z12 (SumL.cons z1r (SumL.cons z2q (SumL.cons z30 (SumL.cons z0e (SumL.cons z1m (SumL.cons z2a (SumL.cons z2k (SumL.cons z0x (SumL.cons z0y (SumL.cons z0v (SumL.cons z1g (SumL.cons z0h (SumL.cons z1i (SumL.cons z1n (SumL.cons z2d (SumL.cons z1b (SumL.cons z2i (SumL.cons z3b (SumL.cons z06 (SumL.cons z0a (SumL.cons z04 (SumL.cons z08 (SumL.nil))))))))))))))))))))))))))))))
theorem lt7_ok : LpL Try.prog fnTab lt7 := LpL.cons z0k (LpL.cons z0q (LpL.cons z0c (LpL.cons z0r (LpL.cons z2m (LpL.cons z00 (LpL.cons z02 (LpL.nil)))))))
noncomputable def z3a : List PT → Option (Bool × AV × List Blk)
  | [.one (.row 1 q1d (.fl .f32 q1l))] => some ((zfi q1d q1l), ((AV.v (TV.one (At.bool (zeq q1d q1l)))), []))
  | _ => none
def zhh (q1d : Nat) (q1l : List Nat) : Option (Bool) → Option (AV × List Blk)
  | some r => some ((AV.v (TV.one (At.bool r))), [])
  | none => none
theorem zk0 (q1d : Nat) (q1l : List Nat) : evFn Γ7 8 8 69 (impTs 0 [.one (.row 1 q1d (.fl .f32 q1l))]).1 (impTs 0 [.one (.row 1 q1d (.fl .f32 q1l))]).2 (expo (impTs 0 [.one (.row 1 q1d (.fl .f32 q1l))]).2.length) = zaq q1d q1l (fun c0_ => some ((AV.v (TV.one (At.bool c0_))), [])) := by kernel_rfl
theorem z2w : SumOne Try.prog 69 z3a := sum_of (Γ := Γ7) (fuel := 8) (d := 8) tyTab_ok (FnL.ok fnTab_ok _ _) (LpL.ok lt7_ok) (SumL.ok tb7_ok _) mixed (by
  intro pts v news hp hc
  clear hc
  unfold z3a at hp
  split at hp
  · rename_i q1d q1l
    exact Eq.trans (Eq.trans (zk0 q1d q1l) (zix (zhh q1d q1l) rfl q1d q1l (fun c0_ => some c0_))) (fin_out (o := (zhh q1d q1l)) (x := zao q1d q1l) (d := default) (V := fun r => ((AV.v (TV.one (At.bool r))), [])) (fun r => rfl) hp)
  · cases hp)
noncomputable def z3c : List PT → Option (Bool × AV × List Blk)
  | [.one (.row 1 q1d (.fl .f32 q1l))] => some ((zfs q1d q1l), ((AV.v (TV.one (At.bool (zfg q1d q1l)))), []))
  | _ => none
def zhu (q1d : Nat) (q1l : List Nat) : Option (Bool) → Option (AV × List Blk)
  | some r => some ((AV.v (TV.one (At.bool r))), [])
  | none => none
theorem zkc (q1d : Nat) (q1l : List Nat) : evFn Γ7 8 8 112 (impTs 0 [.one (.row 1 q1d (.fl .f32 q1l))]).1 (impTs 0 [.one (.row 1 q1d (.fl .f32 q1l))]).2 (expo (impTs 0 [.one (.row 1 q1d (.fl .f32 q1l))]).2.length) = zb1 q1d q1l (fun c0_ => some ((AV.v (TV.one (At.bool c0_))), [])) := by kernel_rfl
theorem z36 : SumOne Try.prog 112 z3c := sum_of (Γ := Γ7) (fuel := 8) (d := 8) tyTab_ok (FnL.ok fnTab_ok _ _) (LpL.ok lt7_ok) (SumL.ok tb7_ok _) mixed (by
  intro pts v news hp hc
  clear hc
  unfold z3c at hp
  split at hp
  · rename_i q1d q1l
    exact Eq.trans (Eq.trans (zkc q1d q1l) (zj6 (zhu q1d q1l) rfl q1d q1l (fun c0_ => some c0_))) (fin_out (o := (zhu q1d q1l)) (x := zaz q1d q1l) (d := default) (V := fun r => ((AV.v (TV.one (At.bool r))), [])) (fun r => rfl) hp)
  · cases hp)
noncomputable def z1o : Nat → St → Option (Bool × LO)
  | 6, (St.mk [(2, (AV.v (TV.one (At.flt FloatKind.f32 t2)))), (3, (AV.v (TV.one (At.ptr 6 0 3)))), (4, (AV.v (TV.one (At.ptr 7 0 3)))), (6, (AV.v (TV.one (At.ptr 8 0 3)))), (8, (AV.v (TV.one (At.ptr 9 0 3)))), (9, (AV.v (TV.one (At.int IntKind.i64 t9))))] [(Blk.mk Bool.false (Body.fl FloatKind.f32 b0)), (Blk.mk Bool.false (Body.fl FloatKind.f32 b1)), (Blk.mk Bool.false (Body.fl FloatKind.f32 b2)), (Blk.mk Bool.false (Body.fl FloatKind.f32 b3)), (Blk.mk Bool.false (Body.fl FloatKind.f32 b4)), (Blk.mk Bool.false (Body.fl FloatKind.f32 b5)), (Blk.mk Bool.true (Body.cells [(At.vw 0 0 q0h 1), (At.vw 1 0 q0d 1), (At.vw 2 0 q0e 1)])), (Blk.mk Bool.true (Body.cells [(At.vw 3 0 q0i 1), (At.vw 4 0 q0g 1), (At.vw 5 0 q0f 1)])), (Blk.mk Bool.true (Body.cells [At.nilsl, At.nilsl, At.nilsl])), (Blk.mk Bool.true (Body.cells [(At.sl 10 0 q14 1), (At.sl 11 0 q11 1), (At.sl 12 0 q10 1)])), (Blk.mk Bool.true (Body.fl FloatKind.f32 b10)), (Blk.mk Bool.true (Body.fl FloatKind.f32 b11)), (Blk.mk Bool.true (Body.fl FloatKind.f32 b12))]) => some ((z8d t2 b0 b1 b2 b3 b4 b5 q0h q0d q0e q0i q0g q0f t9 q14 q11 q10 b10 b11 b12), (LO.two (z8b t2 b0 b1 b2 b3 b4 b5 q0h q0d q0e q0i q0g q0f t9 q14 q11 q10 b10 b11 b12) (LO.one Ex.ret (St.mk [(6, (AV.v (TV.one (At.ptr 6 0 3)))), (7, (AV.v (TV.one (At.bool Bool.false))))] [(Blk.mk Bool.false (Body.fl FloatKind.f32 b0)), (Blk.mk Bool.false (Body.fl FloatKind.f32 b1)), (Blk.mk Bool.false (Body.fl FloatKind.f32 b2)), (Blk.mk Bool.false (Body.fl FloatKind.f32 b3)), (Blk.mk Bool.false (Body.fl FloatKind.f32 b4)), (Blk.mk Bool.false (Body.fl FloatKind.f32 b5)), (Blk.mk Bool.true (Body.cells [At.nilsl, At.nilsl, At.nilsl]))])) (LO.one (Ex.exit 0) (St.mk [(2, (AV.v (TV.one (At.flt FloatKind.f32 t2)))), (3, (AV.v (TV.one (At.ptr 6 0 3)))), (4, (AV.v (TV.one (At.ptr 7 0 3)))), (6, (AV.v (TV.one (At.ptr 8 0 3)))), (8, (AV.v (TV.one (At.ptr 9 0 3)))), (9, (AV.v (TV.one (At.int IntKind.i64 (zc5 t2 b0 b1 b2 b3 b4 b5 q0h q0d q0e q0i q0g q0f t9 q14 q11 q10 b10 b11 b12))))), (37, (AV.v (TV.one (At.bool (zca t2 b0 b1 b2 b3 b4 b5 q0h q0d q0e q0i q0g q0f t9 q14 q11 q10 b10 b11 b12)))))] [(Blk.mk Bool.false (Body.fl FloatKind.f32 b0)), (Blk.mk Bool.false (Body.fl FloatKind.f32 b1)), (Blk.mk Bool.false (Body.fl FloatKind.f32 b2)), (Blk.mk Bool.false (Body.fl FloatKind.f32 b3)), (Blk.mk Bool.false (Body.fl FloatKind.f32 b4)), (Blk.mk Bool.false (Body.fl FloatKind.f32 b5)), (Blk.mk Bool.true (Body.cells [(At.vw 0 0 q0h 1), (At.vw 1 0 q0d 1), (At.vw 2 0 q0e 1)])), (Blk.mk Bool.true (Body.cells [(At.vw 3 0 q0i 1), (At.vw 4 0 q0g 1), (At.vw 5 0 q0f 1)])), (Blk.mk Bool.true (Body.cells [At.nilsl, At.nilsl, At.nilsl])), (Blk.mk Bool.true (Body.cells [(At.sl 10 0 (z5v t2 b0 b1 b2 b3 b4 b5 q0h q0d q0e q0i q0g q0f t9 q14 q11 q10 b10 b11 b12) 1), (At.sl 11 0 (z5w t2 b0 b1 b2 b3 b4 b5 q0h q0d q0e q0i q0g q0f t9 q14 q11 q10 b10 b11 b12) 1), (At.sl 12 0 (z5u t2 b0 b1 b2 b3 b4 b5 q0h q0d q0e q0i q0g q0f t9 q14 q11 q10 b10 b11 b12) 1)])), (Blk.mk Bool.true (Body.fl FloatKind.f32 (z7j t2 b0 b1 b2 b3 b4 b5 q0h q0d q0e q0i q0g q0f t9 q14 q11 q10 b10 b11 b12))), (Blk.mk Bool.true (Body.fl FloatKind.f32 (z7p t2 b0 b1 b2 b3 b4 b5 q0h q0d q0e q0i q0g q0f t9 q14 q11 q10 b10 b11 b12))), (Blk.mk Bool.true (Body.fl FloatKind.f32 (z7l t2 b0 b1 b2 b3 b4 b5 q0h q0d q0e q0i q0g q0f t9 q14 q11 q10 b10 b11 b12)))]))))
  | _, _ => none
def z9o (t2 : Nat) (b0 : List Nat) (b1 : List Nat) (b2 : List Nat) (b3 : List Nat) (b4 : List Nat) (b5 : List Nat) (q0h : Nat) (q0d : Nat) (q0e : Nat) (q0i : Nat) (q0g : Nat) (q0f : Nat) : Option ((Unit) ⊕ (Int × Bool × Nat × Nat × Nat × (List Nat) × (List Nat) × (List Nat))) → Option (Ex × St)
  | none => none
  | some (Sum.inl r) => some (Ex.ret, (St.mk [(6, (AV.v (TV.one (At.ptr 6 0 3)))), (7, (AV.v (TV.one (At.bool Bool.false))))] [(Blk.mk Bool.false (Body.fl FloatKind.f32 b0)), (Blk.mk Bool.false (Body.fl FloatKind.f32 b1)), (Blk.mk Bool.false (Body.fl FloatKind.f32 b2)), (Blk.mk Bool.false (Body.fl FloatKind.f32 b3)), (Blk.mk Bool.false (Body.fl FloatKind.f32 b4)), (Blk.mk Bool.false (Body.fl FloatKind.f32 b5)), (Blk.mk Bool.true (Body.cells [At.nilsl, At.nilsl, At.nilsl]))]))
  | some (Sum.inr r) => some ((Ex.exit 0), (St.mk [(2, (AV.v (TV.one (At.flt FloatKind.f32 t2)))), (3, (AV.v (TV.one (At.ptr 6 0 3)))), (4, (AV.v (TV.one (At.ptr 7 0 3)))), (6, (AV.v (TV.one (At.ptr 8 0 3)))), (8, (AV.v (TV.one (At.ptr 9 0 3)))), (9, (AV.v (TV.one (At.int IntKind.i64 r.1)))), (37, (AV.v (TV.one (At.bool r.2.1))))] [(Blk.mk Bool.false (Body.fl FloatKind.f32 b0)), (Blk.mk Bool.false (Body.fl FloatKind.f32 b1)), (Blk.mk Bool.false (Body.fl FloatKind.f32 b2)), (Blk.mk Bool.false (Body.fl FloatKind.f32 b3)), (Blk.mk Bool.false (Body.fl FloatKind.f32 b4)), (Blk.mk Bool.false (Body.fl FloatKind.f32 b5)), (Blk.mk Bool.true (Body.cells [(At.vw 0 0 q0h 1), (At.vw 1 0 q0d 1), (At.vw 2 0 q0e 1)])), (Blk.mk Bool.true (Body.cells [(At.vw 3 0 q0i 1), (At.vw 4 0 q0g 1), (At.vw 5 0 q0f 1)])), (Blk.mk Bool.true (Body.cells [At.nilsl, At.nilsl, At.nilsl])), (Blk.mk Bool.true (Body.cells [(At.sl 10 0 r.2.2.1 1), (At.sl 11 0 r.2.2.2.1 1), (At.sl 12 0 r.2.2.2.2.1 1)])), (Blk.mk Bool.true (Body.fl FloatKind.f32 r.2.2.2.2.2.1)), (Blk.mk Bool.true (Body.fl FloatKind.f32 r.2.2.2.2.2.2.1)), (Blk.mk Bool.true (Body.fl FloatKind.f32 r.2.2.2.2.2.2.2))]))
def zi2 (t2 : Nat) (b0 : List Nat) (b1 : List Nat) (b2 : List Nat) (b3 : List Nat) (b4 : List Nat) (b5 : List Nat) (q0h : Nat) (q0d : Nat) (q0e : Nat) (q0i : Nat) (q0g : Nat) (q0f : Nat) (x : Option ((Unit) ⊕ (Int × Bool × Nat × Nat × Nat × (List Nat) × (List Nat) × (List Nat)))) : LO := (LO.two (oL x) (LO.one Ex.ret (St.mk [(6, (AV.v (TV.one (At.ptr 6 0 3)))), (7, (AV.v (TV.one (At.bool Bool.false))))] [(Blk.mk Bool.false (Body.fl FloatKind.f32 b0)), (Blk.mk Bool.false (Body.fl FloatKind.f32 b1)), (Blk.mk Bool.false (Body.fl FloatKind.f32 b2)), (Blk.mk Bool.false (Body.fl FloatKind.f32 b3)), (Blk.mk Bool.false (Body.fl FloatKind.f32 b4)), (Blk.mk Bool.false (Body.fl FloatKind.f32 b5)), (Blk.mk Bool.true (Body.cells [At.nilsl, At.nilsl, At.nilsl]))])) (LO.one (Ex.exit 0) (St.mk [(2, (AV.v (TV.one (At.flt FloatKind.f32 t2)))), (3, (AV.v (TV.one (At.ptr 6 0 3)))), (4, (AV.v (TV.one (At.ptr 7 0 3)))), (6, (AV.v (TV.one (At.ptr 8 0 3)))), (8, (AV.v (TV.one (At.ptr 9 0 3)))), (9, (AV.v (TV.one (At.int IntKind.i64 ((tR x).getD default).1)))), (37, (AV.v (TV.one (At.bool ((tR x).getD default).2.1))))] [(Blk.mk Bool.false (Body.fl FloatKind.f32 b0)), (Blk.mk Bool.false (Body.fl FloatKind.f32 b1)), (Blk.mk Bool.false (Body.fl FloatKind.f32 b2)), (Blk.mk Bool.false (Body.fl FloatKind.f32 b3)), (Blk.mk Bool.false (Body.fl FloatKind.f32 b4)), (Blk.mk Bool.false (Body.fl FloatKind.f32 b5)), (Blk.mk Bool.true (Body.cells [(At.vw 0 0 q0h 1), (At.vw 1 0 q0d 1), (At.vw 2 0 q0e 1)])), (Blk.mk Bool.true (Body.cells [(At.vw 3 0 q0i 1), (At.vw 4 0 q0g 1), (At.vw 5 0 q0f 1)])), (Blk.mk Bool.true (Body.cells [At.nilsl, At.nilsl, At.nilsl])), (Blk.mk Bool.true (Body.cells [(At.sl 10 0 ((tR x).getD default).2.2.1 1), (At.sl 11 0 ((tR x).getD default).2.2.2.1 1), (At.sl 12 0 ((tR x).getD default).2.2.2.2.1 1)])), (Blk.mk Bool.true (Body.fl FloatKind.f32 ((tR x).getD default).2.2.2.2.2.1)), (Blk.mk Bool.true (Body.fl FloatKind.f32 ((tR x).getD default).2.2.2.2.2.2.1)), (Blk.mk Bool.true (Body.fl FloatKind.f32 ((tR x).getD default).2.2.2.2.2.2.2))])))
theorem zil (t2 : Nat) (b0 : List Nat) (b1 : List Nat) (b2 : List Nat) (b3 : List Nat) (b4 : List Nat) (b5 : List Nat) (q0h : Nat) (q0d : Nat) (q0e : Nat) (q0i : Nat) (q0g : Nat) (q0f : Nat) : ∀ x : Option ((Unit) ⊕ (Int × Bool × Nat × Nat × Nat × (List Nat) × (List Nat) × (List Nat))), x.isSome = true → (z9o t2 b0 b1 b2 b3 b4 b5 q0h q0d q0e q0i q0g q0f) x = some (pick (zi2 t2 b0 b1 b2 b3 b4 b5 q0h q0d q0e q0i q0g q0f x))
  | none, h => by cases h
  | some (Sum.inl r), _ => rfl
  | some (Sum.inr r), _ => rfl
theorem zik (t2 : Nat) (t9 : Int) (b0 : List Nat) (b1 : List Nat) (b2 : List Nat) (b3 : List Nat) (b4 : List Nat) (b5 : List Nat) (q0h : Nat) (q0d : Nat) (q0e : Nat) (q0i : Nat) (q0g : Nat) (q0f : Nat) (q14 : Nat) (q11 : Nat) (q10 : Nat) (b10 : List Nat) (b11 : List Nat) (b12 : List Nat) (K : Ex → St → Option (Ex × St)) : evC (R := Ex × St) Γ7 (evFn Γ7 8 8) 41 6 fi41.nt fi41.live fi41.nl 8 (findL 5 (loopsIn fi41.code)) (St.mk [(2, (AV.v (TV.one (At.flt FloatKind.f32 t2)))), (3, (AV.v (TV.one (At.ptr 6 0 3)))), (4, (AV.v (TV.one (At.ptr 7 0 3)))), (6, (AV.v (TV.one (At.ptr 8 0 3)))), (8, (AV.v (TV.one (At.ptr 9 0 3)))), (9, (AV.v (TV.one (At.int IntKind.i64 t9))))] [(Blk.mk Bool.false (Body.fl FloatKind.f32 b0)), (Blk.mk Bool.false (Body.fl FloatKind.f32 b1)), (Blk.mk Bool.false (Body.fl FloatKind.f32 b2)), (Blk.mk Bool.false (Body.fl FloatKind.f32 b3)), (Blk.mk Bool.false (Body.fl FloatKind.f32 b4)), (Blk.mk Bool.false (Body.fl FloatKind.f32 b5)), (Blk.mk Bool.true (Body.cells [(At.vw 0 0 q0h 1), (At.vw 1 0 q0d 1), (At.vw 2 0 q0e 1)])), (Blk.mk Bool.true (Body.cells [(At.vw 3 0 q0i 1), (At.vw 4 0 q0g 1), (At.vw 5 0 q0f 1)])), (Blk.mk Bool.true (Body.cells [At.nilsl, At.nilsl, At.nilsl])), (Blk.mk Bool.true (Body.cells [(At.sl 10 0 q14 1), (At.sl 11 0 q11 1), (At.sl 12 0 q10 1)])), (Blk.mk Bool.true (Body.fl FloatKind.f32 b10)), (Blk.mk Bool.true (Body.fl FloatKind.f32 b11)), (Blk.mk Bool.true (Body.fl FloatKind.f32 b12))]) K = z64 t2 b0 b1 b2 b3 b4 b5 q0h q0d q0e q0i q0g q0f t9 q14 q11 q10 b10 b11 b12 (fun t9' q14' q11' q10' b10' b11' b12' => K .normal (St.mk [(2, (AV.v (TV.one (At.flt FloatKind.f32 t2)))), (3, (AV.v (TV.one (At.ptr 6 0 3)))), (4, (AV.v (TV.one (At.ptr 7 0 3)))), (6, (AV.v (TV.one (At.ptr 8 0 3)))), (8, (AV.v (TV.one (At.ptr 9 0 3)))), (9, (AV.v (TV.one (At.int IntKind.i64 t9'))))] [(Blk.mk Bool.false (Body.fl FloatKind.f32 b0)), (Blk.mk Bool.false (Body.fl FloatKind.f32 b1)), (Blk.mk Bool.false (Body.fl FloatKind.f32 b2)), (Blk.mk Bool.false (Body.fl FloatKind.f32 b3)), (Blk.mk Bool.false (Body.fl FloatKind.f32 b4)), (Blk.mk Bool.false (Body.fl FloatKind.f32 b5)), (Blk.mk Bool.true (Body.cells [(At.vw 0 0 q0h 1), (At.vw 1 0 q0d 1), (At.vw 2 0 q0e 1)])), (Blk.mk Bool.true (Body.cells [(At.vw 3 0 q0i 1), (At.vw 4 0 q0g 1), (At.vw 5 0 q0f 1)])), (Blk.mk Bool.true (Body.cells [At.nilsl, At.nilsl, At.nilsl])), (Blk.mk Bool.true (Body.cells [(At.sl 10 0 q14' 1), (At.sl 11 0 q11' 1), (At.sl 12 0 q10' 1)])), (Blk.mk Bool.true (Body.fl FloatKind.f32 b10')), (Blk.mk Bool.true (Body.fl FloatKind.f32 b11')), (Blk.mk Bool.true (Body.fl FloatKind.f32 b12'))])) (fun _ => K Ex.ret (St.mk [(6, (AV.v (TV.one (At.ptr 6 0 3)))), (7, (AV.v (TV.one (At.bool Bool.false))))] [(Blk.mk Bool.false (Body.fl FloatKind.f32 b0)), (Blk.mk Bool.false (Body.fl FloatKind.f32 b1)), (Blk.mk Bool.false (Body.fl FloatKind.f32 b2)), (Blk.mk Bool.false (Body.fl FloatKind.f32 b3)), (Blk.mk Bool.false (Body.fl FloatKind.f32 b4)), (Blk.mk Bool.false (Body.fl FloatKind.f32 b5)), (Blk.mk Bool.true (Body.cells [At.nilsl, At.nilsl, At.nilsl]))])) (fun c0_ c1_ c2_ c3_ c4_ c5_ c6_ c7_ => K (Ex.exit 0) (St.mk [(2, (AV.v (TV.one (At.flt FloatKind.f32 t2)))), (3, (AV.v (TV.one (At.ptr 6 0 3)))), (4, (AV.v (TV.one (At.ptr 7 0 3)))), (6, (AV.v (TV.one (At.ptr 8 0 3)))), (8, (AV.v (TV.one (At.ptr 9 0 3)))), (9, (AV.v (TV.one (At.int IntKind.i64 c0_)))), (37, (AV.v (TV.one (At.bool c1_))))] [(Blk.mk Bool.false (Body.fl FloatKind.f32 b0)), (Blk.mk Bool.false (Body.fl FloatKind.f32 b1)), (Blk.mk Bool.false (Body.fl FloatKind.f32 b2)), (Blk.mk Bool.false (Body.fl FloatKind.f32 b3)), (Blk.mk Bool.false (Body.fl FloatKind.f32 b4)), (Blk.mk Bool.false (Body.fl FloatKind.f32 b5)), (Blk.mk Bool.true (Body.cells [(At.vw 0 0 q0h 1), (At.vw 1 0 q0d 1), (At.vw 2 0 q0e 1)])), (Blk.mk Bool.true (Body.cells [(At.vw 3 0 q0i 1), (At.vw 4 0 q0g 1), (At.vw 5 0 q0f 1)])), (Blk.mk Bool.true (Body.cells [At.nilsl, At.nilsl, At.nilsl])), (Blk.mk Bool.true (Body.cells [(At.sl 10 0 c2_ 1), (At.sl 11 0 c3_ 1), (At.sl 12 0 c4_ 1)])), (Blk.mk Bool.true (Body.fl FloatKind.f32 c5_)), (Blk.mk Bool.true (Body.fl FloatKind.f32 c6_)), (Blk.mk Bool.true (Body.fl FloatKind.f32 c7_))])) := by kernel_rfl
theorem zig (t2 : Nat) (b0 : List Nat) (b1 : List Nat) (b2 : List Nat) (b3 : List Nat) (b4 : List Nat) (b5 : List Nat) (q0h : Nat) (q0d : Nat) (q0e : Nat) (q0i : Nat) (q0g : Nat) (q0f : Nat) : ∀ (n : Nat) (t9 : Int) (q14 : Nat) (q11 : Nat) (q10 : Nat) (b10 : List Nat) (b11 : List Nat) (b12 : List Nat), iter 41 5 6 (evC (R := Ex × St) Γ7 (evFn Γ7 8 8) 41 6 fi41.nt fi41.live fi41.nl 8 (findL 5 (loopsIn fi41.code))) n (St.mk [(2, (AV.v (TV.one (At.flt FloatKind.f32 t2)))), (3, (AV.v (TV.one (At.ptr 6 0 3)))), (4, (AV.v (TV.one (At.ptr 7 0 3)))), (6, (AV.v (TV.one (At.ptr 8 0 3)))), (8, (AV.v (TV.one (At.ptr 9 0 3)))), (9, (AV.v (TV.one (At.int IntKind.i64 t9))))] [(Blk.mk Bool.false (Body.fl FloatKind.f32 b0)), (Blk.mk Bool.false (Body.fl FloatKind.f32 b1)), (Blk.mk Bool.false (Body.fl FloatKind.f32 b2)), (Blk.mk Bool.false (Body.fl FloatKind.f32 b3)), (Blk.mk Bool.false (Body.fl FloatKind.f32 b4)), (Blk.mk Bool.false (Body.fl FloatKind.f32 b5)), (Blk.mk Bool.true (Body.cells [(At.vw 0 0 q0h 1), (At.vw 1 0 q0d 1), (At.vw 2 0 q0e 1)])), (Blk.mk Bool.true (Body.cells [(At.vw 3 0 q0i 1), (At.vw 4 0 q0g 1), (At.vw 5 0 q0f 1)])), (Blk.mk Bool.true (Body.cells [At.nilsl, At.nilsl, At.nilsl])), (Blk.mk Bool.true (Body.cells [(At.sl 10 0 q14 1), (At.sl 11 0 q11 1), (At.sl 12 0 q10 1)])), (Blk.mk Bool.true (Body.fl FloatKind.f32 b10)), (Blk.mk Bool.true (Body.fl FloatKind.f32 b11)), (Blk.mk Bool.true (Body.fl FloatKind.f32 b12))]) (fun e st => some (e, st)) = (z9o t2 b0 b1 b2 b3 b4 b5 q0h q0d q0e q0i q0g q0f) (z2z t2 b0 b1 b2 b3 b4 b5 q0h q0d q0e q0i q0g q0f n t9 q14 q11 q10 b10 b11 b12) := by
  intro n
  induction n with
  | zero => intros; rfl
  | succ n ih =>
    intro t9 q14 q11 q10 b10 b11 b12
    refine Eq.trans (iter_succ ..) (Eq.trans (zik t2 t9 b0 b1 b2 b3 b4 b5 q0h q0d q0e q0i q0g q0f q14 q11 q10 b10 b11 b12 (nextK 41 5 6 (evC (R := Ex × St) Γ7 (evFn Γ7 8 8) 41 6 fi41.nt fi41.live fi41.nl 8 (findL 5 (loopsIn fi41.code))) n (fun e st => some (e, st)))) (Eq.trans ?_ (zh6 (z9o t2 b0 b1 b2 b3 b4 b5 q0h q0d q0e q0i q0g q0f) rfl t2 b0 b1 b2 b3 b4 b5 q0h q0d q0e q0i q0g q0f t9 q14 q11 q10 b10 b11 b12 (fun t9' q14' q11' q10' b10' b11' b12' => z2z t2 b0 b1 b2 b3 b4 b5 q0h q0d q0e q0i q0g q0f n t9' q14' q11' q10' b10' b11' b12') (fun _ => some (Sum.inl ())) (fun c0_ c1_ c2_ c3_ c4_ c5_ c6_ c7_ => some (Sum.inr (c0_, c1_, c2_, c3_, c4_, c5_, c6_, c7_))))))
    exact congrArg (fun kn_ => z64 t2 b0 b1 b2 b3 b4 b5 q0h q0d q0e q0i q0g q0f t9 q14 q11 q10 b10 b11 b12 kn_ (fun _ => (z9o t2 b0 b1 b2 b3 b4 b5 q0h q0d q0e q0i q0g q0f) (some (Sum.inl ()))) (fun c0_ c1_ c2_ c3_ c4_ c5_ c6_ c7_ => (z9o t2 b0 b1 b2 b3 b4 b5 q0h q0d q0e q0i q0g q0f) (some (Sum.inr (c0_, c1_, c2_, c3_, c4_, c5_, c6_, c7_))))) (funext fun t9' => funext fun q14' => funext fun q11' => funext fun q10' => funext fun b10' => funext fun b11' => funext fun b12' => ih t9' q14' q11' q10' b10' b11' b12')
theorem z1c : LoopOne Try.prog fnTab 41 5 z1o := lp_of (Γ := Γ7) tyTab_ok (FnL.ok fnTab_ok _ _) (LpL.ok lt7_ok) (SumL.ok tb7_ok _) mixed (fi := fi41) (by kernel_rfl) (by kernel_rfl) (by
  intro lo st out hp
  unfold z1o at hp
  split at hp
  · rename_i t2 t9 b0 b1 b2 b3 b4 b5 q0h q0d q0e q0i q0g q0f q14 q11 q10 b10 b11 b12
    injection hp with hp
    injection hp with h1 h2
    subst h2
    exact ⟨8, 8, big, Eq.trans (zig t2 b0 b1 b2 b3 b4 b5 q0h q0d q0e q0i q0g q0f big t9 q14 q11 q10 b10 b11 b12) (zil t2 b0 b1 b2 b3 b4 b5 q0h q0d q0e q0i q0g q0f (z2z t2 b0 b1 b2 b3 b4 b5 q0h q0d q0e q0i q0g q0f big t9 q14 q11 q10 b10 b11 b12) h1)⟩
  · cases hp)
noncomputable def tb8 : List (Nat × (List PT → Option (Bool × AV × List Blk))) := [(129, z14), (133, z0m), (137, z16), (139, z2c), (25, z2h), (64, z2g), (68, z2r), (70, z1s), (78, z2s), (91, z39), (97, z3d), (119, z0j), (40, z2n), (58, z2v), (67, z35), (96, z1k), (111, z1l), (20, z1d), (74, z2e), (95, z0n), (126, z2f), (18, z2l), (42, z2u), (46, z29), (44, z2x), (90, z3m), (125, z07), (125, z0b), (110, z05), (110, z09), (69, z3a), (112, z3c)]
noncomputable def lt8 : List ((Nat × Nat) × (Nat → St → Option (Bool × LO))) := [((20, 2), z0p), ((74, 3), z0w), ((95, 4), z0d), ((18, 4), z13), ((90, 5), z34), ((125, 2), z01), ((125, 2), z03), ((41, 5), z1o)]
noncomputable def Γ8 : Ctx := ⟨tyTab, fnTab, tblSum tb8, tblLp lt8⟩
theorem tb8_ok : SumL Try.prog tb8 := SumL.cons z0s (SumL.cons z0f (SumL.cons z0t (SumL.cons z15 (SumL.cons z1f (SumL.cons z1e (SumL.cons z1p (SumL.cons z12 (SumL.cons z1r (SumL.cons z2q (SumL.cons z30 (SumL.cons z0e (SumL.cons z1m (SumL.cons z2a (SumL.cons z2k (SumL.cons z0x (SumL.cons z0y (SumL.cons z0v (SumL.cons z1g (SumL.cons z0h (SumL.cons z1i (SumL.cons z1n (SumL.cons z2d (SumL.cons z1b (SumL.cons z2i (SumL.cons z3b (SumL.cons z06 (SumL.cons z0a (SumL.cons z04 (SumL.cons z08 (SumL.cons z2w (SumL.cons z36 (SumL.nil))))))))))))))))))))))))))))))))
theorem lt8_ok : LpL Try.prog fnTab lt8 := LpL.cons z0k (LpL.cons z0q (LpL.cons z0c (LpL.cons z0r (LpL.cons z2m (LpL.cons z00 (LpL.cons z02 (LpL.cons z1c (LpL.nil))))))))
noncomputable def z31 : List PT → Option (Bool × AV × List Blk)
  | [.agg [.row 1 q00 (.fl .f32 q03), .row 1 q02 (.fl .f32 q05), .row 1 q01 (.fl .f32 q04)], .agg [.row 1 q06 (.fl .f32 q09), .row 1 q07 (.fl .f32 q0a), .row 1 q08 (.fl .f32 q0b)], .one (.s (.flt .f32 x2))] => some ((zdb q00 q03 q02 q05 q01 q04 q06 q09 q07 q0a q08 q0b x2), ((AV.tup [(TV.agg [(At.sl 0 0 (zcj q00 q03 q02 q05 q01 q04 q06 q09 q07 q0a q08 q0b x2) 1), (At.sl 1 0 (zck q00 q03 q02 q05 q01 q04 q06 q09 q07 q0a q08 q0b x2) 1), (At.sl 2 0 (zco q00 q03 q02 q05 q01 q04 q06 q09 q07 q0a q08 q0b x2) 1)]), (TV.one (At.bool (zcg q00 q03 q02 q05 q01 q04 q06 q09 q07 q0a q08 q0b x2)))]), [(Blk.mk Bool.true (Body.fl FloatKind.f32 (zcr q00 q03 q02 q05 q01 q04 q06 q09 q07 q0a q08 q0b x2))), (Blk.mk Bool.true (Body.fl FloatKind.f32 (zci q00 q03 q02 q05 q01 q04 q06 q09 q07 q0a q08 q0b x2))), (Blk.mk Bool.true (Body.fl FloatKind.f32 (zcn q00 q03 q02 q05 q01 q04 q06 q09 q07 q0a q08 q0b x2)))]))
  | _ => none
def zgk (q00 : Nat) (q03 : List Nat) (q02 : Nat) (q05 : List Nat) (q01 : Nat) (q04 : List Nat) (q06 : Nat) (q09 : List Nat) (q07 : Nat) (q0a : List Nat) (q08 : Nat) (q0b : List Nat) (x2 : Nat) : Option (Nat × Nat × Nat × Bool × (List Nat) × (List Nat) × (List Nat)) → Option (AV × List Blk)
  | some r => some ((AV.tup [(TV.agg [(At.sl 0 0 r.1 1), (At.sl 1 0 r.2.1 1), (At.sl 2 0 r.2.2.1 1)]), (TV.one (At.bool r.2.2.2.1))]), [(Blk.mk Bool.true (Body.fl FloatKind.f32 r.2.2.2.2.1)), (Blk.mk Bool.true (Body.fl FloatKind.f32 r.2.2.2.2.2.1)), (Blk.mk Bool.true (Body.fl FloatKind.f32 r.2.2.2.2.2.2))])
  | none => none
theorem zjk (q00 : Nat) (q03 : List Nat) (q02 : Nat) (q05 : List Nat) (q01 : Nat) (q04 : List Nat) (q06 : Nat) (q09 : List Nat) (q07 : Nat) (q0a : List Nat) (q08 : Nat) (q0b : List Nat) (x2 : Nat) : evFn Γ8 8 8 41 (impTs 0 [.agg [.row 1 q00 (.fl .f32 q03), .row 1 q02 (.fl .f32 q05), .row 1 q01 (.fl .f32 q04)], .agg [.row 1 q06 (.fl .f32 q09), .row 1 q07 (.fl .f32 q0a), .row 1 q08 (.fl .f32 q0b)], .one (.s (.flt .f32 x2))]).1 (impTs 0 [.agg [.row 1 q00 (.fl .f32 q03), .row 1 q02 (.fl .f32 q05), .row 1 q01 (.fl .f32 q04)], .agg [.row 1 q06 (.fl .f32 q09), .row 1 q07 (.fl .f32 q0a), .row 1 q08 (.fl .f32 q0b)], .one (.s (.flt .f32 x2))]).2 (expo (impTs 0 [.agg [.row 1 q00 (.fl .f32 q03), .row 1 q02 (.fl .f32 q05), .row 1 q01 (.fl .f32 q04)], .agg [.row 1 q06 (.fl .f32 q09), .row 1 q07 (.fl .f32 q0a), .row 1 q08 (.fl .f32 q0b)], .one (.s (.flt .f32 x2))]).2.length) = z9s q00 q03 q02 q05 q01 q04 q06 q09 q07 q0a q08 q0b x2 (fun c0_ c1_ c2_ c3_ c4_ c5_ c6_ => some ((AV.tup [(TV.agg [(At.sl 0 0 c0_ 1), (At.sl 1 0 c1_ 1), (At.sl 2 0 c2_ 1)]), (TV.one (At.bool c3_))]), [(Blk.mk Bool.true (Body.fl FloatKind.f32 c4_)), (Blk.mk Bool.true (Body.fl FloatKind.f32 c5_)), (Blk.mk Bool.true (Body.fl FloatKind.f32 c6_))])) := by kernel_rfl
theorem z2p : SumOne Try.prog 41 z31 := sum_of (Γ := Γ8) (fuel := 8) (d := 8) tyTab_ok (FnL.ok fnTab_ok _ _) (LpL.ok lt8_ok) (SumL.ok tb8_ok _) mixed (by
  intro pts v news hp hc
  clear hc
  unfold z31 at hp
  split at hp
  · rename_i q00 q03 q02 q05 q01 q04 q06 q09 q07 q0a q08 q0b x2
    exact Eq.trans (Eq.trans (zjk q00 q03 q02 q05 q01 q04 q06 q09 q07 q0a q08 q0b x2) (zhz (zgk q00 q03 q02 q05 q01 q04 q06 q09 q07 q0a q08 q0b x2) rfl q00 q03 q02 q05 q01 q04 q06 q09 q07 q0a q08 q0b x2 (fun c0_ c1_ c2_ c3_ c4_ c5_ c6_ => some (c0_, c1_, c2_, c3_, c4_, c5_, c6_)))) (fin_out (o := (zgk q00 q03 q02 q05 q01 q04 q06 q09 q07 q0a q08 q0b x2)) (x := z57 q00 q03 q02 q05 q01 q04 q06 q09 q07 q0a q08 q0b x2) (d := default) (V := fun r => ((AV.tup [(TV.agg [(At.sl 0 0 r.1 1), (At.sl 1 0 r.2.1 1), (At.sl 2 0 r.2.2.1 1)]), (TV.one (At.bool r.2.2.2.1))]), [(Blk.mk Bool.true (Body.fl FloatKind.f32 r.2.2.2.2.1)), (Blk.mk Bool.true (Body.fl FloatKind.f32 r.2.2.2.2.2.1)), (Blk.mk Bool.true (Body.fl FloatKind.f32 r.2.2.2.2.2.2))])) (fun r => rfl) hp)
  · cases hp)
noncomputable def tb9 : List (Nat × (List PT → Option (Bool × AV × List Blk))) := [(129, z14), (133, z0m), (137, z16), (139, z2c), (25, z2h), (64, z2g), (68, z2r), (70, z1s), (78, z2s), (91, z39), (97, z3d), (119, z0j), (40, z2n), (58, z2v), (67, z35), (96, z1k), (111, z1l), (20, z1d), (74, z2e), (95, z0n), (126, z2f), (18, z2l), (42, z2u), (46, z29), (44, z2x), (90, z3m), (125, z07), (125, z0b), (110, z05), (110, z09), (69, z3a), (112, z3c), (41, z31)]
noncomputable def lt9 : List ((Nat × Nat) × (Nat → St → Option (Bool × LO))) := [((20, 2), z0p), ((74, 3), z0w), ((95, 4), z0d), ((18, 4), z13), ((90, 5), z34), ((125, 2), z01), ((125, 2), z03), ((41, 5), z1o)]
noncomputable def Γ9 : Ctx := ⟨tyTab, fnTab, tblSum tb9, tblLp lt9⟩
theorem tb9_ok : SumL Try.prog tb9 := SumL.cons z0s (SumL.cons z0f (SumL.cons z0t (SumL.cons z15 (SumL.cons z1f (SumL.cons z1e (SumL.cons z1p (SumL.cons z12 (SumL.cons z1r (SumL.cons z2q (SumL.cons z30 (SumL.cons z0e (SumL.cons z1m (SumL.cons z2a (SumL.cons z2k (SumL.cons z0x (SumL.cons z0y (SumL.cons z0v (SumL.cons z1g (SumL.cons z0h (SumL.cons z1i (SumL.cons z1n (SumL.cons z2d (SumL.cons z1b (SumL.cons z2i (SumL.cons z3b (SumL.cons z06 (SumL.cons z0a (SumL.cons z04 (SumL.cons z08 (SumL.cons z2w (SumL.cons z36 (SumL.cons z2p (SumL.nil)))))))))))))))))))))))))))))))))
theorem lt9_ok : LpL Try.prog fnTab lt9 := LpL.cons z0k (LpL.cons z0q (LpL.cons z0c (LpL.cons z0r (LpL.cons z2m (LpL.cons z00 (LpL.cons z02 (LpL.cons z1c (LpL.nil))))))))
noncomputable def z24 : Nat → St → Option (Bool × LO)
  | 3, (St.mk [(1, (AV.v (TV.one (At.ptr 3 0 3)))), (42, (AV.v (TV.one (At.vw 0 0 q1k 1)))), (43, (AV.v (TV.one (At.int IntKind.i64 t43)))), (44, (AV.v (TV.one (At.int IntKind.i64 t44))))] [(Blk.mk Bool.false (Body.fl FloatKind.f32 b0)), (Blk.mk Bool.false (Body.fl FloatKind.f32 b1)), (Blk.mk Bool.false (Body.fl FloatKind.f32 b2)), (Blk.mk Bool.true (Body.cells [(At.vw 0 0 q12 1), (At.vw 1 0 q18 1), (At.vw 2 0 q17 1)]))]) => some ((z7f q1k t43 b0 q12 t44), (LO.two (z74 q1k t43 b0 q12 t44) (LO.one Ex.ret (St.mk [(2, (AV.v (TV.one (At.bool Bool.false))))] [(Blk.mk Bool.false (Body.fl FloatKind.f32 b0)), (Blk.mk Bool.false (Body.fl FloatKind.f32 b1)), (Blk.mk Bool.false (Body.fl FloatKind.f32 b2))])) (LO.one (Ex.exit 0) (St.mk [(1, (AV.v (TV.one (At.ptr 3 0 3)))), (42, (AV.v (TV.one (At.vw 0 0 q1k 1)))), (43, (AV.v (TV.one (At.int IntKind.i64 t43)))), (44, (AV.v (TV.one (At.int IntKind.i64 (zbj q1k t43 b0 q12 t44))))), (45, (AV.v (TV.one (At.bool (zbk q1k t43 b0 q12 t44)))))] [(Blk.mk Bool.false (Body.fl FloatKind.f32 b0)), (Blk.mk Bool.false (Body.fl FloatKind.f32 b1)), (Blk.mk Bool.false (Body.fl FloatKind.f32 b2)), (Blk.mk Bool.true (Body.cells [(At.vw 0 0 q12 1), (At.vw 1 0 q18 1), (At.vw 2 0 q17 1)]))]))))
  | _, _ => none
def z9h (q1k : Nat) (t43 : Int) (b0 : List Nat) (b1 : List Nat) (b2 : List Nat) (q12 : Nat) (q18 : Nat) (q17 : Nat) : Option ((Unit) ⊕ (Int × Bool)) → Option (Ex × St)
  | none => none
  | some (Sum.inl r) => some (Ex.ret, (St.mk [(2, (AV.v (TV.one (At.bool Bool.false))))] [(Blk.mk Bool.false (Body.fl FloatKind.f32 b0)), (Blk.mk Bool.false (Body.fl FloatKind.f32 b1)), (Blk.mk Bool.false (Body.fl FloatKind.f32 b2))]))
  | some (Sum.inr r) => some ((Ex.exit 0), (St.mk [(1, (AV.v (TV.one (At.ptr 3 0 3)))), (42, (AV.v (TV.one (At.vw 0 0 q1k 1)))), (43, (AV.v (TV.one (At.int IntKind.i64 t43)))), (44, (AV.v (TV.one (At.int IntKind.i64 r.1)))), (45, (AV.v (TV.one (At.bool r.2))))] [(Blk.mk Bool.false (Body.fl FloatKind.f32 b0)), (Blk.mk Bool.false (Body.fl FloatKind.f32 b1)), (Blk.mk Bool.false (Body.fl FloatKind.f32 b2)), (Blk.mk Bool.true (Body.cells [(At.vw 0 0 q12 1), (At.vw 1 0 q18 1), (At.vw 2 0 q17 1)]))]))
def zhn (q1k : Nat) (t43 : Int) (b0 : List Nat) (b1 : List Nat) (b2 : List Nat) (q12 : Nat) (q18 : Nat) (q17 : Nat) (x : Option ((Unit) ⊕ (Int × Bool))) : LO := (LO.two (oL x) (LO.one Ex.ret (St.mk [(2, (AV.v (TV.one (At.bool Bool.false))))] [(Blk.mk Bool.false (Body.fl FloatKind.f32 b0)), (Blk.mk Bool.false (Body.fl FloatKind.f32 b1)), (Blk.mk Bool.false (Body.fl FloatKind.f32 b2))])) (LO.one (Ex.exit 0) (St.mk [(1, (AV.v (TV.one (At.ptr 3 0 3)))), (42, (AV.v (TV.one (At.vw 0 0 q1k 1)))), (43, (AV.v (TV.one (At.int IntKind.i64 t43)))), (44, (AV.v (TV.one (At.int IntKind.i64 ((tR x).getD default).1)))), (45, (AV.v (TV.one (At.bool ((tR x).getD default).2))))] [(Blk.mk Bool.false (Body.fl FloatKind.f32 b0)), (Blk.mk Bool.false (Body.fl FloatKind.f32 b1)), (Blk.mk Bool.false (Body.fl FloatKind.f32 b2)), (Blk.mk Bool.true (Body.cells [(At.vw 0 0 q12 1), (At.vw 1 0 q18 1), (At.vw 2 0 q17 1)]))])))
theorem zi0 (q1k : Nat) (t43 : Int) (b0 : List Nat) (b1 : List Nat) (b2 : List Nat) (q12 : Nat) (q18 : Nat) (q17 : Nat) : ∀ x : Option ((Unit) ⊕ (Int × Bool)), x.isSome = true → (z9h q1k t43 b0 b1 b2 q12 q18 q17) x = some (pick (zhn q1k t43 b0 b1 b2 q12 q18 q17 x))
  | none, h => by cases h
  | some (Sum.inl r), _ => rfl
  | some (Sum.inr r), _ => rfl
theorem zi8 (q1k : Nat) (t43 : Int) (t44 : Int) (b0 : List Nat) (b1 : List Nat) (b2 : List Nat) (q12 : Nat) (q18 : Nat) (q17 : Nat) (K : Ex → St → Option (Ex × St)) : evC (R := Ex × St) Γ9 (evFn Γ9 8 8) 94 3 fi94.nt fi94.live fi94.nl 8 (findL 5 (loopsIn fi94.code)) (St.mk [(1, (AV.v (TV.one (At.ptr 3 0 3)))), (42, (AV.v (TV.one (At.vw 0 0 q1k 1)))), (43, (AV.v (TV.one (At.int IntKind.i64 t43)))), (44, (AV.v (TV.one (At.int IntKind.i64 t44))))] [(Blk.mk Bool.false (Body.fl FloatKind.f32 b0)), (Blk.mk Bool.false (Body.fl FloatKind.f32 b1)), (Blk.mk Bool.false (Body.fl FloatKind.f32 b2)), (Blk.mk Bool.true (Body.cells [(At.vw 0 0 q12 1), (At.vw 1 0 q18 1), (At.vw 2 0 q17 1)]))]) K = z5d q1k t43 b0 q12 t44 (fun t44' => K .normal (St.mk [(1, (AV.v (TV.one (At.ptr 3 0 3)))), (42, (AV.v (TV.one (At.vw 0 0 q1k 1)))), (43, (AV.v (TV.one (At.int IntKind.i64 t43)))), (44, (AV.v (TV.one (At.int IntKind.i64 t44'))))] [(Blk.mk Bool.false (Body.fl FloatKind.f32 b0)), (Blk.mk Bool.false (Body.fl FloatKind.f32 b1)), (Blk.mk Bool.false (Body.fl FloatKind.f32 b2)), (Blk.mk Bool.true (Body.cells [(At.vw 0 0 q12 1), (At.vw 1 0 q18 1), (At.vw 2 0 q17 1)]))])) (fun _ => K Ex.ret (St.mk [(2, (AV.v (TV.one (At.bool Bool.false))))] [(Blk.mk Bool.false (Body.fl FloatKind.f32 b0)), (Blk.mk Bool.false (Body.fl FloatKind.f32 b1)), (Blk.mk Bool.false (Body.fl FloatKind.f32 b2))])) (fun c0_ c1_ => K (Ex.exit 0) (St.mk [(1, (AV.v (TV.one (At.ptr 3 0 3)))), (42, (AV.v (TV.one (At.vw 0 0 q1k 1)))), (43, (AV.v (TV.one (At.int IntKind.i64 t43)))), (44, (AV.v (TV.one (At.int IntKind.i64 c0_)))), (45, (AV.v (TV.one (At.bool c1_))))] [(Blk.mk Bool.false (Body.fl FloatKind.f32 b0)), (Blk.mk Bool.false (Body.fl FloatKind.f32 b1)), (Blk.mk Bool.false (Body.fl FloatKind.f32 b2)), (Blk.mk Bool.true (Body.cells [(At.vw 0 0 q12 1), (At.vw 1 0 q18 1), (At.vw 2 0 q17 1)]))])) := by kernel_rfl
theorem zi9 (q1k : Nat) (t43 : Int) (b0 : List Nat) (b1 : List Nat) (b2 : List Nat) (q12 : Nat) (q18 : Nat) (q17 : Nat) : ∀ (n : Nat) (t44 : Int), iter 94 5 3 (evC (R := Ex × St) Γ9 (evFn Γ9 8 8) 94 3 fi94.nt fi94.live fi94.nl 8 (findL 5 (loopsIn fi94.code))) n (St.mk [(1, (AV.v (TV.one (At.ptr 3 0 3)))), (42, (AV.v (TV.one (At.vw 0 0 q1k 1)))), (43, (AV.v (TV.one (At.int IntKind.i64 t43)))), (44, (AV.v (TV.one (At.int IntKind.i64 t44))))] [(Blk.mk Bool.false (Body.fl FloatKind.f32 b0)), (Blk.mk Bool.false (Body.fl FloatKind.f32 b1)), (Blk.mk Bool.false (Body.fl FloatKind.f32 b2)), (Blk.mk Bool.true (Body.cells [(At.vw 0 0 q12 1), (At.vw 1 0 q18 1), (At.vw 2 0 q17 1)]))]) (fun e st => some (e, st)) = (z9h q1k t43 b0 b1 b2 q12 q18 q17) (z42 q1k t43 b0 q12 n t44) := by
  intro n
  induction n with
  | zero => intros; rfl
  | succ n ih =>
    intro t44
    refine Eq.trans (iter_succ ..) (Eq.trans (zi8 q1k t43 t44 b0 b1 b2 q12 q18 q17 (nextK 94 5 3 (evC (R := Ex × St) Γ9 (evFn Γ9 8 8) 94 3 fi94.nt fi94.live fi94.nl 8 (findL 5 (loopsIn fi94.code))) n (fun e st => some (e, st)))) (Eq.trans ?_ (zgt (z9h q1k t43 b0 b1 b2 q12 q18 q17) rfl q1k t43 b0 q12 t44 (fun t44' => z42 q1k t43 b0 q12 n t44') (fun _ => some (Sum.inl ())) (fun c0_ c1_ => some (Sum.inr (c0_, c1_))))))
    exact congrArg (fun kn_ => z5d q1k t43 b0 q12 t44 kn_ (fun _ => (z9h q1k t43 b0 b1 b2 q12 q18 q17) (some (Sum.inl ()))) (fun c0_ c1_ => (z9h q1k t43 b0 b1 b2 q12 q18 q17) (some (Sum.inr (c0_, c1_))))) (funext fun t44' => ih t44')
theorem z1j : LoopOne Try.prog fnTab 94 5 z24 := lp_of (Γ := Γ9) tyTab_ok (FnL.ok fnTab_ok _ _) (LpL.ok lt9_ok) (SumL.ok tb9_ok _) mixed (fi := fi94) (by kernel_rfl) (by kernel_rfl) (by
  intro lo st out hp
  unfold z24 at hp
  split at hp
  · rename_i q1k t43 t44 b0 b1 b2 q12 q18 q17
    injection hp with hp
    injection hp with h1 h2
    subst h2
    exact ⟨8, 8, big, Eq.trans (zi9 q1k t43 b0 b1 b2 q12 q18 q17 big t44) (zi0 q1k t43 b0 b1 b2 q12 q18 q17 (z42 q1k t43 b0 q12 big t44) h1)⟩
  · cases hp)
noncomputable def tb10 : List (Nat × (List PT → Option (Bool × AV × List Blk))) := [(129, z14), (133, z0m), (137, z16), (139, z2c), (25, z2h), (64, z2g), (68, z2r), (70, z1s), (78, z2s), (91, z39), (97, z3d), (119, z0j), (40, z2n), (58, z2v), (67, z35), (96, z1k), (111, z1l), (20, z1d), (74, z2e), (95, z0n), (126, z2f), (18, z2l), (42, z2u), (46, z29), (44, z2x), (90, z3m), (125, z07), (125, z0b), (110, z05), (110, z09), (69, z3a), (112, z3c), (41, z31)]
noncomputable def lt10 : List ((Nat × Nat) × (Nat → St → Option (Bool × LO))) := [((20, 2), z0p), ((74, 3), z0w), ((95, 4), z0d), ((18, 4), z13), ((90, 5), z34), ((125, 2), z01), ((125, 2), z03), ((41, 5), z1o), ((94, 5), z24)]
noncomputable def Γ10 : Ctx := ⟨tyTab, fnTab, tblSum tb10, tblLp lt10⟩
theorem tb10_ok : SumL Try.prog tb10 := SumL.cons z0s (SumL.cons z0f (SumL.cons z0t (SumL.cons z15 (SumL.cons z1f (SumL.cons z1e (SumL.cons z1p (SumL.cons z12 (SumL.cons z1r (SumL.cons z2q (SumL.cons z30 (SumL.cons z0e (SumL.cons z1m (SumL.cons z2a (SumL.cons z2k (SumL.cons z0x (SumL.cons z0y (SumL.cons z0v (SumL.cons z1g (SumL.cons z0h (SumL.cons z1i (SumL.cons z1n (SumL.cons z2d (SumL.cons z1b (SumL.cons z2i (SumL.cons z3b (SumL.cons z06 (SumL.cons z0a (SumL.cons z04 (SumL.cons z08 (SumL.cons z2w (SumL.cons z36 (SumL.cons z2p (SumL.nil)))))))))))))))))))))))))))))))))
theorem lt10_ok : LpL Try.prog fnTab lt10 := LpL.cons z0k (LpL.cons z0q (LpL.cons z0c (LpL.cons z0r (LpL.cons z2m (LpL.cons z00 (LpL.cons z02 (LpL.cons z1c (LpL.cons z1j (LpL.nil)))))))))
noncomputable def z33 : List PT → Option (Bool × AV × List Blk)
  | [.agg [.row 1 q00 (.fl .f32 q03), .row 1 q02 (.fl .f32 q05), .row 1 q01 (.fl .f32 q04)]] => some ((z9e q00 q03 q02 q05 q01 q04), ((AV.v (TV.one (At.bool (z8h q00 q03 q02 q05 q01 q04)))), []))
  | _ => none
def zge (q00 : Nat) (q03 : List Nat) (q02 : Nat) (q05 : List Nat) (q01 : Nat) (q04 : List Nat) : Option (Bool) → Option (AV × List Blk)
  | some r => some ((AV.v (TV.one (At.bool r))), [])
  | none => none
theorem zj4 (q00 : Nat) (q03 : List Nat) (q02 : Nat) (q05 : List Nat) (q01 : Nat) (q04 : List Nat) : evFn Γ10 8 8 94 (impTs 0 [.agg [.row 1 q00 (.fl .f32 q03), .row 1 q02 (.fl .f32 q05), .row 1 q01 (.fl .f32 q04)]]).1 (impTs 0 [.agg [.row 1 q00 (.fl .f32 q03), .row 1 q02 (.fl .f32 q05), .row 1 q01 (.fl .f32 q04)]]).2 (expo (impTs 0 [.agg [.row 1 q00 (.fl .f32 q03), .row 1 q02 (.fl .f32 q05), .row 1 q01 (.fl .f32 q04)]]).2.length) = z9a q00 q03 q02 q05 q01 q04 (fun c0_ => some ((AV.v (TV.one (At.bool c0_))), [])) := by kernel_rfl
theorem z2t : SumOne Try.prog 94 z33 := sum_of (Γ := Γ10) (fuel := 8) (d := 8) tyTab_ok (FnL.ok fnTab_ok _ _) (LpL.ok lt10_ok) (SumL.ok tb10_ok _) mixed (by
  intro pts v news hp hc
  clear hc
  unfold z33 at hp
  split at hp
  · rename_i q00 q03 q02 q05 q01 q04
    exact Eq.trans (Eq.trans (zj4 q00 q03 q02 q05 q01 q04) (zho (zge q00 q03 q02 q05 q01 q04) rfl q00 q03 q02 q05 q01 q04 (fun c0_ => some c0_))) (fin_out (o := (zge q00 q03 q02 q05 q01 q04)) (x := z9d q00 q03 q02 q05 q01 q04) (d := default) (V := fun r => ((AV.v (TV.one (At.bool r))), [])) (fun r => rfl) hp)
  · cases hp)
noncomputable def tb11 : List (Nat × (List PT → Option (Bool × AV × List Blk))) := [(129, z14), (133, z0m), (137, z16), (139, z2c), (25, z2h), (64, z2g), (68, z2r), (70, z1s), (78, z2s), (91, z39), (97, z3d), (119, z0j), (40, z2n), (58, z2v), (67, z35), (96, z1k), (111, z1l), (20, z1d), (74, z2e), (95, z0n), (126, z2f), (18, z2l), (42, z2u), (46, z29), (44, z2x), (90, z3m), (125, z07), (125, z0b), (110, z05), (110, z09), (69, z3a), (112, z3c), (41, z31), (94, z33)]
noncomputable def lt11 : List ((Nat × Nat) × (Nat → St → Option (Bool × LO))) := [((20, 2), z0p), ((74, 3), z0w), ((95, 4), z0d), ((18, 4), z13), ((90, 5), z34), ((125, 2), z01), ((125, 2), z03), ((41, 5), z1o), ((94, 5), z24)]
noncomputable def Γ11 : Ctx := ⟨tyTab, fnTab, tblSum tb11, tblLp lt11⟩
theorem tb11_ok : SumL Try.prog tb11 := SumL.cons z0s (SumL.cons z0f (SumL.cons z0t (SumL.cons z15 (SumL.cons z1f (SumL.cons z1e (SumL.cons z1p (SumL.cons z12 (SumL.cons z1r (SumL.cons z2q (SumL.cons z30 (SumL.cons z0e (SumL.cons z1m (SumL.cons z2a (SumL.cons z2k (SumL.cons z0x (SumL.cons z0y (SumL.cons z0v (SumL.cons z1g (SumL.cons z0h (SumL.cons z1i (SumL.cons z1n (SumL.cons z2d (SumL.cons z1b (SumL.cons z2i (SumL.cons z3b (SumL.cons z06 (SumL.cons z0a (SumL.cons z04 (SumL.cons z08 (SumL.cons z2w (SumL.cons z36 (SumL.cons z2p (SumL.cons z2t (SumL.nil))))))))))))))))))))))))))))))))))
theorem lt11_ok : LpL Try.prog fnTab lt11 := LpL.cons z0k (LpL.cons z0q (LpL.cons z0c (LpL.cons z0r (LpL.cons z2m (LpL.cons z00 (LpL.cons z02 (LpL.cons z1c (LpL.cons z1j (LpL.nil)))))))))
noncomputable def tb12 : List (Nat × (List PT → Option (Bool × AV × List Blk))) := [(129, z14), (133, z0m), (137, z16), (139, z2c), (25, z2h), (64, z2g), (68, z2r), (70, z1s), (78, z2s), (91, z39), (97, z3d), (119, z0j), (40, z2n), (58, z2v), (67, z35), (96, z1k), (111, z1l), (20, z1d), (74, z2e), (95, z0n), (126, z2f), (18, z2l), (42, z2u), (46, z29), (44, z2x), (90, z3m), (125, z07), (125, z0b), (110, z05), (110, z09), (69, z3a), (112, z3c), (41, z31), (94, z33)]
noncomputable def lt12 : List ((Nat × Nat) × (Nat → St → Option (Bool × LO))) := [((20, 2), z0p), ((74, 3), z0w), ((95, 4), z0d), ((18, 4), z13), ((90, 5), z34), ((125, 2), z01), ((125, 2), z03), ((41, 5), z1o), ((94, 5), z24)]
noncomputable def Γ12 : Ctx := ⟨tyTab, fnTab, tblSum tb12, tblLp lt12⟩
theorem tb12_ok : SumL Try.prog tb12 := SumL.cons z0s (SumL.cons z0f (SumL.cons z0t (SumL.cons z15 (SumL.cons z1f (SumL.cons z1e (SumL.cons z1p (SumL.cons z12 (SumL.cons z1r (SumL.cons z2q (SumL.cons z30 (SumL.cons z0e (SumL.cons z1m (SumL.cons z2a (SumL.cons z2k (SumL.cons z0x (SumL.cons z0y (SumL.cons z0v (SumL.cons z1g (SumL.cons z0h (SumL.cons z1i (SumL.cons z1n (SumL.cons z2d (SumL.cons z1b (SumL.cons z2i (SumL.cons z3b (SumL.cons z06 (SumL.cons z0a (SumL.cons z04 (SumL.cons z08 (SumL.cons z2w (SumL.cons z36 (SumL.cons z2p (SumL.cons z2t (SumL.nil))))))))))))))))))))))))))))))))))
theorem lt12_ok : LpL Try.prog fnTab lt12 := LpL.cons z0k (LpL.cons z0q (LpL.cons z0c (LpL.cons z0r (LpL.cons z2m (LpL.cons z00 (LpL.cons z02 (LpL.cons z1c (LpL.cons z1j (LpL.nil)))))))))
noncomputable def tb13 : List (Nat × (List PT → Option (Bool × AV × List Blk))) := [(129, z14), (133, z0m), (137, z16), (139, z2c), (25, z2h), (64, z2g), (68, z2r), (70, z1s), (78, z2s), (91, z39), (97, z3d), (119, z0j), (40, z2n), (58, z2v), (67, z35), (96, z1k), (111, z1l), (20, z1d), (74, z2e), (95, z0n), (126, z2f), (18, z2l), (42, z2u), (46, z29), (44, z2x), (90, z3m), (125, z07), (125, z0b), (110, z05), (110, z09), (69, z3a), (112, z3c), (41, z31), (94, z33)]
noncomputable def lt13 : List ((Nat × Nat) × (Nat → St → Option (Bool × LO))) := [((20, 2), z0p), ((74, 3), z0w), ((95, 4), z0d), ((18, 4), z13), ((90, 5), z34), ((125, 2), z01), ((125, 2), z03), ((41, 5), z1o), ((94, 5), z24)]
noncomputable def Γ13 : Ctx := ⟨tyTab, fnTab, tblSum tb13, tblLp lt13⟩
theorem tb13_ok : SumL Try.prog tb13 := SumL.cons z0s (SumL.cons z0f (SumL.cons z0t (SumL.cons z15 (SumL.cons z1f (SumL.cons z1e (SumL.cons z1p (SumL.cons z12 (SumL.cons z1r (SumL.cons z2q (SumL.cons z30 (SumL.cons z0e (SumL.cons z1m (SumL.cons z2a (SumL.cons z2k (SumL.cons z0x (SumL.cons z0y (SumL.cons z0v (SumL.cons z1g (SumL.cons z0h (SumL.cons z1i (SumL.cons z1n (SumL.cons z2d (SumL.cons z1b (SumL.cons z2i (SumL.cons z3b (SumL.cons z06 (SumL.cons z0a (SumL.cons z04 (SumL.cons z08 (SumL.cons z2w (SumL.cons z36 (SumL.cons z2p (SumL.cons z2t (SumL.nil))))))))))))))))))))))))))))))))))
theorem lt13_ok : LpL Try.prog fnTab lt13 := LpL.cons z0k (LpL.cons z0q (LpL.cons z0c (LpL.cons z0r (LpL.cons z2m (LpL.cons z00 (LpL.cons z02 (LpL.cons z1c (LpL.cons z1j (LpL.nil)))))))))
noncomputable def z37 : Nat → St → Option (Bool × LO)
  | 6, (St.mk [(2, (AV.v (TV.one (At.flt FloatKind.f32 t2)))), (3, (AV.v (TV.one (At.ptr 6 0 3)))), (4, (AV.v (TV.one (At.ptr 7 0 3)))), (6, (AV.v (TV.one (At.ptr 8 0 3)))), (8, (AV.v (TV.one (At.ptr 9 0 3)))), (36, (AV.v (TV.one (At.int IntKind.i64 t36)))), (37, (AV.v (TV.one (At.int IntKind.i64 t37))))] [(Blk.mk Bool.false (Body.fl FloatKind.f32 b0)), (Blk.mk Bool.false (Body.fl FloatKind.f32 b1)), (Blk.mk Bool.false (Body.fl FloatKind.f32 b2)), (Blk.mk Bool.false (Body.fl FloatKind.f32 b3)), (Blk.mk Bool.false (Body.fl FloatKind.f32 b4)), (Blk.mk Bool.false (Body.fl FloatKind.f32 b5)), (Blk.mk Bool.true (Body.cells [(At.vw 0 0 q0h 1), (At.vw 1 0 q0d 1), (At.vw 2 0 q0e 1)])), (Blk.mk Bool.true (Body.cells [(At.vw 3 0 q0i 1), (At.vw 4 0 q0g 1), (At.vw 5 0 q0f 1)])), (Blk.mk Bool.true (Body.cells [At.nilsl, At.nilsl, At.nilsl])), (Blk.mk Bool.true (Body.cells [(At.sl 10 0 q14 1), (At.sl 11 0 q11 1), (At.sl 12 0 q10 1)])), (Blk.mk Bool.true (Body.fl FloatKind.f32 b10)), (Blk.mk Bool.true (Body.fl FloatKind.f32 b11)), (Blk.mk Bool.true (Body.fl FloatKind.f32 b12))]) => some ((zaw t2 t36 b1 b2 b4 b5 q0d q0e q0g q0f q11 q10 t37 b11 b12), (LO.one (Ex.exit 0) (St.mk [(2, (AV.v (TV.one (At.flt FloatKind.f32 t2)))), (3, (AV.v (TV.one (At.ptr 6 0 3)))), (4, (AV.v (TV.one (At.ptr 7 0 3)))), (6, (AV.v (TV.one (At.ptr 8 0 3)))), (8, (AV.v (TV.one (At.ptr 9 0 3)))), (36, (AV.v (TV.one (At.int IntKind.i64 t36)))), (37, (AV.v (TV.one (At.int IntKind.i64 (zc3 t2 t36 b1 b2 b4 b5 q0d q0e q0g q0f q11 q10 t37 b11 b12))))), (38, (AV.v (TV.one (At.bool (zbz t2 t36 b1 b2 b4 b5 q0d q0e q0g q0f q11 q10 t37 b11 b12)))))] [(Blk.mk Bool.false (Body.fl FloatKind.f32 b0)), (Blk.mk Bool.false (Body.fl FloatKind.f32 b1)), (Blk.mk Bool.false (Body.fl FloatKind.f32 b2)), (Blk.mk Bool.false (Body.fl FloatKind.f32 b3)), (Blk.mk Bool.false (Body.fl FloatKind.f32 b4)), (Blk.mk Bool.false (Body.fl FloatKind.f32 b5)), (Blk.mk Bool.true (Body.cells [(At.vw 0 0 q0h 1), (At.vw 1 0 q0d 1), (At.vw 2 0 q0e 1)])), (Blk.mk Bool.true (Body.cells [(At.vw 3 0 q0i 1), (At.vw 4 0 q0g 1), (At.vw 5 0 q0f 1)])), (Blk.mk Bool.true (Body.cells [At.nilsl, At.nilsl, At.nilsl])), (Blk.mk Bool.true (Body.cells [(At.sl 10 0 q14 1), (At.sl 11 0 q11 1), (At.sl 12 0 q10 1)])), (Blk.mk Bool.true (Body.fl FloatKind.f32 b10)), (Blk.mk Bool.true (Body.fl FloatKind.f32 (z7k t2 t36 b1 b2 b4 b5 q0d q0e q0g q0f q11 q10 t37 b11 b12))), (Blk.mk Bool.true (Body.fl FloatKind.f32 (z7n t2 t36 b1 b2 b4 b5 q0d q0e q0g q0f q11 q10 t37 b11 b12)))])))
  | _, _ => none
def zay (t2 : Nat) (t36 : Int) (b0 : List Nat) (b1 : List Nat) (b2 : List Nat) (b3 : List Nat) (b4 : List Nat) (b5 : List Nat) (q0h : Nat) (q0d : Nat) (q0e : Nat) (q0i : Nat) (q0g : Nat) (q0f : Nat) (q14 : Nat) (q11 : Nat) (q10 : Nat) (b10 : List Nat) : Option ((Int × Bool × (List Nat) × (List Nat))) → Option (Ex × St)
  | none => none
  | some r => some ((Ex.exit 0), (St.mk [(2, (AV.v (TV.one (At.flt FloatKind.f32 t2)))), (3, (AV.v (TV.one (At.ptr 6 0 3)))), (4, (AV.v (TV.one (At.ptr 7 0 3)))), (6, (AV.v (TV.one (At.ptr 8 0 3)))), (8, (AV.v (TV.one (At.ptr 9 0 3)))), (36, (AV.v (TV.one (At.int IntKind.i64 t36)))), (37, (AV.v (TV.one (At.int IntKind.i64 r.1)))), (38, (AV.v (TV.one (At.bool r.2.1))))] [(Blk.mk Bool.false (Body.fl FloatKind.f32 b0)), (Blk.mk Bool.false (Body.fl FloatKind.f32 b1)), (Blk.mk Bool.false (Body.fl FloatKind.f32 b2)), (Blk.mk Bool.false (Body.fl FloatKind.f32 b3)), (Blk.mk Bool.false (Body.fl FloatKind.f32 b4)), (Blk.mk Bool.false (Body.fl FloatKind.f32 b5)), (Blk.mk Bool.true (Body.cells [(At.vw 0 0 q0h 1), (At.vw 1 0 q0d 1), (At.vw 2 0 q0e 1)])), (Blk.mk Bool.true (Body.cells [(At.vw 3 0 q0i 1), (At.vw 4 0 q0g 1), (At.vw 5 0 q0f 1)])), (Blk.mk Bool.true (Body.cells [At.nilsl, At.nilsl, At.nilsl])), (Blk.mk Bool.true (Body.cells [(At.sl 10 0 q14 1), (At.sl 11 0 q11 1), (At.sl 12 0 q10 1)])), (Blk.mk Bool.true (Body.fl FloatKind.f32 b10)), (Blk.mk Bool.true (Body.fl FloatKind.f32 r.2.2.1)), (Blk.mk Bool.true (Body.fl FloatKind.f32 r.2.2.2))]))
def zi4 (t2 : Nat) (t36 : Int) (b0 : List Nat) (b1 : List Nat) (b2 : List Nat) (b3 : List Nat) (b4 : List Nat) (b5 : List Nat) (q0h : Nat) (q0d : Nat) (q0e : Nat) (q0i : Nat) (q0g : Nat) (q0f : Nat) (q14 : Nat) (q11 : Nat) (q10 : Nat) (b10 : List Nat) (x : Option ((Int × Bool × (List Nat) × (List Nat)))) : LO := (LO.one (Ex.exit 0) (St.mk [(2, (AV.v (TV.one (At.flt FloatKind.f32 t2)))), (3, (AV.v (TV.one (At.ptr 6 0 3)))), (4, (AV.v (TV.one (At.ptr 7 0 3)))), (6, (AV.v (TV.one (At.ptr 8 0 3)))), (8, (AV.v (TV.one (At.ptr 9 0 3)))), (36, (AV.v (TV.one (At.int IntKind.i64 t36)))), (37, (AV.v (TV.one (At.int IntKind.i64 (x.getD default).1)))), (38, (AV.v (TV.one (At.bool (x.getD default).2.1))))] [(Blk.mk Bool.false (Body.fl FloatKind.f32 b0)), (Blk.mk Bool.false (Body.fl FloatKind.f32 b1)), (Blk.mk Bool.false (Body.fl FloatKind.f32 b2)), (Blk.mk Bool.false (Body.fl FloatKind.f32 b3)), (Blk.mk Bool.false (Body.fl FloatKind.f32 b4)), (Blk.mk Bool.false (Body.fl FloatKind.f32 b5)), (Blk.mk Bool.true (Body.cells [(At.vw 0 0 q0h 1), (At.vw 1 0 q0d 1), (At.vw 2 0 q0e 1)])), (Blk.mk Bool.true (Body.cells [(At.vw 3 0 q0i 1), (At.vw 4 0 q0g 1), (At.vw 5 0 q0f 1)])), (Blk.mk Bool.true (Body.cells [At.nilsl, At.nilsl, At.nilsl])), (Blk.mk Bool.true (Body.cells [(At.sl 10 0 q14 1), (At.sl 11 0 q11 1), (At.sl 12 0 q10 1)])), (Blk.mk Bool.true (Body.fl FloatKind.f32 b10)), (Blk.mk Bool.true (Body.fl FloatKind.f32 (x.getD default).2.2.1)), (Blk.mk Bool.true (Body.fl FloatKind.f32 (x.getD default).2.2.2))]))
theorem zij (t2 : Nat) (t36 : Int) (b0 : List Nat) (b1 : List Nat) (b2 : List Nat) (b3 : List Nat) (b4 : List Nat) (b5 : List Nat) (q0h : Nat) (q0d : Nat) (q0e : Nat) (q0i : Nat) (q0g : Nat) (q0f : Nat) (q14 : Nat) (q11 : Nat) (q10 : Nat) (b10 : List Nat) : ∀ x : Option ((Int × Bool × (List Nat) × (List Nat))), x.isSome = true → (zay t2 t36 b0 b1 b2 b3 b4 b5 q0h q0d q0e q0i q0g q0f q14 q11 q10 b10) x = some (pick (zi4 t2 t36 b0 b1 b2 b3 b4 b5 q0h q0d q0e q0i q0g q0f q14 q11 q10 b10 x))
  | none, h => by cases h
  | some r, _ => rfl
theorem zif (t2 : Nat) (t36 : Int) (t37 : Int) (b0 : List Nat) (b1 : List Nat) (b2 : List Nat) (b3 : List Nat) (b4 : List Nat) (b5 : List Nat) (q0h : Nat) (q0d : Nat) (q0e : Nat) (q0i : Nat) (q0g : Nat) (q0f : Nat) (q14 : Nat) (q11 : Nat) (q10 : Nat) (b10 : List Nat) (b11 : List Nat) (b12 : List Nat) (K : Ex → St → Option (Ex × St)) : evC (R := Ex × St) Γ13 (evFn Γ13 8 8) 43 6 fi43.nt fi43.live fi43.nl 8 (findL 5 (loopsIn fi43.code)) (St.mk [(2, (AV.v (TV.one (At.flt FloatKind.f32 t2)))), (3, (AV.v (TV.one (At.ptr 6 0 3)))), (4, (AV.v (TV.one (At.ptr 7 0 3)))), (6, (AV.v (TV.one (At.ptr 8 0 3)))), (8, (AV.v (TV.one (At.ptr 9 0 3)))), (36, (AV.v (TV.one (At.int IntKind.i64 t36)))), (37, (AV.v (TV.one (At.int IntKind.i64 t37))))] [(Blk.mk Bool.false (Body.fl FloatKind.f32 b0)), (Blk.mk Bool.false (Body.fl FloatKind.f32 b1)), (Blk.mk Bool.false (Body.fl FloatKind.f32 b2)), (Blk.mk Bool.false (Body.fl FloatKind.f32 b3)), (Blk.mk Bool.false (Body.fl FloatKind.f32 b4)), (Blk.mk Bool.false (Body.fl FloatKind.f32 b5)), (Blk.mk Bool.true (Body.cells [(At.vw 0 0 q0h 1), (At.vw 1 0 q0d 1), (At.vw 2 0 q0e 1)])), (Blk.mk Bool.true (Body.cells [(At.vw 3 0 q0i 1), (At.vw 4 0 q0g 1), (At.vw 5 0 q0f 1)])), (Blk.mk Bool.true (Body.cells [At.nilsl, At.nilsl, At.nilsl])), (Blk.mk Bool.true (Body.cells [(At.sl 10 0 q14 1), (At.sl 11 0 q11 1), (At.sl 12 0 q10 1)])), (Blk.mk Bool.true (Body.fl FloatKind.f32 b10)), (Blk.mk Bool.true (Body.fl FloatKind.f32 b11)), (Blk.mk Bool.true (Body.fl FloatKind.f32 b12))]) K = z63 t2 t36 b1 b2 b4 b5 q0d q0e q0g q0f q11 q10 t37 b11 b12 (fun t37' b11' b12' => K .normal (St.mk [(2, (AV.v (TV.one (At.flt FloatKind.f32 t2)))), (3, (AV.v (TV.one (At.ptr 6 0 3)))), (4, (AV.v (TV.one (At.ptr 7 0 3)))), (6, (AV.v (TV.one (At.ptr 8 0 3)))), (8, (AV.v (TV.one (At.ptr 9 0 3)))), (36, (AV.v (TV.one (At.int IntKind.i64 t36)))), (37, (AV.v (TV.one (At.int IntKind.i64 t37'))))] [(Blk.mk Bool.false (Body.fl FloatKind.f32 b0)), (Blk.mk Bool.false (Body.fl FloatKind.f32 b1)), (Blk.mk Bool.false (Body.fl FloatKind.f32 b2)), (Blk.mk Bool.false (Body.fl FloatKind.f32 b3)), (Blk.mk Bool.false (Body.fl FloatKind.f32 b4)), (Blk.mk Bool.false (Body.fl FloatKind.f32 b5)), (Blk.mk Bool.true (Body.cells [(At.vw 0 0 q0h 1), (At.vw 1 0 q0d 1), (At.vw 2 0 q0e 1)])), (Blk.mk Bool.true (Body.cells [(At.vw 3 0 q0i 1), (At.vw 4 0 q0g 1), (At.vw 5 0 q0f 1)])), (Blk.mk Bool.true (Body.cells [At.nilsl, At.nilsl, At.nilsl])), (Blk.mk Bool.true (Body.cells [(At.sl 10 0 q14 1), (At.sl 11 0 q11 1), (At.sl 12 0 q10 1)])), (Blk.mk Bool.true (Body.fl FloatKind.f32 b10)), (Blk.mk Bool.true (Body.fl FloatKind.f32 b11')), (Blk.mk Bool.true (Body.fl FloatKind.f32 b12'))])) (fun c0_ c1_ c2_ c3_ => K (Ex.exit 0) (St.mk [(2, (AV.v (TV.one (At.flt FloatKind.f32 t2)))), (3, (AV.v (TV.one (At.ptr 6 0 3)))), (4, (AV.v (TV.one (At.ptr 7 0 3)))), (6, (AV.v (TV.one (At.ptr 8 0 3)))), (8, (AV.v (TV.one (At.ptr 9 0 3)))), (36, (AV.v (TV.one (At.int IntKind.i64 t36)))), (37, (AV.v (TV.one (At.int IntKind.i64 c0_)))), (38, (AV.v (TV.one (At.bool c1_))))] [(Blk.mk Bool.false (Body.fl FloatKind.f32 b0)), (Blk.mk Bool.false (Body.fl FloatKind.f32 b1)), (Blk.mk Bool.false (Body.fl FloatKind.f32 b2)), (Blk.mk Bool.false (Body.fl FloatKind.f32 b3)), (Blk.mk Bool.false (Body.fl FloatKind.f32 b4)), (Blk.mk Bool.false (Body.fl FloatKind.f32 b5)), (Blk.mk Bool.true (Body.cells [(At.vw 0 0 q0h 1), (At.vw 1 0 q0d 1), (At.vw 2 0 q0e 1)])), (Blk.mk Bool.true (Body.cells [(At.vw 3 0 q0i 1), (At.vw 4 0 q0g 1), (At.vw 5 0 q0f 1)])), (Blk.mk Bool.true (Body.cells [At.nilsl, At.nilsl, At.nilsl])), (Blk.mk Bool.true (Body.cells [(At.sl 10 0 q14 1), (At.sl 11 0 q11 1), (At.sl 12 0 q10 1)])), (Blk.mk Bool.true (Body.fl FloatKind.f32 b10)), (Blk.mk Bool.true (Body.fl FloatKind.f32 c2_)), (Blk.mk Bool.true (Body.fl FloatKind.f32 c3_))])) := by kernel_rfl
theorem zii (t2 : Nat) (t36 : Int) (b0 : List Nat) (b1 : List Nat) (b2 : List Nat) (b3 : List Nat) (b4 : List Nat) (b5 : List Nat) (q0h : Nat) (q0d : Nat) (q0e : Nat) (q0i : Nat) (q0g : Nat) (q0f : Nat) (q14 : Nat) (q11 : Nat) (q10 : Nat) (b10 : List Nat) : ∀ (n : Nat) (t37 : Int) (b11 : List Nat) (b12 : List Nat), iter 43 5 6 (evC (R := Ex × St) Γ13 (evFn Γ13 8 8) 43 6 fi43.nt fi43.live fi43.nl 8 (findL 5 (loopsIn fi43.code))) n (St.mk [(2, (AV.v (TV.one (At.flt FloatKind.f32 t2)))), (3, (AV.v (TV.one (At.ptr 6 0 3)))), (4, (AV.v (TV.one (At.ptr 7 0 3)))), (6, (AV.v (TV.one (At.ptr 8 0 3)))), (8, (AV.v (TV.one (At.ptr 9 0 3)))), (36, (AV.v (TV.one (At.int IntKind.i64 t36)))), (37, (AV.v (TV.one (At.int IntKind.i64 t37))))] [(Blk.mk Bool.false (Body.fl FloatKind.f32 b0)), (Blk.mk Bool.false (Body.fl FloatKind.f32 b1)), (Blk.mk Bool.false (Body.fl FloatKind.f32 b2)), (Blk.mk Bool.false (Body.fl FloatKind.f32 b3)), (Blk.mk Bool.false (Body.fl FloatKind.f32 b4)), (Blk.mk Bool.false (Body.fl FloatKind.f32 b5)), (Blk.mk Bool.true (Body.cells [(At.vw 0 0 q0h 1), (At.vw 1 0 q0d 1), (At.vw 2 0 q0e 1)])), (Blk.mk Bool.true (Body.cells [(At.vw 3 0 q0i 1), (At.vw 4 0 q0g 1), (At.vw 5 0 q0f 1)])), (Blk.mk Bool.true (Body.cells [At.nilsl, At.nilsl, At.nilsl])), (Blk.mk Bool.true (Body.cells [(At.sl 10 0 q14 1), (At.sl 11 0 q11 1), (At.sl 12 0 q10 1)])), (Blk.mk Bool.true (Body.fl FloatKind.f32 b10)), (Blk.mk Bool.true (Body.fl FloatKind.f32 b11)), (Blk.mk Bool.true (Body.fl FloatKind.f32 b12))]) (fun e st => some (e, st)) = (zay t2 t36 b0 b1 b2 b3 b4 b5 q0h q0d q0e q0i q0g q0f q14 q11 q10 b10) (z3o t2 t36 b1 b2 b4 b5 q0d q0e q0g q0f q11 q10 n t37 b11 b12) := by
  intro n
  induction n with
  | zero => intros; rfl
  | succ n ih =>
    intro t37 b11 b12
    refine Eq.trans (iter_succ ..) (Eq.trans (zif t2 t36 t37 b0 b1 b2 b3 b4 b5 q0h q0d q0e q0i q0g q0f q14 q11 q10 b10 b11 b12 (nextK 43 5 6 (evC (R := Ex × St) Γ13 (evFn Γ13 8 8) 43 6 fi43.nt fi43.live fi43.nl 8 (findL 5 (loopsIn fi43.code))) n (fun e st => some (e, st)))) (Eq.trans ?_ (zh3 (zay t2 t36 b0 b1 b2 b3 b4 b5 q0h q0d q0e q0i q0g q0f q14 q11 q10 b10) rfl t2 t36 b1 b2 b4 b5 q0d q0e q0g q0f q11 q10 t37 b11 b12 (fun t37' b11' b12' => z3o t2 t36 b1 b2 b4 b5 q0d q0e q0g q0f q11 q10 n t37' b11' b12') (fun c0_ c1_ c2_ c3_ => some (c0_, c1_, c2_, c3_)))))
    exact congrArg (fun kn_ => z63 t2 t36 b1 b2 b4 b5 q0d q0e q0g q0f q11 q10 t37 b11 b12 kn_ (fun c0_ c1_ c2_ c3_ => (zay t2 t36 b0 b1 b2 b3 b4 b5 q0h q0d q0e q0i q0g q0f q14 q11 q10 b10) (some (c0_, c1_, c2_, c3_)))) (funext fun t37' => funext fun b11' => funext fun b12' => ih t37' b11' b12')
theorem z2y : LoopOne Try.prog fnTab 43 5 z37 := lp_of (Γ := Γ13) tyTab_ok (FnL.ok fnTab_ok _ _) (LpL.ok lt13_ok) (SumL.ok tb13_ok _) mixed (fi := fi43) (by kernel_rfl) (by kernel_rfl) (by
  intro lo st out hp
  unfold z37 at hp
  split at hp
  · rename_i t2 t36 t37 b0 b1 b2 b3 b4 b5 q0h q0d q0e q0i q0g q0f q14 q11 q10 b10 b11 b12
    injection hp with hp
    injection hp with h1 h2
    subst h2
    exact ⟨8, 8, big, Eq.trans (zii t2 t36 b0 b1 b2 b3 b4 b5 q0h q0d q0e q0i q0g q0f q14 q11 q10 b10 big t37 b11 b12) (zij t2 t36 b0 b1 b2 b3 b4 b5 q0h q0d q0e q0i q0g q0f q14 q11 q10 b10 (z3o t2 t36 b1 b2 b4 b5 q0d q0e q0g q0f q11 q10 big t37 b11 b12) h1)⟩
  · cases hp)
noncomputable def tb14 : List (Nat × (List PT → Option (Bool × AV × List Blk))) := [(129, z14), (133, z0m), (137, z16), (139, z2c), (25, z2h), (64, z2g), (68, z2r), (70, z1s), (78, z2s), (91, z39), (97, z3d), (119, z0j), (40, z2n), (58, z2v), (67, z35), (96, z1k), (111, z1l), (20, z1d), (74, z2e), (95, z0n), (126, z2f), (18, z2l), (42, z2u), (46, z29), (44, z2x), (90, z3m), (125, z07), (125, z0b), (110, z05), (110, z09), (69, z3a), (112, z3c), (41, z31), (94, z33)]
noncomputable def lt14 : List ((Nat × Nat) × (Nat → St → Option (Bool × LO))) := [((20, 2), z0p), ((74, 3), z0w), ((95, 4), z0d), ((18, 4), z13), ((90, 5), z34), ((125, 2), z01), ((125, 2), z03), ((41, 5), z1o), ((94, 5), z24), ((43, 5), z37)]
noncomputable def Γ14 : Ctx := ⟨tyTab, fnTab, tblSum tb14, tblLp lt14⟩
theorem tb14_ok : SumL Try.prog tb14 := SumL.cons z0s (SumL.cons z0f (SumL.cons z0t (SumL.cons z15 (SumL.cons z1f (SumL.cons z1e (SumL.cons z1p (SumL.cons z12 (SumL.cons z1r (SumL.cons z2q (SumL.cons z30 (SumL.cons z0e (SumL.cons z1m (SumL.cons z2a (SumL.cons z2k (SumL.cons z0x (SumL.cons z0y (SumL.cons z0v (SumL.cons z1g (SumL.cons z0h (SumL.cons z1i (SumL.cons z1n (SumL.cons z2d (SumL.cons z1b (SumL.cons z2i (SumL.cons z3b (SumL.cons z06 (SumL.cons z0a (SumL.cons z04 (SumL.cons z08 (SumL.cons z2w (SumL.cons z36 (SumL.cons z2p (SumL.cons z2t (SumL.nil))))))))))))))))))))))))))))))))))
theorem lt14_ok : LpL Try.prog fnTab lt14 := LpL.cons z0k (LpL.cons z0q (LpL.cons z0c (LpL.cons z0r (LpL.cons z2m (LpL.cons z00 (LpL.cons z02 (LpL.cons z1c (LpL.cons z1j (LpL.cons z2y (LpL.nil))))))))))
noncomputable def z3k : List PT → Option (Bool × AV × List Blk)
  | [.agg [.row 1 q00 (.fl .f32 q03), .row 1 q02 (.fl .f32 q05), .row 1 q01 (.fl .f32 q04)], .agg [.row 1 q06 (.fl .f32 q09), .row 1 q07 (.fl .f32 q0a), .row 1 q08 (.fl .f32 q0b)], .one (.s (.flt .f32 x2))] => some ((zdr q00 q03 q02 q05 q01 q04 q06 q09 q07 q0a q08 q0b x2), ((AV.tup [(TV.agg [(At.sl 0 0 (zcp q00 q03 q02 q05 q01 q04 q06 q09 q07 q0a q08 q0b x2) 1), (At.sl 1 0 (zcf q00 q03 q02 q05 q01 q04 q06 q09 q07 q0a q08 q0b x2) 1), (At.sl 2 0 (zch q00 q03 q02 q05 q01 q04 q06 q09 q07 q0a q08 q0b x2) 1)]), (TV.one (At.bool (zcd q00 q03 q02 q05 q01 q04 q06 q09 q07 q0a q08 q0b x2)))]), [(Blk.mk Bool.true (Body.fl FloatKind.f32 (zcq q00 q03 q02 q05 q01 q04 q06 q09 q07 q0a q08 q0b x2))), (Blk.mk Bool.true (Body.fl FloatKind.f32 (zce q00 q03 q02 q05 q01 q04 q06 q09 q07 q0a q08 q0b x2))), (Blk.mk Bool.true (Body.fl FloatKind.f32 (zcl q00 q03 q02 q05 q01 q04 q06 q09 q07 q0a q08 q0b x2)))]))
  | _ => none
def zgi (q00 : Nat) (q03 : List Nat) (q02 : Nat) (q05 : List Nat) (q01 : Nat) (q04 : List Nat) (q06 : Nat) (q09 : List Nat) (q07 : Nat) (q0a : List Nat) (q08 : Nat) (q0b : List Nat) (x2 : Nat) : Option (Nat × Nat × Nat × Bool × (List Nat) × (List Nat) × (List Nat)) → Option (AV × List Blk)
  | some r => some ((AV.tup [(TV.agg [(At.sl 0 0 r.1 1), (At.sl 1 0 r.2.1 1), (At.sl 2 0 r.2.2.1 1)]), (TV.one (At.bool r.2.2.2.1))]), [(Blk.mk Bool.true (Body.fl FloatKind.f32 r.2.2.2.2.1)), (Blk.mk Bool.true (Body.fl FloatKind.f32 r.2.2.2.2.2.1)), (Blk.mk Bool.true (Body.fl FloatKind.f32 r.2.2.2.2.2.2))])
  | none => none
theorem zjh (q00 : Nat) (q03 : List Nat) (q02 : Nat) (q05 : List Nat) (q01 : Nat) (q04 : List Nat) (q06 : Nat) (q09 : List Nat) (q07 : Nat) (q0a : List Nat) (q08 : Nat) (q0b : List Nat) (x2 : Nat) : evFn Γ14 8 8 43 (impTs 0 [.agg [.row 1 q00 (.fl .f32 q03), .row 1 q02 (.fl .f32 q05), .row 1 q01 (.fl .f32 q04)], .agg [.row 1 q06 (.fl .f32 q09), .row 1 q07 (.fl .f32 q0a), .row 1 q08 (.fl .f32 q0b)], .one (.s (.flt .f32 x2))]).1 (impTs 0 [.agg [.row 1 q00 (.fl .f32 q03), .row 1 q02 (.fl .f32 q05), .row 1 q01 (.fl .f32 q04)], .agg [.row 1 q06 (.fl .f32 q09), .row 1 q07 (.fl .f32 q0a), .row 1 q08 (.fl .f32 q0b)], .one (.s (.flt .f32 x2))]).2 (expo (impTs 0 [.agg [.row 1 q00 (.fl .f32 q03), .row 1 q02 (.fl .f32 q05), .row 1 q01 (.fl .f32 q04)], .agg [.row 1 q06 (.fl .f32 q09), .row 1 q07 (.fl .f32 q0a), .row 1 q08 (.fl .f32 q0b)], .one (.s (.flt .f32 x2))]).2.length) = z9q q00 q03 q02 q05 q01 q04 q06 q09 q07 q0a q08 q0b x2 (fun c0_ c1_ c2_ c3_ c4_ c5_ c6_ => some ((AV.tup [(TV.agg [(At.sl 0 0 c0_ 1), (At.sl 1 0 c1_ 1), (At.sl 2 0 c2_ 1)]), (TV.one (At.bool c3_))]), [(Blk.mk Bool.true (Body.fl FloatKind.f32 c4_)), (Blk.mk Bool.true (Body.fl FloatKind.f32 c5_)), (Blk.mk Bool.true (Body.fl FloatKind.f32 c6_))])) := by kernel_rfl
theorem z3e : SumOne Try.prog 43 z3k := sum_of (Γ := Γ14) (fuel := 8) (d := 8) tyTab_ok (FnL.ok fnTab_ok _ _) (LpL.ok lt14_ok) (SumL.ok tb14_ok _) mixed (by
  intro pts v news hp hc
  clear hc
  unfold z3k at hp
  split at hp
  · rename_i q00 q03 q02 q05 q01 q04 q06 q09 q07 q0a q08 q0b x2
    exact Eq.trans (Eq.trans (zjh q00 q03 q02 q05 q01 q04 q06 q09 q07 q0a q08 q0b x2) (zhw (zgi q00 q03 q02 q05 q01 q04 q06 q09 q07 q0a q08 q0b x2) rfl q00 q03 q02 q05 q01 q04 q06 q09 q07 q0a q08 q0b x2 (fun c0_ c1_ c2_ c3_ c4_ c5_ c6_ => some (c0_, c1_, c2_, c3_, c4_, c5_, c6_)))) (fin_out (o := (zgi q00 q03 q02 q05 q01 q04 q06 q09 q07 q0a q08 q0b x2)) (x := z55 q00 q03 q02 q05 q01 q04 q06 q09 q07 q0a q08 q0b x2) (d := default) (V := fun r => ((AV.tup [(TV.agg [(At.sl 0 0 r.1 1), (At.sl 1 0 r.2.1 1), (At.sl 2 0 r.2.2.1 1)]), (TV.one (At.bool r.2.2.2.1))]), [(Blk.mk Bool.true (Body.fl FloatKind.f32 r.2.2.2.2.1)), (Blk.mk Bool.true (Body.fl FloatKind.f32 r.2.2.2.2.2.1)), (Blk.mk Bool.true (Body.fl FloatKind.f32 r.2.2.2.2.2.2))])) (fun r => rfl) hp)
  · cases hp)
noncomputable def tb15 : List (Nat × (List PT → Option (Bool × AV × List Blk))) := [(129, z14), (133, z0m), (137, z16), (139, z2c), (25, z2h), (64, z2g), (68, z2r), (70, z1s), (78, z2s), (91, z39), (97, z3d), (119, z0j), (40, z2n), (58, z2v), (67, z35), (96, z1k), (111, z1l), (20, z1d), (74, z2e), (95, z0n), (126, z2f), (18, z2l), (42, z2u), (46, z29), (44, z2x), (90, z3m), (125, z07), (125, z0b), (110, z05), (110, z09), (69, z3a), (112, z3c), (41, z31), (94, z33), (43, z3k)]
noncomputable def lt15 : List ((Nat × Nat) × (Nat → St → Option (Bool × LO))) := [((20, 2), z0p), ((74, 3), z0w), ((95, 4), z0d), ((18, 4), z13), ((90, 5), z34), ((125, 2), z01), ((125, 2), z03), ((41, 5), z1o), ((94, 5), z24), ((43, 5), z37)]
noncomputable def Γ15 : Ctx := ⟨tyTab, fnTab, tblSum tb15, tblLp lt15⟩
theorem tb15_ok : SumL Try.prog tb15 := SumL.cons z0s (SumL.cons z0f (SumL.cons z0t (SumL.cons z15 (SumL.cons z1f (SumL.cons z1e (SumL.cons z1p (SumL.cons z12 (SumL.cons z1r (SumL.cons z2q (SumL.cons z30 (SumL.cons z0e (SumL.cons z1m (SumL.cons z2a (SumL.cons z2k (SumL.cons z0x (SumL.cons z0y (SumL.cons z0v (SumL.cons z1g (SumL.cons z0h (SumL.cons z1i (SumL.cons z1n (SumL.cons z2d (SumL.cons z1b (SumL.cons z2i (SumL.cons z3b (SumL.cons z06 (SumL.cons z0a (SumL.cons z04 (SumL.cons z08 (SumL.cons z2w (SumL.cons z36 (SumL.cons z2p (SumL.cons z2t (SumL.cons z3e (SumL.nil)))))))))))))))))))))))))))))))))))
theorem lt15_ok : LpL Try.prog fnTab lt15 := LpL.cons z0k (LpL.cons z0q (LpL.cons z0c (LpL.cons z0r (LpL.cons z2m (LpL.cons z00 (LpL.cons z02 (LpL.cons z1c (LpL.cons z1j (LpL.cons z2y (LpL.nil))))))))))
noncomputable def tb16 : List (Nat × (List PT → Option (Bool × AV × List Blk))) := [(129, z14), (133, z0m), (137, z16), (139, z2c), (25, z2h), (64, z2g), (68, z2r), (70, z1s), (78, z2s), (91, z39), (97, z3d), (119, z0j), (40, z2n), (58, z2v), (67, z35), (96, z1k), (111, z1l), (20, z1d), (74, z2e), (95, z0n), (126, z2f), (18, z2l), (42, z2u), (46, z29), (44, z2x), (90, z3m), (125, z07), (125, z0b), (110, z05), (110, z09), (69, z3a), (112, z3c), (41, z31), (94, z33), (43, z3k)]
noncomputable def lt16 : List ((Nat × Nat) × (Nat → St → Option (Bool × LO))) := [((20, 2), z0p), ((74, 3), z0w), ((95, 4), z0d), ((18, 4), z13), ((90, 5), z34), ((125, 2), z01), ((125, 2), z03), ((41, 5), z1o), ((94, 5), z24), ((43, 5), z37)]
noncomputable def Γ16 : Ctx := ⟨tyTab, fnTab, tblSum tb16, tblLp lt16⟩
theorem tb16_ok : SumL Try.prog tb16 := SumL.cons z0s (SumL.cons z0f (SumL.cons z0t (SumL.cons z15 (SumL.cons z1f (SumL.cons z1e (SumL.cons z1p (SumL.cons z12 (SumL.cons z1r (SumL.cons z2q (SumL.cons z30 (SumL.cons z0e (SumL.cons z1m (SumL.cons z2a (SumL.cons z2k (SumL.cons z0x (SumL.cons z0y (SumL.cons z0v (SumL.cons z1g (SumL.cons z0h (SumL.cons z1i (SumL.cons z1n (SumL.cons z2d (SumL.cons z1b (SumL.cons z2i (SumL.cons z3b (SumL.cons z06 (SumL.cons z0a (SumL.cons z04 (SumL.cons z08 (SumL.cons z2w (SumL.cons z36 (SumL.cons z2p (SumL.cons z2t (SumL.cons z3e (SumL.nil)))))))))))))))))))))))))))))))))))
theorem lt16_ok : LpL Try.prog fnTab lt16 := LpL.cons z0k (LpL.cons z0q (LpL.cons z0c (LpL.cons z0r (LpL.cons z2m (LpL.cons z00 (LpL.cons z02 (LpL.cons z1c (LpL.cons z1j (LpL.cons z2y (LpL.nil))))))))))
noncomputable def z0g : Nat → St → Option (Bool × LO)
  | 25, (St.mk [(0, (AV.v (TV.one (At.sl 13 0 an 1)))), (1, (AV.v (TV.one (At.int IntKind.i64 k)))), (5, (AV.v (TV.one (At.int IntKind.i64 i))))] [(Blk.mk Bool.false (Body.fl FloatKind.f32 b0)), (Blk.mk Bool.false (Body.fl FloatKind.f32 b1)), (Blk.mk Bool.false (Body.fl FloatKind.f32 b2)), (Blk.mk Bool.false (Body.fl FloatKind.f32 b3)), (Blk.mk Bool.false (Body.fl FloatKind.f32 b4)), (Blk.mk Bool.false (Body.fl FloatKind.f32 b5)), (Blk.mk Bool.true (Body.cells [(At.vw 0 0 q0h 1), (At.vw 1 0 q0d 1), (At.vw 2 0 q0e 1)])), (Blk.mk Bool.true (Body.cells [(At.vw 3 0 q0i 1), (At.vw 4 0 q0g 1), (At.vw 5 0 q0f 1)])), (Blk.mk Bool.true (Body.cells [(At.sl 9 0 q0w 1), (At.sl 10 0 q0u 1), (At.sl 11 0 q0v 1)])), (Blk.mk Bool.true (Body.fl FloatKind.f32 b9)), (Blk.mk Bool.true (Body.fl FloatKind.f32 b10)), (Blk.mk Bool.true (Body.fl FloatKind.f32 b11)), (Blk.mk Bool.true (Body.cells [(At.sl 13 0 q0m 1), (At.sl 14 0 q0n 1), (At.sl 15 0 q0q 1)])), (Blk.mk Bool.true (Body.fl FloatKind.f32 b13)), (Blk.mk Bool.true (Body.fl FloatKind.f32 b14)), (Blk.mk Bool.true (Body.fl FloatKind.f32 b15)), (Blk.mk Bool.true (Body.cells [(At.sl 17 0 q0r 1), (At.sl 18 0 q0p 1), (At.sl 19 0 q0o 1)])), (Blk.mk Bool.true (Body.fl FloatKind.f32 b17)), (Blk.mk Bool.true (Body.fl FloatKind.f32 b18)), (Blk.mk Bool.true (Body.fl FloatKind.f32 b19)), (Blk.mk Bool.true (Body.cells [(At.sl 21 0 q0z 1), (At.sl 22 0 q0x 1), (At.sl 23 0 q0y 1)])), (Blk.mk Bool.true (Body.fl FloatKind.f32 b21)), (Blk.mk Bool.true (Body.fl FloatKind.f32 b22)), (Blk.mk Bool.true (Body.fl FloatKind.f32 b23)), (Blk.mk Bool.true (Body.cells [(At.sl 13 0 q1c 1), (At.sl 14 0 q1a 1), (At.sl 15 0 q1b 1)]))]) => some ((z61 an k i b13), (LO.one (Ex.exit 0) (St.mk [(0, (AV.v (TV.one (At.sl 13 0 an 1)))), (1, (AV.v (TV.one (At.int IntKind.i64 (z59 an k i b13))))), (5, (AV.v (TV.one (At.int IntKind.i64 (z7b an k i b13))))), (9, (AV.v (TV.one (At.bool (z7c an k i b13)))))] [(Blk.mk Bool.false (Body.fl FloatKind.f32 b0)), (Blk.mk Bool.false (Body.fl FloatKind.f32 b1)), (Blk.mk Bool.false (Body.fl FloatKind.f32 b2)), (Blk.mk Bool.false (Body.fl FloatKind.f32 b3)), (Blk.mk Bool.false (Body.fl FloatKind.f32 b4)), (Blk.mk Bool.false (Body.fl FloatKind.f32 b5)), (Blk.mk Bool.true (Body.cells [(At.vw 0 0 q0h 1), (At.vw 1 0 q0d 1), (At.vw 2 0 q0e 1)])), (Blk.mk Bool.true (Body.cells [(At.vw 3 0 q0i 1), (At.vw 4 0 q0g 1), (At.vw 5 0 q0f 1)])), (Blk.mk Bool.true (Body.cells [(At.sl 9 0 q0w 1), (At.sl 10 0 q0u 1), (At.sl 11 0 q0v 1)])), (Blk.mk Bool.true (Body.fl FloatKind.f32 b9)), (Blk.mk Bool.true (Body.fl FloatKind.f32 b10)), (Blk.mk Bool.true (Body.fl FloatKind.f32 b11)), (Blk.mk Bool.true (Body.cells [(At.sl 13 0 q0m 1), (At.sl 14 0 q0n 1), (At.sl 15 0 q0q 1)])), (Blk.mk Bool.true (Body.fl FloatKind.f32 (z79 an k i b13))), (Blk.mk Bool.true (Body.fl FloatKind.f32 b14)), (Blk.mk Bool.true (Body.fl FloatKind.f32 b15)), (Blk.mk Bool.true (Body.cells [(At.sl 17 0 q0r 1), (At.sl 18 0 q0p 1), (At.sl 19 0 q0o 1)])), (Blk.mk Bool.true (Body.fl FloatKind.f32 b17)), (Blk.mk Bool.true (Body.fl FloatKind.f32 b18)), (Blk.mk Bool.true (Body.fl FloatKind.f32 b19)), (Blk.mk Bool.true (Body.cells [(At.sl 21 0 q0z 1), (At.sl 22 0 q0x 1), (At.sl 23 0 q0y 1)])), (Blk.mk Bool.true (Body.fl FloatKind.f32 b21)), (Blk.mk Bool.true (Body.fl FloatKind.f32 b22)), (Blk.mk Bool.true (Body.fl FloatKind.f32 b23)), (Blk.mk Bool.true (Body.cells [(At.sl 13 0 q1c 1), (At.sl 14 0 q1a 1), (At.sl 15 0 q1b 1)]))])))
  | _, _ => none
def z60 (an : Nat) (b0 : List Nat) (b1 : List Nat) (b2 : List Nat) (b3 : List Nat) (b4 : List Nat) (b5 : List Nat) (q0h : Nat) (q0d : Nat) (q0e : Nat) (q0i : Nat) (q0g : Nat) (q0f : Nat) (q0w : Nat) (q0u : Nat) (q0v : Nat) (b9 : List Nat) (b10 : List Nat) (b11 : List Nat) (q0m : Nat) (q0n : Nat) (q0q : Nat) (b14 : List Nat) (b15 : List Nat) (q0r : Nat) (q0p : Nat) (q0o : Nat) (b17 : List Nat) (b18 : List Nat) (b19 : List Nat) (q0z : Nat) (q0x : Nat) (q0y : Nat) (b21 : List Nat) (b22 : List Nat) (b23 : List Nat) (q1c : Nat) (q1a : Nat) (q1b : Nat) : Option ((Int × Int × Bool × (List Nat))) → Option (Ex × St)
  | none => none
  | some r => some ((Ex.exit 0), (St.mk [(0, (AV.v (TV.one (At.sl 13 0 an 1)))), (1, (AV.v (TV.one (At.int IntKind.i64 r.1)))), (5, (AV.v (TV.one (At.int IntKind.i64 r.2.1)))), (9, (AV.v (TV.one (At.bool r.2.2.1))))] [(Blk.mk Bool.false (Body.fl FloatKind.f32 b0)), (Blk.mk Bool.false (Body.fl FloatKind.f32 b1)), (Blk.mk Bool.false (Body.fl FloatKind.f32 b2)), (Blk.mk Bool.false (Body.fl FloatKind.f32 b3)), (Blk.mk Bool.false (Body.fl FloatKind.f32 b4)), (Blk.mk Bool.false (Body.fl FloatKind.f32 b5)), (Blk.mk Bool.true (Body.cells [(At.vw 0 0 q0h 1), (At.vw 1 0 q0d 1), (At.vw 2 0 q0e 1)])), (Blk.mk Bool.true (Body.cells [(At.vw 3 0 q0i 1), (At.vw 4 0 q0g 1), (At.vw 5 0 q0f 1)])), (Blk.mk Bool.true (Body.cells [(At.sl 9 0 q0w 1), (At.sl 10 0 q0u 1), (At.sl 11 0 q0v 1)])), (Blk.mk Bool.true (Body.fl FloatKind.f32 b9)), (Blk.mk Bool.true (Body.fl FloatKind.f32 b10)), (Blk.mk Bool.true (Body.fl FloatKind.f32 b11)), (Blk.mk Bool.true (Body.cells [(At.sl 13 0 q0m 1), (At.sl 14 0 q0n 1), (At.sl 15 0 q0q 1)])), (Blk.mk Bool.true (Body.fl FloatKind.f32 r.2.2.2)), (Blk.mk Bool.true (Body.fl FloatKind.f32 b14)), (Blk.mk Bool.true (Body.fl FloatKind.f32 b15)), (Blk.mk Bool.true (Body.cells [(At.sl 17 0 q0r 1), (At.sl 18 0 q0p 1), (At.sl 19 0 q0o 1)])), (Blk.mk Bool.true (Body.fl FloatKind.f32 b17)), (Blk.mk Bool.true (Body.fl FloatKind.f32 b18)), (Blk.mk Bool.true (Body.fl FloatKind.f32 b19)), (Blk.mk Bool.true (Body.cells [(At.sl 21 0 q0z 1), (At.sl 22 0 q0x 1), (At.sl 23 0 q0y 1)])), (Blk.mk Bool.true (Body.fl FloatKind.f32 b21)), (Blk.mk Bool.true (Body.fl FloatKind.f32 b22)), (Blk.mk Bool.true (Body.fl FloatKind.f32 b23)), (Blk.mk Bool.true (Body.cells [(At.sl 13 0 q1c 1), (At.sl 14 0 q1a 1), (At.sl 15 0 q1b 1)]))]))
def zek (an : Nat) (b0 : List Nat) (b1 : List Nat) (b2 : List Nat) (b3 : List Nat) (b4 : List Nat) (b5 : List Nat) (q0h : Nat) (q0d : Nat) (q0e : Nat) (q0i : Nat) (q0g : Nat) (q0f : Nat) (q0w : Nat) (q0u : Nat) (q0v : Nat) (b9 : List Nat) (b10 : List Nat) (b11 : List Nat) (q0m : Nat) (q0n : Nat) (q0q : Nat) (b14 : List Nat) (b15 : List Nat) (q0r : Nat) (q0p : Nat) (q0o : Nat) (b17 : List Nat) (b18 : List Nat) (b19 : List Nat) (q0z : Nat) (q0x : Nat) (q0y : Nat) (b21 : List Nat) (b22 : List Nat) (b23 : List Nat) (q1c : Nat) (q1a : Nat) (q1b : Nat) (x : Option ((Int × Int × Bool × (List Nat)))) : LO := (LO.one (Ex.exit 0) (St.mk [(0, (AV.v (TV.one (At.sl 13 0 an 1)))), (1, (AV.v (TV.one (At.int IntKind.i64 (x.getD default).1)))), (5, (AV.v (TV.one (At.int IntKind.i64 (x.getD default).2.1)))), (9, (AV.v (TV.one (At.bool (x.getD default).2.2.1))))] [(Blk.mk Bool.false (Body.fl FloatKind.f32 b0)), (Blk.mk Bool.false (Body.fl FloatKind.f32 b1)), (Blk.mk Bool.false (Body.fl FloatKind.f32 b2)), (Blk.mk Bool.false (Body.fl FloatKind.f32 b3)), (Blk.mk Bool.false (Body.fl FloatKind.f32 b4)), (Blk.mk Bool.false (Body.fl FloatKind.f32 b5)), (Blk.mk Bool.true (Body.cells [(At.vw 0 0 q0h 1), (At.vw 1 0 q0d 1), (At.vw 2 0 q0e 1)])), (Blk.mk Bool.true (Body.cells [(At.vw 3 0 q0i 1), (At.vw 4 0 q0g 1), (At.vw 5 0 q0f 1)])), (Blk.mk Bool.true (Body.cells [(At.sl 9 0 q0w 1), (At.sl 10 0 q0u 1), (At.sl 11 0 q0v 1)])), (Blk.mk Bool.true (Body.fl FloatKind.f32 b9)), (Blk.mk Bool.true (Body.fl FloatKind.f32 b10)), (Blk.mk Bool.true (Body.fl FloatKind.f32 b11)), (Blk.mk Bool.true (Body.cells [(At.sl 13 0 q0m 1), (At.sl 14 0 q0n 1), (At.sl 15 0 q0q 1)])), (Blk.mk Bool.true (Body.fl FloatKind.f32 (x.getD default).2.2.2)), (Blk.mk Bool.true (Body.fl FloatKind.f32 b14)), (Blk.mk Bool.true (Body.fl FloatKind.f32 b15)), (Blk.mk Bool.true (Body.cells [(At.sl 17 0 q0r 1), (At.sl 18 0 q0p 1), (At.sl 19 0 q0o 1)])), (Blk.mk Bool.true (Body.fl FloatKind.f32 b17)), (Blk.mk Bool.true (Body.fl FloatKind.f32 b18)), (Blk.mk Bool.true (Body.fl FloatKind.f32 b19)), (Blk.mk Bool.true (Body.cells [(At.sl 21 0 q0z 1), (At.sl 22 0 q0x 1), (At.sl 23 0 q0y 1)])), (Blk.mk Bool.true (Body.fl FloatKind.f32 b21)), (Blk.mk Bool.true (Body.fl FloatKind.f32 b22)), (Blk.mk Bool.true (Body.fl FloatKind.f32 b23)), (Blk.mk Bool.true (Body.cells [(At.sl 13 0 q1c 1), (At.sl 14 0 q1a 1), (At.sl 15 0 q1b 1)]))]))
theorem zf7 (an : Nat) (b0 : List Nat) (b1 : List Nat) (b2 : List Nat) (b3 : List Nat) (b4 : List Nat) (b5 : List Nat) (q0h : Nat) (q0d : Nat) (q0e : Nat) (q0i : Nat) (q0g : Nat) (q0f : Nat) (q0w : Nat) (q0u : Nat) (q0v : Nat) (b9 : List Nat) (b10 : List Nat) (b11 : List Nat) (q0m : Nat) (q0n : Nat) (q0q : Nat) (b14 : List Nat) (b15 : List Nat) (q0r : Nat) (q0p : Nat) (q0o : Nat) (b17 : List Nat) (b18 : List Nat) (b19 : List Nat) (q0z : Nat) (q0x : Nat) (q0y : Nat) (b21 : List Nat) (b22 : List Nat) (b23 : List Nat) (q1c : Nat) (q1a : Nat) (q1b : Nat) : ∀ x : Option ((Int × Int × Bool × (List Nat))), x.isSome = true → (z60 an b0 b1 b2 b3 b4 b5 q0h q0d q0e q0i q0g q0f q0w q0u q0v b9 b10 b11 q0m q0n q0q b14 b15 q0r q0p q0o b17 b18 b19 q0z q0x q0y b21 b22 b23 q1c q1a q1b) x = some (pick (zek an b0 b1 b2 b3 b4 b5 q0h q0d q0e q0i q0g q0f q0w q0u q0v b9 b10 b11 q0m q0n q0q b14 b15 q0r q0p q0o b17 b18 b19 q0z q0x q0y b21 b22 b23 q1c q1a q1b x))
  | none, h => by cases h
  | some r, _ => rfl
theorem zet (an : Nat) (k : Int) (i : Int) (b0 : List Nat) (b1 : List Nat) (b2 : List Nat) (b3 : List Nat) (b4 : List Nat) (b5 : List Nat) (q0h : Nat) (q0d : Nat) (q0e : Nat) (q0i : Nat) (q0g : Nat) (q0f : Nat) (q0w : Nat) (q0u : Nat) (q0v : Nat) (b9 : List Nat) (b10 : List Nat) (b11 : List Nat) (q0m : Nat) (q0n : Nat) (q0q : Nat) (b13 : List Nat) (b14 : List Nat) (b15 : List Nat) (q0r : Nat) (q0p : Nat) (q0o : Nat) (b17 : List Nat) (b18 : List Nat) (b19 : List Nat) (q0z : Nat) (q0x : Nat) (q0y : Nat) (b21 : List Nat) (b22 : List Nat) (b23 : List Nat) (q1c : Nat) (q1a : Nat) (q1b : Nat) (K : Ex → St → Option (Ex × St)) : evC (R := Ex × St) Γ16 (evFn Γ16 8 8) 19 25 fi19.nt fi19.live fi19.nl 8 (findL 2 (loopsIn fi19.code)) (St.mk [(0, (AV.v (TV.one (At.sl 13 0 an 1)))), (1, (AV.v (TV.one (At.int IntKind.i64 k)))), (5, (AV.v (TV.one (At.int IntKind.i64 i))))] [(Blk.mk Bool.false (Body.fl FloatKind.f32 b0)), (Blk.mk Bool.false (Body.fl FloatKind.f32 b1)), (Blk.mk Bool.false (Body.fl FloatKind.f32 b2)), (Blk.mk Bool.false (Body.fl FloatKind.f32 b3)), (Blk.mk Bool.false (Body.fl FloatKind.f32 b4)), (Blk.mk Bool.false (Body.fl FloatKind.f32 b5)), (Blk.mk Bool.true (Body.cells [(At.vw 0 0 q0h 1), (At.vw 1 0 q0d 1), (At.vw 2 0 q0e 1)])), (Blk.mk Bool.true (Body.cells [(At.vw 3 0 q0i 1), (At.vw 4 0 q0g 1), (At.vw 5 0 q0f 1)])), (Blk.mk Bool.true (Body.cells [(At.sl 9 0 q0w 1), (At.sl 10 0 q0u 1), (At.sl 11 0 q0v 1)])), (Blk.mk Bool.true (Body.fl FloatKind.f32 b9)), (Blk.mk Bool.true (Body.fl FloatKind.f32 b10)), (Blk.mk Bool.true (Body.fl FloatKind.f32 b11)), (Blk.mk Bool.true (Body.cells [(At.sl 13 0 q0m 1), (At.sl 14 0 q0n 1), (At.sl 15 0 q0q 1)])), (Blk.mk Bool.true (Body.fl FloatKind.f32 b13)), (Blk.mk Bool.true (Body.fl FloatKind.f32 b14)), (Blk.mk Bool.true (Body.fl FloatKind.f32 b15)), (Blk.mk Bool.true (Body.cells [(At.sl 17 0 q0r 1), (At.sl 18 0 q0p 1), (At.sl 19 0 q0o 1)])), (Blk.mk Bool.true (Body.fl FloatKind.f32 b17)), (Blk.mk Bool.true (Body.fl FloatKind.f32 b18)), (Blk.mk Bool.true (Body.fl FloatKind.f32 b19)), (Blk.mk Bool.true (Body.cells [(At.sl 21 0 q0z 1), (At.sl 22 0 q0x 1), (At.sl 23 0 q0y 1)])), (Blk.mk Bool.true (Body.fl FloatKind.f32 b21)), (Blk.mk Bool.true (Body.fl FloatKind.f32 b22)), (Blk.mk Bool.true (Body.fl FloatKind.f32 b23)), (Blk.mk Bool.true (Body.cells [(At.sl 13 0 q1c 1), (At.sl 14 0 q1a 1), (At.sl 15 0 q1b 1)]))]) K = z3z an k i b13 (fun k' i' b13' => K .normal (St.mk [(0, (AV.v (TV.one (At.sl 13 0 an 1)))), (1, (AV.v (TV.one (At.int IntKind.i64 k')))), (5, (AV.v (TV.one (At.int IntKind.i64 i'))))] [(Blk.mk Bool.false (Body.fl FloatKind.f32 b0)), (Blk.mk Bool.false (Body.fl FloatKind.f32 b1)), (Blk.mk Bool.false (Body.fl FloatKind.f32 b2)), (Blk.mk Bool.false (Body.fl FloatKind.f32 b3)), (Blk.mk Bool.false (Body.fl FloatKind.f32 b4)), (Blk.mk Bool.false (Body.fl FloatKind.f32 b5)), (Blk.mk Bool.true (Body.cells [(At.vw 0 0 q0h 1), (At.vw 1 0 q0d 1), (At.vw 2 0 q0e 1)])), (Blk.mk Bool.true (Body.cells [(At.vw 3 0 q0i 1), (At.vw 4 0 q0g 1), (At.vw 5 0 q0f 1)])), (Blk.mk Bool.true (Body.cells [(At.sl 9 0 q0w 1), (At.sl 10 0 q0u 1), (At.sl 11 0 q0v 1)])), (Blk.mk Bool.true (Body.fl FloatKind.f32 b9)), (Blk.mk Bool.true (Body.fl FloatKind.f32 b10)), (Blk.mk Bool.true (Body.fl FloatKind.f32 b11)), (Blk.mk Bool.true (Body.cells [(At.sl 13 0 q0m 1), (At.sl 14 0 q0n 1), (At.sl 15 0 q0q 1)])), (Blk.mk Bool.true (Body.fl FloatKind.f32 b13')), (Blk.mk Bool.true (Body.fl FloatKind.f32 b14)), (Blk.mk Bool.true (Body.fl FloatKind.f32 b15)), (Blk.mk Bool.true (Body.cells [(At.sl 17 0 q0r 1), (At.sl 18 0 q0p 1), (At.sl 19 0 q0o 1)])), (Blk.mk Bool.true (Body.fl FloatKind.f32 b17)), (Blk.mk Bool.true (Body.fl FloatKind.f32 b18)), (Blk.mk Bool.true (Body.fl FloatKind.f32 b19)), (Blk.mk Bool.true (Body.cells [(At.sl 21 0 q0z 1), (At.sl 22 0 q0x 1), (At.sl 23 0 q0y 1)])), (Blk.mk Bool.true (Body.fl FloatKind.f32 b21)), (Blk.mk Bool.true (Body.fl FloatKind.f32 b22)), (Blk.mk Bool.true (Body.fl FloatKind.f32 b23)), (Blk.mk Bool.true (Body.cells [(At.sl 13 0 q1c 1), (At.sl 14 0 q1a 1), (At.sl 15 0 q1b 1)]))])) (fun c0_ c1_ c2_ c3_ => K (Ex.exit 0) (St.mk [(0, (AV.v (TV.one (At.sl 13 0 an 1)))), (1, (AV.v (TV.one (At.int IntKind.i64 c0_)))), (5, (AV.v (TV.one (At.int IntKind.i64 c1_)))), (9, (AV.v (TV.one (At.bool c2_))))] [(Blk.mk Bool.false (Body.fl FloatKind.f32 b0)), (Blk.mk Bool.false (Body.fl FloatKind.f32 b1)), (Blk.mk Bool.false (Body.fl FloatKind.f32 b2)), (Blk.mk Bool.false (Body.fl FloatKind.f32 b3)), (Blk.mk Bool.false (Body.fl FloatKind.f32 b4)), (Blk.mk Bool.false (Body.fl FloatKind.f32 b5)), (Blk.mk Bool.true (Body.cells [(At.vw 0 0 q0h 1), (At.vw 1 0 q0d 1), (At.vw 2 0 q0e 1)])), (Blk.mk Bool.true (Body.cells [(At.vw 3 0 q0i 1), (At.vw 4 0 q0g 1), (At.vw 5 0 q0f 1)])), (Blk.mk Bool.true (Body.cells [(At.sl 9 0 q0w 1), (At.sl 10 0 q0u 1), (At.sl 11 0 q0v 1)])), (Blk.mk Bool.true (Body.fl FloatKind.f32 b9)), (Blk.mk Bool.true (Body.fl FloatKind.f32 b10)), (Blk.mk Bool.true (Body.fl FloatKind.f32 b11)), (Blk.mk Bool.true (Body.cells [(At.sl 13 0 q0m 1), (At.sl 14 0 q0n 1), (At.sl 15 0 q0q 1)])), (Blk.mk Bool.true (Body.fl FloatKind.f32 c3_)), (Blk.mk Bool.true (Body.fl FloatKind.f32 b14)), (Blk.mk Bool.true (Body.fl FloatKind.f32 b15)), (Blk.mk Bool.true (Body.cells [(At.sl 17 0 q0r 1), (At.sl 18 0 q0p 1), (At.sl 19 0 q0o 1)])), (Blk.mk Bool.true (Body.fl FloatKind.f32 b17)), (Blk.mk Bool.true (Body.fl FloatKind.f32 b18)), (Blk.mk Bool.true (Body.fl FloatKind.f32 b19)), (Blk.mk Bool.true (Body.cells [(At.sl 21 0 q0z 1), (At.sl 22 0 q0x 1), (At.sl 23 0 q0y 1)])), (Blk.mk Bool.true (Body.fl FloatKind.f32 b21)), (Blk.mk Bool.true (Body.fl FloatKind.f32 b22)), (Blk.mk Bool.true (Body.fl FloatKind.f32 b23)), (Blk.mk Bool.true (Body.cells [(At.sl 13 0 q1c 1), (At.sl 14 0 q1a 1), (At.sl 15 0 q1b 1)]))])) := by kernel_rfl
theorem zf5 (an : Nat) (b0 : List Nat) (b1 : List Nat) (b2 : List Nat) (b3 : List Nat) (b4 : List Nat) (b5 : List Nat) (q0h : Nat) (q0d : Nat) (q0e : Nat) (q0i : Nat) (q0g : Nat) (q0f : Nat) (q0w : Nat) (q0u : Nat) (q0v : Nat) (b9 : List Nat) (b10 : List Nat) (b11 : List Nat) (q0m : Nat) (q0n : Nat) (q0q : Nat) (b14 : List Nat) (b15 : List Nat) (q0r : Nat) (q0p : Nat) (q0o : Nat) (b17 : List Nat) (b18 : List Nat) (b19 : List Nat) (q0z : Nat) (q0x : Nat) (q0y : Nat) (b21 : List Nat) (b22 : List Nat) (b23 : List Nat) (q1c : Nat) (q1a : Nat) (q1b : Nat) : ∀ (n : Nat) (k : Int) (i : Int) (b13 : List Nat), iter 19 2 25 (evC (R := Ex × St) Γ16 (evFn Γ16 8 8) 19 25 fi19.nt fi19.live fi19.nl 8 (findL 2 (loopsIn fi19.code))) n (St.mk [(0, (AV.v (TV.one (At.sl 13 0 an 1)))), (1, (AV.v (TV.one (At.int IntKind.i64 k)))), (5, (AV.v (TV.one (At.int IntKind.i64 i))))] [(Blk.mk Bool.false (Body.fl FloatKind.f32 b0)), (Blk.mk Bool.false (Body.fl FloatKind.f32 b1)), (Blk.mk Bool.false (Body.fl FloatKind.f32 b2)), (Blk.mk Bool.false (Body.fl FloatKind.f32 b3)), (Blk.mk Bool.false (Body.fl FloatKind.f32 b4)), (Blk.mk Bool.false (Body.fl FloatKind.f32 b5)), (Blk.mk Bool.true (Body.cells [(At.vw 0 0 q0h 1), (At.vw 1 0 q0d 1), (At.vw 2 0 q0e 1)])), (Blk.mk Bool.true (Body.cells [(At.vw 3 0 q0i 1), (At.vw 4 0 q0g 1), (At.vw 5 0 q0f 1)])), (Blk.mk Bool.true (Body.cells [(At.sl 9 0 q0w 1), (At.sl 10 0 q0u 1), (At.sl 11 0 q0v 1)])), (Blk.mk Bool.true (Body.fl FloatKind.f32 b9)), (Blk.mk Bool.true (Body.fl FloatKind.f32 b10)), (Blk.mk Bool.true (Body.fl FloatKind.f32 b11)), (Blk.mk Bool.true (Body.cells [(At.sl 13 0 q0m 1), (At.sl 14 0 q0n 1), (At.sl 15 0 q0q 1)])), (Blk.mk Bool.true (Body.fl FloatKind.f32 b13)), (Blk.mk Bool.true (Body.fl FloatKind.f32 b14)), (Blk.mk Bool.true (Body.fl FloatKind.f32 b15)), (Blk.mk Bool.true (Body.cells [(At.sl 17 0 q0r 1), (At.sl 18 0 q0p 1), (At.sl 19 0 q0o 1)])), (Blk.mk Bool.true (Body.fl FloatKind.f32 b17)), (Blk.mk Bool.true (Body.fl FloatKind.f32 b18)), (Blk.mk Bool.true (Body.fl FloatKind.f32 b19)), (Blk.mk Bool.true (Body.cells [(At.sl 21 0 q0z 1), (At.sl 22 0 q0x 1), (At.sl 23 0 q0y 1)])), (Blk.mk Bool.true (Body.fl FloatKind.f32 b21)), (Blk.mk Bool.true (Body.fl FloatKind.f32 b22)), (Blk.mk Bool.true (Body.fl FloatKind.f32 b23)), (Blk.mk Bool.true (Body.cells [(At.sl 13 0 q1c 1), (At.sl 14 0 q1a 1), (At.sl 15 0 q1b 1)]))]) (fun e st => some (e, st)) = (z60 an b0 b1 b2 b3 b4 b5 q0h q0d q0e q0i q0g q0f q0w q0u q0v b9 b10 b11 q0m q0n q0q b14 b15 q0r q0p q0o b17 b18 b19 q0z q0x q0y b21 b22 b23 q1c q1a q1b) (z2j an n k i b13) := by
  intro n
  induction n with
  | zero => intros; rfl
  | succ n ih =>
    intro k i b13
    refine Eq.trans (iter_succ ..) (Eq.trans (zet an k i b0 b1 b2 b3 b4 b5 q0h q0d q0e q0i q0g q0f q0w q0u q0v b9 b10 b11 q0m q0n q0q b13 b14 b15 q0r q0p q0o b17 b18 b19 q0z q0x q0y b21 b22 b23 q1c q1a q1b (nextK 19 2 25 (evC (R := Ex × St) Γ16 (evFn Γ16 8 8) 19 25 fi19.nt fi19.live fi19.nl 8 (findL 2 (loopsIn fi19.code))) n (fun e st => some (e, st)))) (Eq.trans ?_ (zd2 (z60 an b0 b1 b2 b3 b4 b5 q0h q0d q0e q0i q0g q0f q0w q0u q0v b9 b10 b11 q0m q0n q0q b14 b15 q0r q0p q0o b17 b18 b19 q0z q0x q0y b21 b22 b23 q1c q1a q1b) rfl an k i b13 (fun k' i' b13' => z2j an n k' i' b13') (fun c0_ c1_ c2_ c3_ => some (c0_, c1_, c2_, c3_)))))
    exact congrArg (fun kn_ => z3z an k i b13 kn_ (fun c0_ c1_ c2_ c3_ => (z60 an b0 b1 b2 b3 b4 b5 q0h q0d q0e q0i q0g q0f q0w q0u q0v b9 b10 b11 q0m q0n q0q b14 b15 q0r q0p q0o b17 b18 b19 q0z q0x q0y b21 b22 b23 q1c q1a q1b) (some (c0_, c1_, c2_, c3_)))) (funext fun k' => funext fun i' => funext fun b13' => ih k' i' b13')
theorem z0i : LoopOne Try.prog fnTab 19 2 z0g := lp_of (Γ := Γ16) tyTab_ok (FnL.ok fnTab_ok _ _) (LpL.ok lt16_ok) (SumL.ok tb16_ok _) mixed (fi := fi19) (by kernel_rfl) (by kernel_rfl) (by
  intro lo st out hp
  unfold z0g at hp
  split at hp
  · rename_i an k i b0 b1 b2 b3 b4 b5 q0h q0d q0e q0i q0g q0f q0w q0u q0v b9 b10 b11 q0m q0n q0q b13 b14 b15 q0r q0p q0o b17 b18 b19 q0z q0x q0y b21 b22 b23 q1c q1a q1b
    injection hp with hp
    injection hp with h1 h2
    subst h2
    exact ⟨8, 8, big, Eq.trans (zf5 an b0 b1 b2 b3 b4 b5 q0h q0d q0e q0i q0g q0f q0w q0u q0v b9 b10 b11 q0m q0n q0q b14 b15 q0r q0p q0o b17 b18 b19 q0z q0x q0y b21 b22 b23 q1c q1a q1b big k i b13) (zf7 an b0 b1 b2 b3 b4 b5 q0h q0d q0e q0i q0g q0f q0w q0u q0v b9 b10 b11 q0m q0n q0q b14 b15 q0r q0p q0o b17 b18 b19 q0z q0x q0y b21 b22 b23 q1c q1a q1b (z2j an big k i b13) h1)⟩
  · cases hp)
noncomputable def tb17 : List (Nat × (List PT → Option (Bool × AV × List Blk))) := [(129, z14), (133, z0m), (137, z16), (139, z2c), (25, z2h), (64, z2g), (68, z2r), (70, z1s), (78, z2s), (91, z39), (97, z3d), (119, z0j), (40, z2n), (58, z2v), (67, z35), (96, z1k), (111, z1l), (20, z1d), (74, z2e), (95, z0n), (126, z2f), (18, z2l), (42, z2u), (46, z29), (44, z2x), (90, z3m), (125, z07), (125, z0b), (110, z05), (110, z09), (69, z3a), (112, z3c), (41, z31), (94, z33), (43, z3k)]
noncomputable def lt17 : List ((Nat × Nat) × (Nat → St → Option (Bool × LO))) := [((20, 2), z0p), ((74, 3), z0w), ((95, 4), z0d), ((18, 4), z13), ((90, 5), z34), ((125, 2), z01), ((125, 2), z03), ((41, 5), z1o), ((94, 5), z24), ((43, 5), z37), ((19, 2), z0g)]
noncomputable def Γ17 : Ctx := ⟨tyTab, fnTab, tblSum tb17, tblLp lt17⟩
theorem tb17_ok : SumL Try.prog tb17 := SumL.cons z0s (SumL.cons z0f (SumL.cons z0t (SumL.cons z15 (SumL.cons z1f (SumL.cons z1e (SumL.cons z1p (SumL.cons z12 (SumL.cons z1r (SumL.cons z2q (SumL.cons z30 (SumL.cons z0e (SumL.cons z1m (SumL.cons z2a (SumL.cons z2k (SumL.cons z0x (SumL.cons z0y (SumL.cons z0v (SumL.cons z1g (SumL.cons z0h (SumL.cons z1i (SumL.cons z1n (SumL.cons z2d (SumL.cons z1b (SumL.cons z2i (SumL.cons z3b (SumL.cons z06 (SumL.cons z0a (SumL.cons z04 (SumL.cons z08 (SumL.cons z2w (SumL.cons z36 (SumL.cons z2p (SumL.cons z2t (SumL.cons z3e (SumL.nil)))))))))))))))))))))))))))))))))))
theorem lt17_ok : LpL Try.prog fnTab lt17 := LpL.cons z0k (LpL.cons z0q (LpL.cons z0c (LpL.cons z0r (LpL.cons z2m (LpL.cons z00 (LpL.cons z02 (LpL.cons z1c (LpL.cons z1j (LpL.cons z2y (LpL.cons z0i (LpL.nil)))))))))))
noncomputable def tb18 : List (Nat × (List PT → Option (Bool × AV × List Blk))) := [(129, z14), (133, z0m), (137, z16), (139, z2c), (25, z2h), (64, z2g), (68, z2r), (70, z1s), (78, z2s), (91, z39), (97, z3d), (119, z0j), (40, z2n), (58, z2v), (67, z35), (96, z1k), (111, z1l), (20, z1d), (74, z2e), (95, z0n), (126, z2f), (18, z2l), (42, z2u), (46, z29), (44, z2x), (90, z3m), (125, z07), (125, z0b), (110, z05), (110, z09), (69, z3a), (112, z3c), (41, z31), (94, z33), (43, z3k)]
noncomputable def lt18 : List ((Nat × Nat) × (Nat → St → Option (Bool × LO))) := [((20, 2), z0p), ((74, 3), z0w), ((95, 4), z0d), ((18, 4), z13), ((90, 5), z34), ((125, 2), z01), ((125, 2), z03), ((41, 5), z1o), ((94, 5), z24), ((43, 5), z37), ((19, 2), z0g)]
noncomputable def Γ18 : Ctx := ⟨tyTab, fnTab, tblSum tb18, tblLp lt18⟩
theorem tb18_ok : SumL Try.prog tb18 := SumL.cons z0s (SumL.cons z0f (SumL.cons z0t (SumL.cons z15 (SumL.cons z1f (SumL.cons z1e (SumL.cons z1p (SumL.cons z12 (SumL.cons z1r (SumL.cons z2q (SumL.cons z30 (SumL.cons z0e (SumL.cons z1m (SumL.cons z2a (SumL.cons z2k (SumL.cons z0x (SumL.cons z0y (SumL.cons z0v (SumL.cons z1g (SumL.cons z0h (SumL.cons z1i (SumL.cons z1n (SumL.cons z2d (SumL.cons z1b (SumL.cons z2i (SumL.cons z3b (SumL.cons z06 (SumL.cons z0a (SumL.cons z04 (SumL.cons z08 (SumL.cons z2w (SumL.cons z36 (SumL.cons z2p (SumL.cons z2t (SumL.cons z3e (SumL.nil)))))))))))))))))))))))))))))))))))
theorem lt18_ok : LpL Try.prog fnTab lt18 := LpL.cons z0k (LpL.cons z0q (LpL.cons z0c (LpL.cons z0r (LpL.cons z2m (LpL.cons z00 (LpL.cons z02 (LpL.cons z1c (LpL.cons z1j (LpL.cons z2y (LpL.cons z0i (LpL.nil)))))))))))
noncomputable def z0l : Nat → St → Option (Bool × LO)
  | 25, (St.mk [(0, (AV.v (TV.one (At.sl 14 0 an 1)))), (1, (AV.v (TV.one (At.int IntKind.i64 k)))), (5, (AV.v (TV.one (At.int IntKind.i64 i))))] [(Blk.mk Bool.false (Body.fl FloatKind.f32 b0)), (Blk.mk Bool.false (Body.fl FloatKind.f32 b1)), (Blk.mk Bool.false (Body.fl FloatKind.f32 b2)), (Blk.mk Bool.false (Body.fl FloatKind.f32 b3)), (Blk.mk Bool.false (Body.fl FloatKind.f32 b4)), (Blk.mk Bool.false (Body.fl FloatKind.f32 b5)), (Blk.mk Bool.true (Body.cells [(At.vw 0 0 q0h 1), (At.vw 1 0 q0d 1), (At.vw 2 0 q0e 1)])), (Blk.mk Bool.true (Body.cells [(At.vw 3 0 q0i 1), (At.vw 4 0 q0g 1), (At.vw 5 0 q0f 1)])), (Blk.mk Bool.true (Body.cells [(At.sl 9 0 q0w 1), (At.sl 10 0 q0u 1), (At.sl 11 0 q0v 1)])), (Blk.mk Bool.true (Body.fl FloatKind.f32 b9)), (Blk.mk Bool.true (Body.fl FloatKind.f32 b10)), (Blk.mk Bool.true (Body.fl FloatKind.f32 b11)), (Blk.mk Bool.true (Body.cells [(At.sl 13 0 q0m 1), (At.sl 14 0 q0n 1), (At.sl 15 0 q0q 1)])), (Blk.mk Bool.true (Body.fl FloatKind.f32 b13)), (Blk.mk Bool.true (Body.fl FloatKind.f32 b14)), (Blk.mk Bool.true (Body.fl FloatKind.f32 b15)), (Blk.mk Bool.true (Body.cells [(At.sl 17 0 q0r 1), (At.sl 18 0 q0p 1), (At.sl 19 0 q0o 1)])), (Blk.mk Bool.true (Body.fl FloatKind.f32 b17)), (Blk.mk Bool.true (Body.fl FloatKind.f32 b18)), (Blk.mk Bool.true (Body.fl FloatKind.f32 b19)), (Blk.mk Bool.true (Body.cells [(At.sl 21 0 q0z 1), (At.sl 22 0 q0x 1), (At.sl 23 0 q0y 1)])), (Blk.mk Bool.true (Body.fl FloatKind.f32 b21)), (Blk.mk Bool.true (Body.fl FloatKind.f32 b22)), (Blk.mk Bool.true (Body.fl FloatKind.f32 b23)), (Blk.mk Bool.true (Body.cells [(At.sl 13 0 q1c 1), (At.sl 14 0 q1a 1), (At.sl 15 0 q1b 1)]))]) => some ((z5c an k i b14), (LO.one (Ex.exit 0) (St.mk [(0, (AV.v (TV.one (At.sl 14 0 an 1)))), (1, (AV.v (TV.one (At.int IntKind.i64 (z4z an k i b14))))), (5, (AV.v (TV.one (At.int IntKind.i64 (z6j an k i b14))))), (9, (AV.v (TV.one (At.bool (z6k an k i b14)))))] [(Blk.mk Bool.false (Body.fl FloatKind.f32 b0)), (Blk.mk Bool.false (Body.fl FloatKind.f32 b1)), (Blk.mk Bool.false (Body.fl FloatKind.f32 b2)), (Blk.mk Bool.false (Body.fl FloatKind.f32 b3)), (Blk.mk Bool.false (Body.fl FloatKind.f32 b4)), (Blk.mk Bool.false (Body.fl FloatKind.f32 b5)), (Blk.mk Bool.true (Body.cells [(At.vw 0 0 q0h 1), (At.vw 1 0 q0d 1), (At.vw 2 0 q0e 1)])), (Blk.mk Bool.true (Body.cells [(At.vw 3 0 q0i 1), (At.vw 4 0 q0g 1), (At.vw 5 0 q0f 1)])), (Blk.mk Bool.true (Body.cells [(At.sl 9 0 q0w 1), (At.sl 10 0 q0u 1), (At.sl 11 0 q0v 1)])), (Blk.mk Bool.true (Body.fl FloatKind.f32 b9)), (Blk.mk Bool.true (Body.fl FloatKind.f32 b10)), (Blk.mk Bool.true (Body.fl FloatKind.f32 b11)), (Blk.mk Bool.true (Body.cells [(At.sl 13 0 q0m 1), (At.sl 14 0 q0n 1), (At.sl 15 0 q0q 1)])), (Blk.mk Bool.true (Body.fl FloatKind.f32 b13)), (Blk.mk Bool.true (Body.fl FloatKind.f32 (z6l an k i b14))), (Blk.mk Bool.true (Body.fl FloatKind.f32 b15)), (Blk.mk Bool.true (Body.cells [(At.sl 17 0 q0r 1), (At.sl 18 0 q0p 1), (At.sl 19 0 q0o 1)])), (Blk.mk Bool.true (Body.fl FloatKind.f32 b17)), (Blk.mk Bool.true (Body.fl FloatKind.f32 b18)), (Blk.mk Bool.true (Body.fl FloatKind.f32 b19)), (Blk.mk Bool.true (Body.cells [(At.sl 21 0 q0z 1), (At.sl 22 0 q0x 1), (At.sl 23 0 q0y 1)])), (Blk.mk Bool.true (Body.fl FloatKind.f32 b21)), (Blk.mk Bool.true (Body.fl FloatKind.f32 b22)), (Blk.mk Bool.true (Body.fl FloatKind.f32 b23)), (Blk.mk Bool.true (Body.cells [(At.sl 13 0 q1c 1), (At.sl 14 0 q1a 1), (At.sl 15 0 q1b 1)]))])))
  | _, _ => none
def z5f (an : Nat) (b0 : List Nat) (b1 : List Nat) (b2 : List Nat) (b3 : List Nat) (b4 : List Nat) (b5 : List Nat) (q0h : Nat) (q0d : Nat) (q0e : Nat) (q0i : Nat) (q0g : Nat) (q0f : Nat) (q0w : Nat) (q0u : Nat) (q0v : Nat) (b9 : List Nat) (b10 : List Nat) (b11 : List Nat) (q0m : Nat) (q0n : Nat) (q0q : Nat) (b13 : List Nat) (b15 : List Nat) (q0r : Nat) (q0p : Nat) (q0o : Nat) (b17 : List Nat) (b18 : List Nat) (b19 : List Nat) (q0z : Nat) (q0x : Nat) (q0y : Nat) (b21 : List Nat) (b22 : List Nat) (b23 : List Nat) (q1c : Nat) (q1a : Nat) (q1b : Nat) : Option ((Int × Int × Bool × (List Nat))) → Option (Ex × St)
  | none => none
  | some r => some ((Ex.exit 0), (St.mk [(0, (AV.v (TV.one (At.sl 14 0 an 1)))), (1, (AV.v (TV.one (At.int IntKind.i64 r.1)))), (5, (AV.v (TV.one (At.int IntKind.i64 r.2.1)))), (9, (AV.v (TV.one (At.bool r.2.2.1))))] [(Blk.mk Bool.false (Body.fl FloatKind.f32 b0)), (Blk.mk Bool.false (Body.fl FloatKind.f32 b1)), (Blk.mk Bool.false (Body.fl FloatKind.f32 b2)), (Blk.mk Bool.false (Body.fl FloatKind.f32 b3)), (Blk.mk Bool.false (Body.fl FloatKind.f32 b4)), (Blk.mk Bool.false (Body.fl FloatKind.f32 b5)), (Blk.mk Bool.true (Body.cells [(At.vw 0 0 q0h 1), (At.vw 1 0 q0d 1), (At.vw 2 0 q0e 1)])), (Blk.mk Bool.true (Body.cells [(At.vw 3 0 q0i 1), (At.vw 4 0 q0g 1), (At.vw 5 0 q0f 1)])), (Blk.mk Bool.true (Body.cells [(At.sl 9 0 q0w 1), (At.sl 10 0 q0u 1), (At.sl 11 0 q0v 1)])), (Blk.mk Bool.true (Body.fl FloatKind.f32 b9)), (Blk.mk Bool.true (Body.fl FloatKind.f32 b10)), (Blk.mk Bool.true (Body.fl FloatKind.f32 b11)), (Blk.mk Bool.true (Body.cells [(At.sl 13 0 q0m 1), (At.sl 14 0 q0n 1), (At.sl 15 0 q0q 1)])), (Blk.mk Bool.true (Body.fl FloatKind.f32 b13)), (Blk.mk Bool.true (Body.fl FloatKind.f32 r.2.2.2)), (Blk.mk Bool.true (Body.fl FloatKind.f32 b15)), (Blk.mk Bool.true (Body.cells [(At.sl 17 0 q0r 1), (At.sl 18 0 q0p 1), (At.sl 19 0 q0o 1)])), (Blk.mk Bool.true (Body.fl FloatKind.f32 b17)), (Blk.mk Bool.true (Body.fl FloatKind.f32 b18)), (Blk.mk Bool.true (Body.fl FloatKind.f32 b19)), (Blk.mk Bool.true (Body.cells [(At.sl 21 0 q0z 1), (At.sl 22 0 q0x 1), (At.sl 23 0 q0y 1)])), (Blk.mk Bool.true (Body.fl FloatKind.f32 b21)), (Blk.mk Bool.true (Body.fl FloatKind.f32 b22)), (Blk.mk Bool.true (Body.fl FloatKind.f32 b23)), (Blk.mk Bool.true (Body.cells [(At.sl 13 0 q1c 1), (At.sl 14 0 q1a 1), (At.sl 15 0 q1b 1)]))]))
def zdc (an : Nat) (b0 : List Nat) (b1 : List Nat) (b2 : List Nat) (b3 : List Nat) (b4 : List Nat) (b5 : List Nat) (q0h : Nat) (q0d : Nat) (q0e : Nat) (q0i : Nat) (q0g : Nat) (q0f : Nat) (q0w : Nat) (q0u : Nat) (q0v : Nat) (b9 : List Nat) (b10 : List Nat) (b11 : List Nat) (q0m : Nat) (q0n : Nat) (q0q : Nat) (b13 : List Nat) (b15 : List Nat) (q0r : Nat) (q0p : Nat) (q0o : Nat) (b17 : List Nat) (b18 : List Nat) (b19 : List Nat) (q0z : Nat) (q0x : Nat) (q0y : Nat) (b21 : List Nat) (b22 : List Nat) (b23 : List Nat) (q1c : Nat) (q1a : Nat) (q1b : Nat) (x : Option ((Int × Int × Bool × (List Nat)))) : LO := (LO.one (Ex.exit 0) (St.mk [(0, (AV.v (TV.one (At.sl 14 0 an 1)))), (1, (AV.v (TV.one (At.int IntKind.i64 (x.getD default).1)))), (5, (AV.v (TV.one (At.int IntKind.i64 (x.getD default).2.1)))), (9, (AV.v (TV.one (At.bool (x.getD default).2.2.1))))] [(Blk.mk Bool.false (Body.fl FloatKind.f32 b0)), (Blk.mk Bool.false (Body.fl FloatKind.f32 b1)), (Blk.mk Bool.false (Body.fl FloatKind.f32 b2)), (Blk.mk Bool.false (Body.fl FloatKind.f32 b3)), (Blk.mk Bool.false (Body.fl FloatKind.f32 b4)), (Blk.mk Bool.false (Body.fl FloatKind.f32 b5)), (Blk.mk Bool.true (Body.cells [(At.vw 0 0 q0h 1), (At.vw 1 0 q0d 1), (At.vw 2 0 q0e 1)])), (Blk.mk Bool.true (Body.cells [(At.vw 3 0 q0i 1), (At.vw 4 0 q0g 1), (At.vw 5 0 q0f 1)])), (Blk.mk Bool.true (Body.cells [(At.sl 9 0 q0w 1), (At.sl 10 0 q0u 1), (At.sl 11 0 q0v 1)])), (Blk.mk Bool.true (Body.fl FloatKind.f32 b9)), (Blk.mk Bool.true (Body.fl FloatKind.f32 b10)), (Blk.mk Bool.true (Body.fl FloatKind.f32 b11)), (Blk.mk Bool.true (Body.cells [(At.sl 13 0 q0m 1), (At.sl 14 0 q0n 1), (At.sl 15 0 q0q 1)])), (Blk.mk Bool.true (Body.fl FloatKind.f32 b13)), (Blk.mk Bool.true (Body.fl FloatKind.f32 (x.getD default).2.2.2)), (Blk.mk Bool.true (Body.fl FloatKind.f32 b15)), (Blk.mk Bool.true (Body.cells [(At.sl 17 0 q0r 1), (At.sl 18 0 q0p 1), (At.sl 19 0 q0o 1)])), (Blk.mk Bool.true (Body.fl FloatKind.f32 b17)), (Blk.mk Bool.true (Body.fl FloatKind.f32 b18)), (Blk.mk Bool.true (Body.fl FloatKind.f32 b19)), (Blk.mk Bool.true (Body.cells [(At.sl 21 0 q0z 1), (At.sl 22 0 q0x 1), (At.sl 23 0 q0y 1)])), (Blk.mk Bool.true (Body.fl FloatKind.f32 b21)), (Blk.mk Bool.true (Body.fl FloatKind.f32 b22)), (Blk.mk Bool.true (Body.fl FloatKind.f32 b23)), (Blk.mk Bool.true (Body.cells [(At.sl 13 0 q1c 1), (At.sl 14 0 q1a 1), (At.sl 15 0 q1b 1)]))]))
theorem zei (an : Nat) (b0 : List Nat) (b1 : List Nat) (b2 : List Nat) (b3 : List Nat) (b4 : List Nat) (b5 : List Nat) (q0h : Nat) (q0d : Nat) (q0e : Nat) (q0i : Nat) (q0g : Nat) (q0f : Nat) (q0w : Nat) (q0u : Nat) (q0v : Nat) (b9 : List Nat) (b10 : List Nat) (b11 : List Nat) (q0m : Nat) (q0n : Nat) (q0q : Nat) (b13 : List Nat) (b15 : List Nat) (q0r : Nat) (q0p : Nat) (q0o : Nat) (b17 : List Nat) (b18 : List Nat) (b19 : List Nat) (q0z : Nat) (q0x : Nat) (q0y : Nat) (b21 : List Nat) (b22 : List Nat) (b23 : List Nat) (q1c : Nat) (q1a : Nat) (q1b : Nat) : ∀ x : Option ((Int × Int × Bool × (List Nat))), x.isSome = true → (z5f an b0 b1 b2 b3 b4 b5 q0h q0d q0e q0i q0g q0f q0w q0u q0v b9 b10 b11 q0m q0n q0q b13 b15 q0r q0p q0o b17 b18 b19 q0z q0x q0y b21 b22 b23 q1c q1a q1b) x = some (pick (zdc an b0 b1 b2 b3 b4 b5 q0h q0d q0e q0i q0g q0f q0w q0u q0v b9 b10 b11 q0m q0n q0q b13 b15 q0r q0p q0o b17 b18 b19 q0z q0x q0y b21 b22 b23 q1c q1a q1b x))
  | none, h => by cases h
  | some r, _ => rfl
theorem zef (an : Nat) (k : Int) (i : Int) (b0 : List Nat) (b1 : List Nat) (b2 : List Nat) (b3 : List Nat) (b4 : List Nat) (b5 : List Nat) (q0h : Nat) (q0d : Nat) (q0e : Nat) (q0i : Nat) (q0g : Nat) (q0f : Nat) (q0w : Nat) (q0u : Nat) (q0v : Nat) (b9 : List Nat) (b10 : List Nat) (b11 : List Nat) (q0m : Nat) (q0n : Nat) (q0q : Nat) (b13 : List Nat) (b14 : List Nat) (b15 : List Nat) (q0r : Nat) (q0p : Nat) (q0o : Nat) (b17 : List Nat) (b18 : List Nat) (b19 : List Nat) (q0z : Nat) (q0x : Nat) (q0y : Nat) (b21 : List Nat) (b22 : List Nat) (b23 : List Nat) (q1c : Nat) (q1a : Nat) (q1b : Nat) (K : Ex → St → Option (Ex × St)) : evC (R := Ex × St) Γ18 (evFn Γ18 8 8) 19 25 fi19.nt fi19.live fi19.nl 8 (findL 2 (loopsIn fi19.code)) (St.mk [(0, (AV.v (TV.one (At.sl 14 0 an 1)))), (1, (AV.v (TV.one (At.int IntKind.i64 k)))), (5, (AV.v (TV.one (At.int IntKind.i64 i))))] [(Blk.mk Bool.false (Body.fl FloatKind.f32 b0)), (Blk.mk Bool.false (Body.fl FloatKind.f32 b1)), (Blk.mk Bool.false (Body.fl FloatKind.f32 b2)), (Blk.mk Bool.false (Body.fl FloatKind.f32 b3)), (Blk.mk Bool.false (Body.fl FloatKind.f32 b4)), (Blk.mk Bool.false (Body.fl FloatKind.f32 b5)), (Blk.mk Bool.true (Body.cells [(At.vw 0 0 q0h 1), (At.vw 1 0 q0d 1), (At.vw 2 0 q0e 1)])), (Blk.mk Bool.true (Body.cells [(At.vw 3 0 q0i 1), (At.vw 4 0 q0g 1), (At.vw 5 0 q0f 1)])), (Blk.mk Bool.true (Body.cells [(At.sl 9 0 q0w 1), (At.sl 10 0 q0u 1), (At.sl 11 0 q0v 1)])), (Blk.mk Bool.true (Body.fl FloatKind.f32 b9)), (Blk.mk Bool.true (Body.fl FloatKind.f32 b10)), (Blk.mk Bool.true (Body.fl FloatKind.f32 b11)), (Blk.mk Bool.true (Body.cells [(At.sl 13 0 q0m 1), (At.sl 14 0 q0n 1), (At.sl 15 0 q0q 1)])), (Blk.mk Bool.true (Body.fl FloatKind.f32 b13)), (Blk.mk Bool.true (Body.fl FloatKind.f32 b14)), (Blk.mk Bool.true (Body.fl FloatKind.f32 b15)), (Blk.mk Bool.true (Body.cells [(At.sl 17 0 q0r 1), (At.sl 18 0 q0p 1), (At.sl 19 0 q0o 1)])), (Blk.mk Bool.true (Body.fl FloatKind.f32 b17)), (Blk.mk Bool.true (Body.fl FloatKind.f32 b18)), (Blk.mk Bool.true (Body.fl FloatKind.f32 b19)), (Blk.mk Bool.true (Body.cells [(At.sl 21 0 q0z 1), (At.sl 22 0 q0x 1), (At.sl 23 0 q0y 1)])), (Blk.mk Bool.true (Body.fl FloatKind.f32 b21)), (Blk.mk Bool.true (Body.fl FloatKind.f32 b22)), (Blk.mk Bool.true (Body.fl FloatKind.f32 b23)), (Blk.mk Bool.true (Body.cells [(At.sl 13 0 q1c 1), (At.sl 14 0 q1a 1), (At.sl 15 0 q1b 1)]))]) K = z3u an k i b14 (fun k' i' b14' => K .normal (St.mk [(0, (AV.v (TV.one (At.sl 14 0 an 1)))), (1, (AV.v (TV.one (At.int IntKind.i64 k')))), (5, (AV.v (TV.one (At.int IntKind.i64 i'))))] [(Blk.mk Bool.false (Body.fl FloatKind.f32 b0)), (Blk.mk Bool.false (Body.fl FloatKind.f32 b1)), (Blk.mk Bool.false (Body.fl FloatKind.f32 b2)), (Blk.mk Bool.false (Body.fl FloatKind.f32 b3)), (Blk.mk Bool.false (Body.fl FloatKind.f32 b4)), (Blk.mk Bool.false (Body.fl FloatKind.f32 b5)), (Blk.mk Bool.true (Body.cells [(At.vw 0 0 q0h 1), (At.vw 1 0 q0d 1), (At.vw 2 0 q0e 1)])), (Blk.mk Bool.true (Body.cells [(At.vw 3 0 q0i 1), (At.vw 4 0 q0g 1), (At.vw 5 0 q0f 1)])), (Blk.mk Bool.true (Body.cells [(At.sl 9 0 q0w 1), (At.sl 10 0 q0u 1), (At.sl 11 0 q0v 1)])), (Blk.mk Bool.true (Body.fl FloatKind.f32 b9)), (Blk.mk Bool.true (Body.fl FloatKind.f32 b10)), (Blk.mk Bool.true (Body.fl FloatKind.f32 b11)), (Blk.mk Bool.true (Body.cells [(At.sl 13 0 q0m 1), (At.sl 14 0 q0n 1), (At.sl 15 0 q0q 1)])), (Blk.mk Bool.true (Body.fl FloatKind.f32 b13)), (Blk.mk Bool.true (Body.fl FloatKind.f32 b14')), (Blk.mk Bool.true (Body.fl FloatKind.f32 b15)), (Blk.mk Bool.true (Body.cells [(At.sl 17 0 q0r 1), (At.sl 18 0 q0p 1), (At.sl 19 0 q0o 1)])), (Blk.mk Bool.true (Body.fl FloatKind.f32 b17)), (Blk.mk Bool.true (Body.fl FloatKind.f32 b18)), (Blk.mk Bool.true (Body.fl FloatKind.f32 b19)), (Blk.mk Bool.true (Body.cells [(At.sl 21 0 q0z 1), (At.sl 22 0 q0x 1), (At.sl 23 0 q0y 1)])), (Blk.mk Bool.true (Body.fl FloatKind.f32 b21)), (Blk.mk Bool.true (Body.fl FloatKind.f32 b22)), (Blk.mk Bool.true (Body.fl FloatKind.f32 b23)), (Blk.mk Bool.true (Body.cells [(At.sl 13 0 q1c 1), (At.sl 14 0 q1a 1), (At.sl 15 0 q1b 1)]))])) (fun c0_ c1_ c2_ c3_ => K (Ex.exit 0) (St.mk [(0, (AV.v (TV.one (At.sl 14 0 an 1)))), (1, (AV.v (TV.one (At.int IntKind.i64 c0_)))), (5, (AV.v (TV.one (At.int IntKind.i64 c1_)))), (9, (AV.v (TV.one (At.bool c2_))))] [(Blk.mk Bool.false (Body.fl FloatKind.f32 b0)), (Blk.mk Bool.false (Body.fl FloatKind.f32 b1)), (Blk.mk Bool.false (Body.fl FloatKind.f32 b2)), (Blk.mk Bool.false (Body.fl FloatKind.f32 b3)), (Blk.mk Bool.false (Body.fl FloatKind.f32 b4)), (Blk.mk Bool.false (Body.fl FloatKind.f32 b5)), (Blk.mk Bool.true (Body.cells [(At.vw 0 0 q0h 1), (At.vw 1 0 q0d 1), (At.vw 2 0 q0e 1)])), (Blk.mk Bool.true (Body.cells [(At.vw 3 0 q0i 1), (At.vw 4 0 q0g 1), (At.vw 5 0 q0f 1)])), (Blk.mk Bool.true (Body.cells [(At.sl 9 0 q0w 1), (At.sl 10 0 q0u 1), (At.sl 11 0 q0v 1)])), (Blk.mk Bool.true (Body.fl FloatKind.f32 b9)), (Blk.mk Bool.true (Body.fl FloatKind.f32 b10)), (Blk.mk Bool.true (Body.fl FloatKind.f32 b11)), (Blk.mk Bool.true (Body.cells [(At.sl 13 0 q0m 1), (At.sl 14 0 q0n 1), (At.sl 15 0 q0q 1)])), (Blk.mk Bool.true (Body.fl FloatKind.f32 b13)), (Blk.mk Bool.true (Body.fl FloatKind.f32 c3_)), (Blk.mk Bool.true (Body.fl FloatKind.f32 b15)), (Blk.mk Bool.true (Body.cells [(At.sl 17 0 q0r 1), (At.sl 18 0 q0p 1), (At.sl 19 0 q0o 1)])), (Blk.mk Bool.true (Body.fl FloatKind.f32 b17)), (Blk.mk Bool.true (Body.fl FloatKind.f32 b18)), (Blk.mk Bool.true (Body.fl FloatKind.f32 b19)), (Blk.mk Bool.true (Body.cells [(At.sl 21 0 q0z 1), (At.sl 22 0 q0x 1), (At.sl 23 0 q0y 1)])), (Blk.mk Bool.true (Body.fl FloatKind.f32 b21)), (Blk.mk Bool.true (Body.fl FloatKind.f32 b22)), (Blk.mk Bool.true (Body.fl FloatKind.f32 b23)), (Blk.mk Bool.true (Body.cells [(At.sl 13 0 q1c 1), (At.sl 14 0 q1a 1), (At.sl 15 0 q1b 1)]))])) := by kernel_rfl
theorem ze3 (an : Nat) (b0 : List Nat) (b1 : List Nat) (b2 : List Nat) (b3 : List Nat) (b4 : List Nat) (b5 : List Nat) (q0h : Nat) (q0d : Nat) (q0e : Nat) (q0i : Nat) (q0g : Nat) (q0f : Nat) (q0w : Nat) (q0u : Nat) (q0v : Nat) (b9 : List Nat) (b10 : List Nat) (b11 : List Nat) (q0m : Nat) (q0n : Nat) (q0q : Nat) (b13 : List Nat) (b15 : List Nat) (q0r : Nat) (q0p : Nat) (q0o : Nat) (b17 : List Nat) (b18 : List Nat) (b19 : List Nat) (q0z : Nat) (q0x : Nat) (q0y : Nat) (b21 : List Nat) (b22 : List Nat) (b23 : List Nat) (q1c : Nat) (q1a : Nat) (q1b : Nat) : ∀ (n : Nat) (k : Int) (i : Int) (b14 : List Nat), iter 19 2 25 (evC (R := Ex × St) Γ18 (evFn Γ18 8 8) 19 25 fi19.nt fi19.live fi19.nl 8 (findL 2 (loopsIn fi19.code))) n (St.mk [(0, (AV.v (TV.one (At.sl 14 0 an 1)))), (1, (AV.v (TV.one (At.int IntKind.i64 k)))), (5, (AV.v (TV.one (At.int IntKind.i64 i))))] [(Blk.mk Bool.false (Body.fl FloatKind.f32 b0)), (Blk.mk Bool.false (Body.fl FloatKind.f32 b1)), (Blk.mk Bool.false (Body.fl FloatKind.f32 b2)), (Blk.mk Bool.false (Body.fl FloatKind.f32 b3)), (Blk.mk Bool.false (Body.fl FloatKind.f32 b4)), (Blk.mk Bool.false (Body.fl FloatKind.f32 b5)), (Blk.mk Bool.true (Body.cells [(At.vw 0 0 q0h 1), (At.vw 1 0 q0d 1), (At.vw 2 0 q0e 1)])), (Blk.mk Bool.true (Body.cells [(At.vw 3 0 q0i 1), (At.vw 4 0 q0g 1), (At.vw 5 0 q0f 1)])), (Blk.mk Bool.true (Body.cells [(At.sl 9 0 q0w 1), (At.sl 10 0 q0u 1), (At.sl 11 0 q0v 1)])), (Blk.mk Bool.true (Body.fl FloatKind.f32 b9)), (Blk.mk Bool.true (Body.fl FloatKind.f32 b10)), (Blk.mk Bool.true (Body.fl FloatKind.f32 b11)), (Blk.mk Bool.true (Body.cells [(At.sl 13 0 q0m 1), (At.sl 14 0 q0n 1), (At.sl 15 0 q0q 1)])), (Blk.mk Bool.true (Body.fl FloatKind.f32 b13)), (Blk.mk Bool.true (Body.fl FloatKind.f32 b14)), (Blk.mk Bool.true (Body.fl FloatKind.f32 b15)), (Blk.mk Bool.true (Body.cells [(At.sl 17 0 q0r 1), (At.sl 18 0 q0p 1), (At.sl 19 0 q0o 1)])), (Blk.mk Bool.true (Body.fl FloatKind.f32 b17)), (Blk.mk Bool.true (Body.fl FloatKind.f32 b18)), (Blk.mk Bool.true (Body.fl FloatKind.f32 b19)), (Blk.mk Bool.true (Body.cells [(At.sl 21 0 q0z 1), (At.sl 22 0 q0x 1), (At.sl 23 0 q0y 1)])), (Blk.mk Bool.true (Body.fl FloatKind.f32 b21)), (Blk.mk Bool.true (Body.fl FloatKind.f32 b22)), (Blk.mk Bool.true (Body.fl FloatKind.f32 b23)), (Blk.mk Bool.true (Body.cells [(At.sl 13 0 q1c 1), (At.sl 14 0 q1a 1), (At.sl 15 0 q1b 1)]))]) (fun e st => some (e, st)) = (z5f an b0 b1 b2 b3 b4 b5 q0h q0d q0e q0i q0g q0f q0w q0u q0v b9 b10 b11 q0m q0n q0q b13 b15 q0r q0p q0o b17 b18 b19 q0z q0x q0y b21 b22 b23 q1c q1a q1b) (z1z an n k i b14) := by
  intro n
  induction n with
  | zero => intros; rfl
  | succ n ih =>
    intro k i b14
    refine Eq.trans (iter_succ ..) (Eq.trans (zef an k i b0 b1 b2 b3 b4 b5 q0h q0d q0e q0i q0g q0f q0w q0u q0v b9 b10 b11 q0m q0n q0q b13 b14 b15 q0r q0p q0o b17 b18 b19 q0z q0x q0y b21 b22 b23 q1c q1a q1b (nextK 19 2 25 (evC (R := Ex × St) Γ18 (evFn Γ18 8 8) 19 25 fi19.nt fi19.live fi19.nl 8 (findL 2 (loopsIn fi19.code))) n (fun e st => some (e, st)))) (Eq.trans ?_ (zc9 (z5f an b0 b1 b2 b3 b4 b5 q0h q0d q0e q0i q0g q0f q0w q0u q0v b9 b10 b11 q0m q0n q0q b13 b15 q0r q0p q0o b17 b18 b19 q0z q0x q0y b21 b22 b23 q1c q1a q1b) rfl an k i b14 (fun k' i' b14' => z1z an n k' i' b14') (fun c0_ c1_ c2_ c3_ => some (c0_, c1_, c2_, c3_)))))
    exact congrArg (fun kn_ => z3u an k i b14 kn_ (fun c0_ c1_ c2_ c3_ => (z5f an b0 b1 b2 b3 b4 b5 q0h q0d q0e q0i q0g q0f q0w q0u q0v b9 b10 b11 q0m q0n q0q b13 b15 q0r q0p q0o b17 b18 b19 q0z q0x q0y b21 b22 b23 q1c q1a q1b) (some (c0_, c1_, c2_, c3_)))) (funext fun k' => funext fun i' => funext fun b14' => ih k' i' b14')
theorem z0o : LoopOne Try.prog fnTab 19 2 z0l := lp_of (Γ := Γ18) tyTab_ok (FnL.ok fnTab_ok _ _) (LpL.ok lt18_ok) (SumL.ok tb18_ok _) mixed (fi := fi19) (by kernel_rfl) (by kernel_rfl) (by
  intro lo st out hp
  unfold z0l at hp
  split at hp
  · rename_i an k i b0 b1 b2 b3 b4 b5 q0h q0d q0e q0i q0g q0f q0w q0u q0v b9 b10 b11 q0m q0n q0q b13 b14 b15 q0r q0p q0o b17 b18 b19 q0z q0x q0y b21 b22 b23 q1c q1a q1b
    injection hp with hp
    injection hp with h1 h2
    subst h2
    exact ⟨8, 8, big, Eq.trans (ze3 an b0 b1 b2 b3 b4 b5 q0h q0d q0e q0i q0g q0f q0w q0u q0v b9 b10 b11 q0m q0n q0q b13 b15 q0r q0p q0o b17 b18 b19 q0z q0x q0y b21 b22 b23 q1c q1a q1b big k i b14) (zei an b0 b1 b2 b3 b4 b5 q0h q0d q0e q0i q0g q0f q0w q0u q0v b9 b10 b11 q0m q0n q0q b13 b15 q0r q0p q0o b17 b18 b19 q0z q0x q0y b21 b22 b23 q1c q1a q1b (z1z an big k i b14) h1)⟩
  · cases hp)
noncomputable def tb19 : List (Nat × (List PT → Option (Bool × AV × List Blk))) := [(129, z14), (133, z0m), (137, z16), (139, z2c), (25, z2h), (64, z2g), (68, z2r), (70, z1s), (78, z2s), (91, z39), (97, z3d), (119, z0j), (40, z2n), (58, z2v), (67, z35), (96, z1k), (111, z1l), (20, z1d), (74, z2e), (95, z0n), (126, z2f), (18, z2l), (42, z2u), (46, z29), (44, z2x), (90, z3m), (125, z07), (125, z0b), (110, z05), (110, z09), (69, z3a), (112, z3c), (41, z31), (94, z33), (43, z3k)]
noncomputable def lt19 : List ((Nat × Nat) × (Nat → St → Option (Bool × LO))) := [((20, 2), z0p), ((74, 3), z0w), ((95, 4), z0d), ((18, 4), z13), ((90, 5), z34), ((125, 2), z01), ((125, 2), z03), ((41, 5), z1o), ((94, 5), z24), ((43, 5), z37), ((19, 2), z0g), ((19, 2), z0l)]
noncomputable def Γ19 : Ctx := ⟨tyTab, fnTab, tblSum tb19, tblLp lt19⟩
theorem tb19_ok : SumL Try.prog tb19 := SumL.cons z0s (SumL.cons z0f (SumL.cons z0t (SumL.cons z15 (SumL.cons z1f (SumL.cons z1e (SumL.cons z1p (SumL.cons z12 (SumL.cons z1r (SumL.cons z2q (SumL.cons z30 (SumL.cons z0e (SumL.cons z1m (SumL.cons z2a (SumL.cons z2k (SumL.cons z0x (SumL.cons z0y (SumL.cons z0v (SumL.cons z1g (SumL.cons z0h (SumL.cons z1i (SumL.cons z1n (SumL.cons z2d (SumL.cons z1b (SumL.cons z2i (SumL.cons z3b (SumL.cons z06 (SumL.cons z0a (SumL.cons z04 (SumL.cons z08 (SumL.cons z2w (SumL.cons z36 (SumL.cons z2p (SumL.cons z2t (SumL.cons z3e (SumL.nil)))))))))))))))))))))))))))))))))))
theorem lt19_ok : LpL Try.prog fnTab lt19 := LpL.cons z0k (LpL.cons z0q (LpL.cons z0c (LpL.cons z0r (LpL.cons z2m (LpL.cons z00 (LpL.cons z02 (LpL.cons z1c (LpL.cons z1j (LpL.cons z2y (LpL.cons z0i (LpL.cons z0o (LpL.nil))))))))))))
noncomputable def tb20 : List (Nat × (List PT → Option (Bool × AV × List Blk))) := [(129, z14), (133, z0m), (137, z16), (139, z2c), (25, z2h), (64, z2g), (68, z2r), (70, z1s), (78, z2s), (91, z39), (97, z3d), (119, z0j), (40, z2n), (58, z2v), (67, z35), (96, z1k), (111, z1l), (20, z1d), (74, z2e), (95, z0n), (126, z2f), (18, z2l), (42, z2u), (46, z29), (44, z2x), (90, z3m), (125, z07), (125, z0b), (110, z05), (110, z09), (69, z3a), (112, z3c), (41, z31), (94, z33), (43, z3k)]
noncomputable def lt20 : List ((Nat × Nat) × (Nat → St → Option (Bool × LO))) := [((20, 2), z0p), ((74, 3), z0w), ((95, 4), z0d), ((18, 4), z13), ((90, 5), z34), ((125, 2), z01), ((125, 2), z03), ((41, 5), z1o), ((94, 5), z24), ((43, 5), z37), ((19, 2), z0g), ((19, 2), z0l)]
noncomputable def Γ20 : Ctx := ⟨tyTab, fnTab, tblSum tb20, tblLp lt20⟩
theorem tb20_ok : SumL Try.prog tb20 := SumL.cons z0s (SumL.cons z0f (SumL.cons z0t (SumL.cons z15 (SumL.cons z1f (SumL.cons z1e (SumL.cons z1p (SumL.cons z12 (SumL.cons z1r (SumL.cons z2q (SumL.cons z30 (SumL.cons z0e (SumL.cons z1m (SumL.cons z2a (SumL.cons z2k (SumL.cons z0x (SumL.cons z0y (SumL.cons z0v (SumL.cons z1g (SumL.cons z0h (SumL.cons z1i (SumL.cons z1n (SumL.cons z2d (SumL.cons z1b (SumL.cons z2i (SumL.cons z3b (SumL.cons z06 (SumL.cons z0a (SumL.cons z04 (SumL.cons z08 (SumL.cons z2w (SumL.cons z36 (SumL.cons z2p (SumL.cons z2t (SumL.cons z3e (SumL.nil)))))))))))))))))))))))))))))))))))
theorem lt20_ok : LpL Try.prog fnTab lt20 := LpL.cons z0k (LpL.cons z0q (LpL.cons z0c (LpL.cons z0r (LpL.cons z2m (LpL.cons z00 (LpL.cons z02 (LpL.cons z1c (LpL.cons z1j (LpL.cons z2y (LpL.cons z0i (LpL.cons z0o (LpL.nil))))))))))))
noncomputable def z0u : Nat → St → Option (Bool × LO)
  | 25, (St.mk [(0, (AV.v (TV.one (At.sl 15 0 an 1)))), (1, (AV.v (TV.one (At.int IntKind.i64 k)))), (5, (AV.v (TV.one (At.int IntKind.i64 i))))] [(Blk.mk Bool.false (Body.fl FloatKind.f32 b0)), (Blk.mk Bool.false (Body.fl FloatKind.f32 b1)), (Blk.mk Bool.false (Body.fl FloatKind.f32 b2)), (Blk.mk Bool.false (Body.fl FloatKind.f32 b3)), (Blk.mk Bool.false (Body.fl FloatKind.f32 b4)), (Blk.mk Bool.false (Body.fl FloatKind.f32 b5)), (Blk.mk Bool.true (Body.cells [(At.vw 0 0 q0h 1), (At.vw 1 0 q0d 1), (At.vw 2 0 q0e 1)])), (Blk.mk Bool.true (Body.cells [(At.vw 3 0 q0i 1), (At.vw 4 0 q0g 1), (At.vw 5 0 q0f 1)])), (Blk.mk Bool.true (Body.cells [(At.sl 9 0 q0w 1), (At.sl 10 0 q0u 1), (At.sl 11 0 q0v 1)])), (Blk.mk Bool.true (Body.fl FloatKind.f32 b9)), (Blk.mk Bool.true (Body.fl FloatKind.f32 b10)), (Blk.mk Bool.true (Body.fl FloatKind.f32 b11)), (Blk.mk Bool.true (Body.cells [(At.sl 13 0 q0m 1), (At.sl 14 0 q0n 1), (At.sl 15 0 q0q 1)])), (Blk.mk Bool.true (Body.fl FloatKind.f32 b13)), (Blk.mk Bool.true (Body.fl FloatKind.f32 b14)), (Blk.mk Bool.true (Body.fl FloatKind.f32 b15)), (Blk.mk Bool.true (Body.cells [(At.sl 17 0 q0r 1), (At.sl 18 0 q0p 1), (At.sl 19 0 q0o 1)])), (Blk.mk Bool.true (Body.fl FloatKind.f32 b17)), (Blk.mk Bool.true (Body.fl FloatKind.f32 b18)), (Blk.mk Bool.true (Body.fl FloatKind.f32 b19)), (Blk.mk Bool.true (Body.cells [(At.sl 21 0 q0z 1), (At.sl 22 0 q0x 1), (At.sl 23 0 q0y 1)])), (Blk.mk Bool.true (Body.fl FloatKind.f32 b21)), (Blk.mk Bool.true (Body.fl FloatKind.f32 b22)), (Blk.mk Bool.true (Body.fl FloatKind.f32 b23)), (Blk.mk Bool.true (Body.cells [(At.sl 13 0 q1c 1), (At.sl 14 0 q1a 1), (At.sl 15 0 q1b 1)]))]) => some ((z5i an k i b15), (LO.one (Ex.exit 0) (St.mk [(0, (AV.v (TV.one (At.sl 15 0 an 1)))), (1, (AV.v (TV.one (At.int IntKind.i64 (z4t an k i b15))))), (5, (AV.v (TV.one (At.int IntKind.i64 (z72 an k i b15))))), (9, (AV.v (TV.one (At.bool (z73 an k i b15)))))] [(Blk.mk Bool.false (Body.fl FloatKind.f32 b0)), (Blk.mk Bool.false (Body.fl FloatKind.f32 b1)), (Blk.mk Bool.false (Body.fl FloatKind.f32 b2)), (Blk.mk Bool.false (Body.fl FloatKind.f32 b3)), (Blk.mk Bool.false (Body.fl FloatKind.f32 b4)), (Blk.mk Bool.false (Body.fl FloatKind.f32 b5)), (Blk.mk Bool.true (Body.cells [(At.vw 0 0 q0h 1), (At.vw 1 0 q0d 1), (At.vw 2 0 q0e 1)])), (Blk.mk Bool.true (Body.cells [(At.vw 3 0 q0i 1), (At.vw 4 0 q0g 1), (At.vw 5 0 q0f 1)])), (Blk.mk Bool.true (Body.cells [(At.sl 9 0 q0w 1), (At.sl 10 0 q0u 1), (At.sl 11 0 q0v 1)])), (Blk.mk Bool.true (Body.fl FloatKind.f32 b9)), (Blk.mk Bool.true (Body.fl FloatKind.f32 b10)), (Blk.mk Bool.true (Body.fl FloatKind.f32 b11)), (Blk.mk Bool.true (Body.cells [(At.sl 13 0 q0m 1), (At.sl 14 0 q0n 1), (At.sl 15 0 q0q 1)])), (Blk.mk Bool.true (Body.fl FloatKind.f32 b13)), (Blk.mk Bool.true (Body.fl FloatKind.f32 b14)), (Blk.mk Bool.true (Body.fl FloatKind.f32 (z6x an k i b15))), (Blk.mk Bool.true (Body.cells [(At.sl 17 0 q0r 1), (At.sl 18 0 q0p 1), (At.sl 19 0 q0o 1)])), (Blk.mk Bool.true (Body.fl FloatKind.f32 b17)), (Blk.mk Bool.true (Body.fl FloatKind.f32 b18)), (Blk.mk Bool.true (Body.fl FloatKind.f32 b19)), (Blk.mk Bool.true (Body.cells [(At.sl 21 0 q0z 1), (At.sl 22 0 q0x 1), (At.sl 23 0 q0y 1)])), (Blk.mk Bool.true (Body.fl FloatKind.f32 b21)), (Blk.mk Bool.true (Body.fl FloatKind.f32 b22)), (Blk.mk Bool.true (Body.fl FloatKind.f32 b23)), (Blk.mk Bool.true (Body.cells [(At.sl 13 0 q1c 1), (At.sl 14 0 q1a 1), (At.sl 15 0 q1b 1)]))])))
  | _, _ => none
def z5p (an : Nat) (b0 : List Nat) (b1 : List Nat) (b2 : List Nat) (b3 : List Nat) (b4 : List Nat) (b5 : List Nat) (q0h : Nat) (q0d : Nat) (q0e : Nat) (q0i : Nat) (q0g : Nat) (q0f : Nat) (q0w : Nat) (q0u : Nat) (q0v : Nat) (b9 : List Nat) (b10 : List Nat) (b11 : List Nat) (q0m : Nat) (q0n : Nat) (q0q : Nat) (b13 : List Nat) (b14 : List Nat) (q0r : Nat) (q0p : Nat) (q0o : Nat) (b17 : List Nat) (b18 : List Nat) (b19 : List Nat) (q0z : Nat) (q0x : Nat) (q0y : Nat) (b21 : List Nat) (b22 : List Nat) (b23 : List Nat) (q1c : Nat) (q1a : Nat) (q1b : Nat) : Option ((Int × Int × Bool × (List Nat))) → Option (Ex × St)
  | none => none
  | some r => some ((Ex.exit 0), (St.mk [(0, (AV.v (TV.one (At.sl 15 0 an 1)))), (1, (AV.v (TV.one (At.int IntKind.i64 r.1)))), (5, (AV.v (TV.one (At.int IntKind.i64 r.2.1)))), (9, (AV.v (TV.one (At.bool r.2.2.1))))] [(Blk.mk Bool.false (Body.fl FloatKind.f32 b0)), (Blk.mk Bool.false (Body.fl FloatKind.f32 b1)), (Blk.mk Bool.false (Body.fl FloatKind.f32 b2)), (Blk.mk Bool.false (Body.fl FloatKind.f32 b3)), (Blk.mk Bool.false (Body.fl FloatKind.f32 b4)), (Blk.mk Bool.false (Body.fl FloatKind.f32 b5)), (Blk.mk Bool.true (Body.cells [(At.vw 0 0 q0h 1), (At.vw 1 0 q0d 1), (At.vw 2 0 q0e 1)])), (Blk.mk Bool.true (Body.cells [(At.vw 3 0 q0i 1), (At.vw 4 0 q0g 1), (At.vw 5 0 q0f 1)])), (Blk.mk Bool.true (Body.cells [(At.sl 9 0 q0w 1), (At.sl 10 0 q0u 1), (At.sl 11 0 q0v 1)])), (Blk.mk Bool.true (Body.fl FloatKind.f32 b9)), (Blk.mk Bool.true (Body.fl FloatKind.f32 b10)), (Blk.mk Bool.true (Body.fl FloatKind.f32 b11)), (Blk.mk Bool.true (Body.cells [(At.sl 13 0 q0m 1), (At.sl 14 0 q0n 1), (At.sl 15 0 q0q 1)])), (Blk.mk Bool.true (Body.fl FloatKind.f32 b13)), (Blk.mk Bool.true (Body.fl FloatKind.f32 b14)), (Blk.mk Bool.true (Body.fl FloatKind.f32 r.2.2.2)), (Blk.mk Bool.true (Body.cells [(At.sl 17 0 q0r 1), (At.sl 18 0 q0p 1), (At.sl 19 0 q0o 1)])), (Blk.mk Bool.true (Body.fl FloatKind.f32 b17)), (Blk.mk Bool.true (Body.fl FloatKind.f32 b18)), (Blk.mk Bool.true (Body.fl FloatKind.f32 b19)), (Blk.mk Bool.true (Body.cells [(At.sl 21 0 q0z 1), (At.sl 22 0 q0x 1), (At.sl 23 0 q0y 1)])), (Blk.mk Bool.true (Body.fl FloatKind.f32 b21)), (Blk.mk Bool.true (Body.fl FloatKind.f32 b22)), (Blk.mk Bool.true (Body.fl FloatKind.f32 b23)), (Blk.mk Bool.true (Body.cells [(At.sl 13 0 q1c 1), (At.sl 14 0 q1a 1), (At.sl 15 0 q1b 1)]))]))
def zdk (an : Nat) (b0 : List Nat) (b1 : List Nat) (b2 : List Nat) (b3 : List Nat) (b4 : List Nat) (b5 : List Nat) (q0h : Nat) (q0d : Nat) (q0e : Nat) (q0i : Nat) (q0g : Nat) (q0f : Nat) (q0w : Nat) (q0u : Nat) (q0v : Nat) (b9 : List Nat) (b10 : List Nat) (b11 : List Nat) (q0m : Nat) (q0n : Nat) (q0q : Nat) (b13 : List Nat) (b14 : List Nat) (q0r : Nat) (q0p : Nat) (q0o : Nat) (b17 : List Nat) (b18 : List Nat) (b19 : List Nat) (q0z : Nat) (q0x : Nat) (q0y : Nat) (b21 : List Nat) (b22 : List Nat) (b23 : List Nat) (q1c : Nat) (q1a : Nat) (q1b : Nat) (x : Option ((Int × Int × Bool × (List Nat)))) : LO := (LO.one (Ex.exit 0) (St.mk [(0, (AV.v (TV.one (At.sl 15 0 an 1)))), (1, (AV.v (TV.one (At.int IntKind.i64 (x.getD default).1)))), (5, (AV.v (TV.one (At.int IntKind.i64 (x.getD default).2.1)))), (9, (AV.v (TV.one (At.bool (x.getD default).2.2.1))))] [(Blk.mk Bool.false (Body.fl FloatKind.f32 b0)), (Blk.mk Bool.false (Body.fl FloatKind.f32 b1)), (Blk.mk Bool.false (Body.fl FloatKind.f32 b2)), (Blk.mk Bool.false (Body.fl FloatKind.f32 b3)), (Blk.mk Bool.false (Body.fl FloatKind.f32 b4)), (Blk.mk Bool.false (Body.fl FloatKind.f32 b5)), (Blk.mk Bool.true (Body.cells [(At.vw 0 0 q0h 1), (At.vw 1 0 q0d 1), (At.vw 2 0 q0e 1)])), (Blk.mk Bool.true (Body.cells [(At.vw 3 0 q0i 1), (At.vw 4 0 q0g 1), (At.vw 5 0 q0f 1)])), (Blk.mk Bool.true (Body.cells [(At.sl 9 0 q0w 1), (At.sl 10 0 q0u 1), (At.sl 11 0 q0v 1)])), (Blk.mk Bool.true (Body.fl FloatKind.f32 b9)), (Blk.mk Bool.true (Body.fl FloatKind.f32 b10)), (Blk.mk Bool.true (Body.fl FloatKind.f32 b11)), (Blk.mk Bool.true (Body.cells [(At.sl 13 0 q0m 1), (At.sl 14 0 q0n 1), (At.sl 15 0 q0q 1)])), (Blk.mk Bool.true (Body.fl FloatKind.f32 b13)), (Blk.mk Bool.true (Body.fl FloatKind.f32 b14)), (Blk.mk Bool.true (Body.fl FloatKind.f32 (x.getD default).2.2.2)), (Blk.mk Bool.true (Body.cells [(At.sl 17 0 q0r 1), (At.sl 18 0 q0p 1), (At.sl 19 0 q0o 1)])), (Blk.mk Bool.true (Body.fl FloatKind.f32 b17)), (Blk.mk Bool.true (Body.fl FloatKind.f32 b18)), (Blk.mk Bool.true (Body.fl FloatKind.f32 b19)), (Blk.mk Bool.true (Body.cells [(At.sl 21 0 q0z 1), (At.sl 22 0 q0x 1), (At.sl 23 0 q0y 1)])), (Blk.mk Bool.true (Body.fl FloatKind.f32 b21)), (Blk.mk Bool.true (Body.fl FloatKind.f32 b22)), (Blk.mk Bool.true (Body.fl FloatKind.f32 b23)), (Blk.mk Bool.true (Body.cells [(At.sl 13 0 q1c 1), (At.sl 14 0 q1a 1), (At.sl 15 0 q1b 1)]))]))
theorem zeg (an : Nat) (b0 : List Nat) (b1 : List Nat) (b2 : List Nat) (b3 : List Nat) (b4 : List Nat) (b5 : List Nat) (q0h : Nat) (q0d : Nat) (q0e : Nat) (q0i : Nat) (q0g : Nat) (q0f : Nat) (q0w : Nat) (q0u : Nat) (q0v : Nat) (b9 : List Nat) (b10 : List Nat) (b11 : List Nat) (q0m : Nat) (q0n : Nat) (q0q : Nat) (b13 : List Nat) (b14 : List Nat) (q0r : Nat) (q0p : Nat) (q0o : Nat) (b17 : List Nat) (b18 : List Nat) (b19 : List Nat) (q0z : Nat) (q0x : Nat) (q0y : Nat) (b21 : List Nat) (b22 : List Nat) (b23 : List Nat) (q1c : Nat) (q1a : Nat) (q1b : Nat) : ∀ x : Option ((Int × Int × Bool × (List Nat))), x.isSome = true → (z5p an b0 b1 b2 b3 b4 b5 q0h q0d q0e q0i q0g q0f q0w q0u q0v b9 b10 b11 q0m q0n q0q b13 b14 q0r q0p q0o b17 b18 b19 q0z q0x q0y b21 b22 b23 q1c q1a q1b) x = some (pick (zdk an b0 b1 b2 b3 b4 b5 q0h q0d q0e q0i q0g q0f q0w q0u q0v b9 b10 b11 q0m q0n q0q b13 b14 q0r q0p q0o b17 b18 b19 q0z q0x q0y b21 b22 b23 q1c q1a q1b x))
  | none, h => by cases h
  | some r, _ => rfl
theorem zea (an : Nat) (k : Int) (i : Int) (b0 : List Nat) (b1 : List Nat) (b2 : List Nat) (b3 : List Nat) (b4 : List Nat) (b5 : List Nat) (q0h : Nat) (q0d : Nat) (q0e : Nat) (q0i : Nat) (q0g : Nat) (q0f : Nat) (q0w : Nat) (q0u : Nat) (q0v : Nat) (b9 : List Nat) (b10 : List Nat) (b11 : List Nat) (q0m : Nat) (q0n : Nat) (q0q : Nat) (b13 : List Nat) (b14 : List Nat) (b15 : List Nat) (q0r : Nat) (q0p : Nat) (q0o : Nat) (b17 : List Nat) (b18 : List Nat) (b19 : List Nat) (q0z : Nat) (q0x : Nat) (q0y : Nat) (b21 : List Nat) (b22 : List Nat) (b23 : List Nat) (q1c : Nat) (q1a : Nat) (q1b : Nat) (K : Ex → St → Option (Ex × St)) : evC (R := Ex × St) Γ20 (evFn Γ20 8 8) 19 25 fi19.nt fi19.live fi19.nl 8 (findL 2 (loopsIn fi19.code)) (St.mk [(0, (AV.v (TV.one (At.sl 15 0 an 1)))), (1, (AV.v (TV.one (At.int IntKind.i64 k)))), (5, (AV.v (TV.one (At.int IntKind.i64 i))))] [(Blk.mk Bool.false (Body.fl FloatKind.f32 b0)), (Blk.mk Bool.false (Body.fl FloatKind.f32 b1)), (Blk.mk Bool.false (Body.fl FloatKind.f32 b2)), (Blk.mk Bool.false (Body.fl FloatKind.f32 b3)), (Blk.mk Bool.false (Body.fl FloatKind.f32 b4)), (Blk.mk Bool.false (Body.fl FloatKind.f32 b5)), (Blk.mk Bool.true (Body.cells [(At.vw 0 0 q0h 1), (At.vw 1 0 q0d 1), (At.vw 2 0 q0e 1)])), (Blk.mk Bool.true (Body.cells [(At.vw 3 0 q0i 1), (At.vw 4 0 q0g 1), (At.vw 5 0 q0f 1)])), (Blk.mk Bool.true (Body.cells [(At.sl 9 0 q0w 1), (At.sl 10 0 q0u 1), (At.sl 11 0 q0v 1)])), (Blk.mk Bool.true (Body.fl FloatKind.f32 b9)), (Blk.mk Bool.true (Body.fl FloatKind.f32 b10)), (Blk.mk Bool.true (Body.fl FloatKind.f32 b11)), (Blk.mk Bool.true (Body.cells [(At.sl 13 0 q0m 1), (At.sl 14 0 q0n 1), (At.sl 15 0 q0q 1)])), (Blk.mk Bool.true (Body.fl FloatKind.f32 b13)), (Blk.mk Bool.true (Body.fl FloatKind.f32 b14)), (Blk.mk Bool.true (Body.fl FloatKind.f32 b15)), (Blk.mk Bool.true (Body.cells [(At.sl 17 0 q0r 1), (At.sl 18 0 q0p 1), (At.sl 19 0 q0o 1)])), (Blk.mk Bool.true (Body.fl FloatKind.f32 b17)), (Blk.mk Bool.true (Body.fl FloatKind.f32 b18)), (Blk.mk Bool.true (Body.fl FloatKind.f32 b19)), (Blk.mk Bool.true (Body.cells [(At.sl 21 0 q0z 1), (At.sl 22 0 q0x 1), (At.sl 23 0 q0y 1)])), (Blk.mk Bool.true (Body.fl FloatKind.f32 b21)), (Blk.mk Bool.true (Body.fl FloatKind.f32 b22)), (Blk.mk Bool.true (Body.fl FloatKind.f32 b23)), (Blk.mk Bool.true (Body.cells [(At.sl 13 0 q1c 1), (At.sl 14 0 q1a 1), (At.sl 15 0 q1b 1)]))]) K = z3y an k i b15 (fun k' i' b15' => K .normal (St.mk [(0, (AV.v (TV.one (At.sl 15 0 an 1)))), (1, (AV.v (TV.one (At.int IntKind.i64 k')))), (5, (AV.v (TV.one (At.int IntKind.i64 i'))))] [(Blk.mk Bool.false (Body.fl FloatKind.f32 b0)), (Blk.mk Bool.false (Body.fl FloatKind.f32 b1)), (Blk.mk Bool.false (Body.fl FloatKind.f32 b2)), (Blk.mk Bool.false (Body.fl FloatKind.f32 b3)), (Blk.mk Bool.false (Body.fl FloatKind.f32 b4)), (Blk.mk Bool.false (Body.fl FloatKind.f32 b5)), (Blk.mk Bool.true (Body.cells [(At.vw 0 0 q0h 1), (At.vw 1 0 q0d 1), (At.vw 2 0 q0e 1)])), (Blk.mk Bool.true (Body.cells [(At.vw 3 0 q0i 1), (At.vw 4 0 q0g 1), (At.vw 5 0 q0f 1)])), (Blk.mk Bool.true (Body.cells [(At.sl 9 0 q0w 1), (At.sl 10 0 q0u 1), (At.sl 11 0 q0v 1)])), (Blk.mk Bool.true (Body.fl FloatKind.f32 b9)), (Blk.mk Bool.true (Body.fl FloatKind.f32 b10)), (Blk.mk Bool.true (Body.fl FloatKind.f32 b11)), (Blk.mk Bool.true (Body.cells [(At.sl 13 0 q0m 1), (At.sl 14 0 q0n 1), (At.sl 15 0 q0q 1)])), (Blk.mk Bool.true (Body.fl FloatKind.f32 b13)), (Blk.mk Bool.true (Body.fl FloatKind.f32 b14)), (Blk.mk Bool.true (Body.fl FloatKind.f32 b15')), (Blk.mk Bool.true (Body.cells [(At.sl 17 0 q0r 1), (At.sl 18 0 q0p 1), (At.sl 19 0 q0o 1)])), (Blk.mk Bool.true (Body.fl FloatKind.f32 b17)), (Blk.mk Bool.true (Body.fl FloatKind.f32 b18)), (Blk.mk Bool.true (Body.fl FloatKind.f32 b19)), (Blk.mk Bool.true (Body.cells [(At.sl 21 0 q0z 1), (At.sl 22 0 q0x 1), (At.sl 23 0 q0y 1)])), (Blk.mk Bool.true (Body.fl FloatKind.f32 b21)), (Blk.mk Bool.true (Body.fl FloatKind.f32 b22)), (Blk.mk Bool.true (Body.fl FloatKind.f32 b23)), (Blk.mk Bool.true (Body.cells [(At.sl 13 0 q1c 1), (At.sl 14 0 q1a 1), (At.sl 15 0 q1b 1)]))])) (fun c0_ c1_ c2_ c3_ => K (Ex.exit 0) (St.mk [(0, (AV.v (TV.one (At.sl 15 0 an 1)))), (1, (AV.v (TV.one (At.int IntKind.i64 c0_)))), (5, (AV.v (TV.one (At.int IntKind.i64 c1_)))), (9, (AV.v (TV.one (At.bool c2_))))] [(Blk.mk Bool.false (Body.fl FloatKind.f32 b0)), (Blk.mk Bool.false (Body.fl FloatKind.f32 b1)), (Blk.mk Bool.false (Body.fl FloatKind.f32 b2)), (Blk.mk Bool.false (Body.fl FloatKind.f32 b3)), (Blk.mk Bool.false (Body.fl FloatKind.f32 b4)), (Blk.mk Bool.false (Body.fl FloatKind.f32 b5)), (Blk.mk Bool.true (Body.cells [(At.vw 0 0 q0h 1), (At.vw 1 0 q0d 1), (At.vw 2 0 q0e 1)])), (Blk.mk Bool.true (Body.cells [(At.vw 3 0 q0i 1), (At.vw 4 0 q0g 1), (At.vw 5 0 q0f 1)])), (Blk.mk Bool.true (Body.cells [(At.sl 9 0 q0w 1), (At.sl 10 0 q0u 1), (At.sl 11 0 q0v 1)])), (Blk.mk Bool.true (Body.fl FloatKind.f32 b9)), (Blk.mk Bool.true (Body.fl FloatKind.f32 b10)), (Blk.mk Bool.true (Body.fl FloatKind.f32 b11)), (Blk.mk Bool.true (Body.cells [(At.sl 13 0 q0m 1), (At.sl 14 0 q0n 1), (At.sl 15 0 q0q 1)])), (Blk.mk Bool.true (Body.fl FloatKind.f32 b13)), (Blk.mk Bool.true (Body.fl FloatKind.f32 b14)), (Blk.mk Bool.true (Body.fl FloatKind.f32 c3_)), (Blk.mk Bool.true (Body.cells [(At.sl 17 0 q0r 1), (At.sl 18 0 q0p 1), (At.sl 19 0 q0o 1)])), (Blk.mk Bool.true (Body.fl FloatKind.f32 b17)), (Blk.mk Bool.true (Body.fl FloatKind.f32 b18)), (Blk.mk Bool.true (Body.fl FloatKind.f32 b19)), (Blk.mk Bool.true (Body.cells [(At.sl 21 0 q0z 1), (At.sl 22 0 q0x 1), (At.sl 23 0 q0y 1)])), (Blk.mk Bool.true (Body.fl FloatKind.f32 b21)), (Blk.mk Bool.true (Body.fl FloatKind.f32 b22)), (Blk.mk Bool.true (Body.fl FloatKind.f32 b23)), (Blk.mk Bool.true (Body.cells [(At.sl 13 0 q1c 1), (At.sl 14 0 q1a 1), (At.sl 15 0 q1b 1)]))])) := by kernel_rfl
theorem ze9 (an : Nat) (b0 : List Nat) (b1 : List Nat) (b2 : List Nat) (b3 : List Nat) (b4 : List Nat) (b5 : List Nat) (q0h : Nat) (q0d : Nat) (q0e : Nat) (q0i : Nat) (q0g : Nat) (q0f : Nat) (q0w : Nat) (q0u : Nat) (q0v : Nat) (b9 : List Nat) (b10 : List Nat) (b11 : List Nat) (q0m : Nat) (q0n : Nat) (q0q : Nat) (b13 : List Nat) (b14 : List Nat) (q0r : Nat) (q0p : Nat) (q0o : Nat) (b17 : List Nat) (b18 : List Nat) (b19 : List Nat) (q0z : Nat) (q0x : Nat) (q0y : Nat) (b21 : List Nat) (b22 : List Nat) (b23 : List Nat) (q1c : Nat) (q1a : Nat) (q1b : Nat) : ∀ (n : Nat) (k : Int) (i : Int) (b15 : List Nat), iter 19 2 25 (evC (R := Ex × St) Γ20 (evFn Γ20 8 8) 19 25 fi19.nt fi19.live fi19.nl 8 (findL 2 (loopsIn fi19.code))) n (St.mk [(0, (AV.v (TV.one (At.sl 15 0 an 1)))), (1, (AV.v (TV.one (At.int IntKind.i64 k)))), (5, (AV.v (TV.one (At.int IntKind.i64 i))))] [(Blk.mk Bool.false (Body.fl FloatKind.f32 b0)), (Blk.mk Bool.false (Body.fl FloatKind.f32 b1)), (Blk.mk Bool.false (Body.fl FloatKind.f32 b2)), (Blk.mk Bool.false (Body.fl FloatKind.f32 b3)), (Blk.mk Bool.false (Body.fl FloatKind.f32 b4)), (Blk.mk Bool.false (Body.fl FloatKind.f32 b5)), (Blk.mk Bool.true (Body.cells [(At.vw 0 0 q0h 1), (At.vw 1 0 q0d 1), (At.vw 2 0 q0e 1)])), (Blk.mk Bool.true (Body.cells [(At.vw 3 0 q0i 1), (At.vw 4 0 q0g 1), (At.vw 5 0 q0f 1)])), (Blk.mk Bool.true (Body.cells [(At.sl 9 0 q0w 1), (At.sl 10 0 q0u 1), (At.sl 11 0 q0v 1)])), (Blk.mk Bool.true (Body.fl FloatKind.f32 b9)), (Blk.mk Bool.true (Body.fl FloatKind.f32 b10)), (Blk.mk Bool.true (Body.fl FloatKind.f32 b11)), (Blk.mk Bool.true (Body.cells [(At.sl 13 0 q0m 1), (At.sl 14 0 q0n 1), (At.sl 15 0 q0q 1)])), (Blk.mk Bool.true (Body.fl FloatKind.f32 b13)), (Blk.mk Bool.true (Body.fl FloatKind.f32 b14)), (Blk.mk Bool.true (Body.fl FloatKind.f32 b15)), (Blk.mk Bool.true (Body.cells [(At.sl 17 0 q0r 1), (At.sl 18 0 q0p 1), (At.sl 19 0 q0o 1)])), (Blk.mk Bool.true (Body.fl FloatKind.f32 b17)), (Blk.mk Bool.true (Body.fl FloatKind.f32 b18)), (Blk.mk Bool.true (Body.fl FloatKind.f32 b19)), (Blk.mk Bool.true (Body.cells [(At.sl 21 0 q0z 1), (At.sl 22 0 q0x 1), (At.sl 23 0 q0y 1)])), (Blk.mk Bool.true (Body.fl FloatKind.f32 b21)), (Blk.mk Bool.true (Body.fl FloatKind.f32 b22)), (Blk.mk Bool.true (Body.fl FloatKind.f32 b23)), (Blk.mk Bool.true (Body.cells [(At.sl 13 0 q1c 1), (At.sl 14 0 q1a 1), (At.sl 15 0 q1b 1)]))]) (fun e st => some (e, st)) = (z5p an b0 b1 b2 b3 b4 b5 q0h q0d q0e q0i q0g q0f q0w q0u q0v b9 b10 b11 q0m q0n q0q b13 b14 q0r q0p q0o b17 b18 b19 q0z q0x q0y b21 b22 b23 q1c q1a q1b) (z23 an n k i b15) := by
  intro n
  induction n with
  | zero => intros; rfl
  | succ n ih =>
    intro k i b15
    refine Eq.trans (iter_succ ..) (Eq.trans (zea an k i b0 b1 b2 b3 b4 b5 q0h q0d q0e q0i q0g q0f q0w q0u q0v b9 b10 b11 q0m q0n q0q b13 b14 b15 q0r q0p q0o b17 b18 b19 q0z q0x q0y b21 b22 b23 q1c q1a q1b (nextK 19 2 25 (evC (R := Ex × St) Γ20 (evFn Γ20 8 8) 19 25 fi19.nt fi19.live fi19.nl 8 (findL 2 (loopsIn fi19.code))) n (fun e st => some (e, st)))) (Eq.trans ?_ (zc1 (z5p an b0 b1 b2 b3 b4 b5 q0h q0d q0e q0i q0g q0f q0w q0u q0v b9 b10 b11 q0m q0n q0q b13 b14 q0r q0p q0o b17 b18 b19 q0z q0x q0y b21 b22 b23 q1c q1a q1b) rfl an k i b15 (fun k' i' b15' => z23 an n k' i' b15') (fun c0_ c1_ c2_ c3_ => some (c0_, c1_, c2_, c3_)))))
    exact congrArg (fun kn_ => z3y an k i b15 kn_ (fun c0_ c1_ c2_ c3_ => (z5p an b0 b1 b2 b3 b4 b5 q0h q0d q0e q0i q0g q0f q0w q0u q0v b9 b10 b11 q0m q0n q0q b13 b14 q0r q0p q0o b17 b18 b19 q0z q0x q0y b21 b22 b23 q1c q1a q1b) (some (c0_, c1_, c2_, c3_)))) (funext fun k' => funext fun i' => funext fun b15' => ih k' i' b15')
theorem z0z : LoopOne Try.prog fnTab 19 2 z0u := lp_of (Γ := Γ20) tyTab_ok (FnL.ok fnTab_ok _ _) (LpL.ok lt20_ok) (SumL.ok tb20_ok _) mixed (fi := fi19) (by kernel_rfl) (by kernel_rfl) (by
  intro lo st out hp
  unfold z0u at hp
  split at hp
  · rename_i an k i b0 b1 b2 b3 b4 b5 q0h q0d q0e q0i q0g q0f q0w q0u q0v b9 b10 b11 q0m q0n q0q b13 b14 b15 q0r q0p q0o b17 b18 b19 q0z q0x q0y b21 b22 b23 q1c q1a q1b
    injection hp with hp
    injection hp with h1 h2
    subst h2
    exact ⟨8, 8, big, Eq.trans (ze9 an b0 b1 b2 b3 b4 b5 q0h q0d q0e q0i q0g q0f q0w q0u q0v b9 b10 b11 q0m q0n q0q b13 b14 q0r q0p q0o b17 b18 b19 q0z q0x q0y b21 b22 b23 q1c q1a q1b big k i b15) (zeg an b0 b1 b2 b3 b4 b5 q0h q0d q0e q0i q0g q0f q0w q0u q0v b9 b10 b11 q0m q0n q0q b13 b14 q0r q0p q0o b17 b18 b19 q0z q0x q0y b21 b22 b23 q1c q1a q1b (z23 an big k i b15) h1)⟩
  · cases hp)
noncomputable def tb21 : List (Nat × (List PT → Option (Bool × AV × List Blk))) := [(129, z14), (133, z0m), (137, z16), (139, z2c), (25, z2h), (64, z2g), (68, z2r), (70, z1s), (78, z2s), (91, z39), (97, z3d), (119, z0j), (40, z2n), (58, z2v), (67, z35), (96, z1k), (111, z1l), (20, z1d), (74, z2e), (95, z0n), (126, z2f), (18, z2l), (42, z2u), (46, z29), (44, z2x), (90, z3m), (125, z07), (125, z0b), (110, z05), (110, z09), (69, z3a), (112, z3c), (41, z31), (94, z33), (43, z3k)]
noncomputable def lt21 : List ((Nat × Nat) × (Nat → St → Option (Bool × LO))) := [((20, 2), z0p), ((74, 3), z0w), ((95, 4), z0d), ((18, 4), z13), ((90, 5), z34), ((125, 2), z01), ((125, 2), z03), ((41, 5), z1o), ((94, 5), z24), ((43, 5), z37), ((19, 2), z0g), ((19, 2), z0l), ((19, 2), z0u)]
end Go.Proofs.Ytdmbbllcgpicbaa
