/-
  What functions answer: that the evaluator answers so. Printed by a program.
-/
import Derived.Test.YthaiinndikpmcaaBestsC
set_option linter.unusedVariables false
set_option linter.unusedSimpArgs false
set_option maxRecDepth 100000
set_option maxHeartbeats 4000000
namespace Go.Proofs.Ythaiinndikpmcaa
open Go Go.Rf
def zda : List PT → Option (Bool × AV × List Blk)
  | [.one (.s (.flt .f64 x))] => some (bnot (nanQ .f64 x), A1 (.flt .f64 (fint .down x)), [])
  | _ => none
theorem zid : SumOne Try.prog 68 zda := by
  intro pts v news hp w vals hv
  unfold zda at hp
  split at hp
  · rename_i x
    injection hp with hp
    injection hp with h1 hp
    injection hp with h2 h3
    subst h2
    subst h3
    obtain ⟨l, hl⟩ : ∃ l, l = vals.toList := ⟨_, rfl⟩
    rw [← hl] at hv
    cases hv with
    | cons a1 a2 =>
      cases a2
      obtain ⟨b, hb1, hb2, hb3⟩ := a1
      subst hb1
      rename_i hx
      have hvals : vals = #[.float .f64 b] := by rw [← Array.toList_inj, ← hl]
      subst hvals
      have hn : nanB .f64 b = false := by rw [← nanB_cn, hb3]; simpa [bnot, nanQ] using h1
      rw [cn_of_not hn] at hb3
      subst hb3
      refine .inl ⟨_, w, by (simp only [callFunc, Sem.run_bind, run_program, Result.andThen_ok, Try.func68]; change (do let v ← Extern.MathFloor.toIntegral "math.archFloor" .down #[.float .f64 b]; pure (.value v) : Sem Next).run Try.prog w = _; rw [Sem.run_bind, run_fint hn]; rfl), NoB, ⟨⟨(fun t b' h => by cases t <;> cases h), (fun t t' b1 b2 x x' _ h => by cases t <;> cases h)⟩, (fun t x h => by cases h), Fr.refl _ w⟩, fint_rel hn⟩
  · cases hp
def zbn : List PT → Option (Bool × AV × List Blk)
  | [.one (.s (.flt .f64 x))] => some (bnot (nanQ .f64 x), A1 (.int .u64 x), [])
  | _ => none
theorem zh1 : SumOne Try.prog 77 zbn := by
  intro pts v news hp w vals hv
  unfold zbn at hp
  split at hp
  · rename_i x
    injection hp with hp
    injection hp with h1 hp
    injection hp with h2 h3
    subst h2
    subst h3
    obtain ⟨l, hl⟩ : ∃ l, l = vals.toList := ⟨_, rfl⟩
    rw [← hl] at hv
    cases hv with
    | cons a1 a2 =>
      cases a2
      obtain ⟨b, hb1, hb2, hb3⟩ := a1
      subst hb1
      rename_i hx
      have hvals : vals = #[.float .f64 b] := by rw [← Array.toList_inj, ← hl]
      subst hvals
      have hn : nanB .f64 b = false := by rw [← nanB_cn, hb3]; simpa [bnot, nanQ] using h1
      rw [cn_of_not hn] at hb3
      subst hb3
      refine .inl ⟨_, w, by (simp only [callFunc, Sem.run_bind, run_program, Result.andThen_ok, Try.func77]; rfl), NoB, ⟨⟨(fun t b' h => by cases t <;> cases h), (fun t t' b1 b2 x x' _ h => by cases t <;> cases h)⟩, (fun t x h => by cases h), Fr.refl _ w⟩, rfl⟩
  · cases hp
def z9b : List PT → Option (Bool × AV × List Blk)
  | [.one (.s (.int .u64 x))] => some (okU .f64 x, A1 (.flt .f64 (cnI .f64 x)), [])
  | _ => none
theorem zf5 : SumOne Try.prog 83 z9b := by
  intro pts v news hp w vals hv
  unfold z9b at hp
  split at hp
  · rename_i x
    injection hp with hp
    injection hp with h1 hp
    injection hp with h2 h3
    subst h2
    subst h3
    obtain ⟨l, hl⟩ : ∃ l, l = vals.toList := ⟨_, rfl⟩
    rw [← hl] at hv
    cases hv with
    | cons a1 a2 =>
      cases a2
      have hb1 : _ = Value.int .u64 x := a1
      subst hb1
      rename_i hx
      have hvals : vals = #[.int .u64 x] := by rw [← Array.toList_inj, ← hl]
      subst hvals
      have hw := okU_lt h1
      refine .inl ⟨_, w, by (simp only [callFunc, Sem.run_bind, run_program, Result.andThen_ok, Try.func83]; rfl), NoB, ⟨⟨(fun t b' h => by cases t <;> cases h), (fun t t' b1 b2 x x' _ h => by cases t <;> cases h)⟩, (fun t x h => by cases h), Fr.refl _ w⟩, ⟨_, rfl, hw, rfl⟩⟩
  · cases hp
def zd5 : List PT → Option (Bool × AV × List Blk)
  | [.one (.s (.flt .f64 x))] => some (bnot (nanQ .f64 x), A1 (.flt .f64 (fint .zero x)), [])
  | _ => none
theorem zi9 : SumOne Try.prog 84 zd5 := by
  intro pts v news hp w vals hv
  unfold zd5 at hp
  split at hp
  · rename_i x
    injection hp with hp
    injection hp with h1 hp
    injection hp with h2 h3
    subst h2
    subst h3
    obtain ⟨l, hl⟩ : ∃ l, l = vals.toList := ⟨_, rfl⟩
    rw [← hl] at hv
    cases hv with
    | cons a1 a2 =>
      cases a2
      obtain ⟨b, hb1, hb2, hb3⟩ := a1
      subst hb1
      rename_i hx
      have hvals : vals = #[.float .f64 b] := by rw [← Array.toList_inj, ← hl]
      subst hvals
      have hn : nanB .f64 b = false := by rw [← nanB_cn, hb3]; simpa [bnot, nanQ] using h1
      rw [cn_of_not hn] at hb3
      subst hb3
      refine .inl ⟨_, w, by (simp only [callFunc, Sem.run_bind, run_program, Result.andThen_ok, Try.func84]; change (do let v ← Extern.MathFloor.toIntegral "math.archTrunc" .zero #[.float .f64 b]; pure (.value v) : Sem Next).run Try.prog w = _; rw [Sem.run_bind, run_fint hn]; rfl), NoB, ⟨⟨(fun t b' h => by cases t <;> cases h), (fun t t' b1 b2 x x' _ h => by cases t <;> cases h)⟩, (fun t x h => by cases h), Fr.refl _ w⟩, fint_rel hn⟩
  · cases hp
noncomputable def tb0 : List (Nat × (List PT → Option (Bool × AV × List Blk))) := [(68, zda), (77, zbn), (83, z9b), (84, zd5)]
noncomputable def lt0 : List ((Nat × Nat) × (Nat → St → Option (Bool × LO))) := []
noncomputable def Γ0 : Ctx := ⟨tyTab, fnTab, tblSum tb0, tblLp lt0⟩
theorem tb0_ok : SumL Try.prog tb0 := SumL.cons zid (SumL.cons zh1 (SumL.cons zf5 (SumL.cons zi9 (SumL.nil))))
theorem lt0_ok : LpL Try.prog fnTab lt0 := LpL.nil
noncomputable def zet : List PT → Option (Bool × AV × List Blk)
  | [.one (.row 1 q0e (.il .u8 q0j)), .one (.row 1 q1i (.il .u8 q1k))] => some ((zcx q0e q0j q1i q1k), ((AV.v (TV.one (At.bool (zc6 q0e q0j q1i q1k)))), []))
  | _ => none
def zi3 (q0e : Nat) (q0j : List Int) (q1i : Nat) (q1k : List Int) : Option (Bool) → Option (AV × List Blk)
  | some r => some ((AV.v (TV.one (At.bool r))), [])
  | none => none
theorem zmc (q0e : Nat) (q0j : List Int) (q1i : Nat) (q1k : List Int) : evFn Γ0 8 8 5 (impTs 0 [.one (.row 1 q0e (.il .u8 q0j)), .one (.row 1 q1i (.il .u8 q1k))]).1 (impTs 0 [.one (.row 1 q0e (.il .u8 q0j)), .one (.row 1 q1i (.il .u8 q1k))]).2 (expo (impTs 0 [.one (.row 1 q0e (.il .u8 q0j)), .one (.row 1 q1i (.il .u8 q1k))]).2.length) = z8c q0e q0j q1i q1k (fun c0_ => some ((AV.v (TV.one (At.bool c0_))), [])) := by kernel_rfl
theorem zlj : SumOne Try.prog 5 zet := sum_of (Γ := Γ0) (fuel := 8) (d := 8) tyTab_ok (FnL.ok fnTab_ok _ _) (LpL.ok lt0_ok) (SumL.ok tb0_ok _) mixed (by
  intro pts v news hp hc
  clear hc
  unfold zet at hp
  split at hp
  · rename_i q0e q0j q1i q1k
    exact Eq.trans (Eq.trans (zmc q0e q0j q1i q1k) (zkr q0e q0j q1i q1k (zi3 q0e q0j q1i q1k) rfl (fun c0_ => some c0_))) (fin_out (o := (zi3 q0e q0j q1i q1k)) (x := z8a q0e q0j q1i q1k) (d := default) (V := fun r => ((AV.v (TV.one (At.bool r))), [])) (fun r => rfl) hp)
  · cases hp)
noncomputable def zfh : List PT → Option (Bool × AV × List Blk)
  | [.one (.s (.flt .f64 a)), .one (.s (.flt .f64 b))] => some ((zac a b), ((AV.v (TV.one (At.flt .f64 (z8b a b)))), []))
  | _ => none
def zja (a : Nat) (b : Nat) : Option (Nat) → Option (AV × List Blk)
  | some r => some ((AV.v (TV.one (At.flt .f64 r))), [])
  | none => none
theorem zmp (a : Nat) (b : Nat) : evFn Γ0 8 8 10 (impTs 0 [.one (.s (.flt .f64 a)), .one (.s (.flt .f64 b))]).1 (impTs 0 [.one (.s (.flt .f64 a)), .one (.s (.flt .f64 b))]).2 (expo (impTs 0 [.one (.s (.flt .f64 a)), .one (.s (.flt .f64 b))]).2.length) = zbr a b (fun c0_ => some ((AV.v (TV.one (At.flt .f64 c0_))), [])) := by kernel_rfl
theorem zm0 : SumOne Try.prog 10 zfh := sum_of (Γ := Γ0) (fuel := 8) (d := 8) tyTab_ok (FnL.ok fnTab_ok _ _) (LpL.ok lt0_ok) (SumL.ok tb0_ok _) mixed (by
  intro pts v news hp hc
  clear hc
  unfold zfh at hp
  split at hp
  · rename_i a b
    exact Eq.trans (Eq.trans (zmp a b) (zlg a b (zja a b) rfl (fun c0_ => some c0_))) (fin_out (o := (zja a b)) (x := zbs a b) (d := default) (V := fun r => ((AV.v (TV.one (At.flt .f64 r))), [])) (fun r => rfl) hp)
  · cases hp)
noncomputable def zgb : List PT → Option (Bool × AV × List Blk)
  | [.one (.row 1 q0e (.il .u8 q0j)), .one (.s (.int .i64 k)), .one (.s (.int .i64 n_))] => some ((zcq q0e q0j k n_), ((AV.v (TV.one (At.int .i64 (za4 q0e q0j k n_)))), []))
  | _ => none
def zl2 (q0e : Nat) (q0j : List Int) (k : Int) (n_ : Int) : Option (Int) → Option (AV × List Blk)
  | some r => some ((AV.v (TV.one (At.int .i64 r))), [])
  | none => none
theorem zms (q0e : Nat) (q0j : List Int) (k : Int) (n_ : Int) : evFn Γ0 8 8 14 (impTs 0 [.one (.row 1 q0e (.il .u8 q0j)), .one (.s (.int .i64 k)), .one (.s (.int .i64 n_))]).1 (impTs 0 [.one (.row 1 q0e (.il .u8 q0j)), .one (.s (.int .i64 k)), .one (.s (.int .i64 n_))]).2 (expo (impTs 0 [.one (.row 1 q0e (.il .u8 q0j)), .one (.s (.int .i64 k)), .one (.s (.int .i64 n_))]).2.length) = zbb q0e q0j k n_ (fun c0_ => some ((AV.v (TV.one (At.int .i64 c0_))), [])) := by kernel_rfl
theorem zma : SumOne Try.prog 14 zgb := sum_of (Γ := Γ0) (fuel := 8) (d := 8) tyTab_ok (FnL.ok fnTab_ok _ _) (LpL.ok lt0_ok) (SumL.ok tb0_ok _) mixed (by
  intro pts v news hp hc
  clear hc
  unfold zgb at hp
  split at hp
  · rename_i q0e q0j k n_
    exact Eq.trans (Eq.trans (zms q0e q0j k n_) (zly q0e q0j k n_ (zl2 q0e q0j k n_) rfl (fun c0_ => some c0_))) (fin_out (o := (zl2 q0e q0j k n_)) (x := zba q0e q0j k n_) (d := default) (V := fun r => ((AV.v (TV.one (At.int .i64 r))), [])) (fun r => rfl) hp)
  · cases hp)
noncomputable def ze0 : List PT → Option (Bool × AV × List Blk)
  | [.one (.s (.flt .f32 x))] => some ((z1r x), ((AV.v (TV.one (At.bool (z1h x)))), []))
  | _ => none
def zfw (x : Nat) : Option (Bool) → Option (AV × List Blk)
  | some r => some ((AV.v (TV.one (At.bool r))), [])
  | none => none
theorem zm1 (x : Nat) : evFn Γ0 8 8 19 (impTs 0 [.one (.s (.flt .f32 x))]).1 (impTs 0 [.one (.s (.flt .f32 x))]).2 (expo (impTs 0 [.one (.s (.flt .f32 x))]).2.length) = z8x x (fun c0_ => some ((AV.v (TV.one (At.bool c0_))), [])) := by kernel_rfl
theorem zjq : SumOne Try.prog 19 ze0 := sum_of (Γ := Γ0) (fuel := 8) (d := 8) tyTab_ok (FnL.ok fnTab_ok _ _) (LpL.ok lt0_ok) (SumL.ok tb0_ok _) mixed (by
  intro pts v news hp hc
  clear hc
  unfold ze0 at hp
  split at hp
  · rename_i x
    exact Eq.trans (Eq.trans (zm1 x) (zin x (zfw x) rfl (fun c0_ => some c0_))) (fin_out (o := (zfw x)) (x := z8k x) (d := default) (V := fun r => ((AV.v (TV.one (At.bool r))), [])) (fun r => rfl) hp)
  · cases hp)
noncomputable def zdn : List PT → Option (Bool × AV × List Blk)
  | [.one (.s (.flt .f32 x)), .one (.s (.flt .f32 low)), .one (.s (.flt .f32 q1j))] => some ((z8y x low q1j), ((AV.v (TV.one (At.bool (z7v x low q1j)))), []))
  | _ => none
def zg2 (x : Nat) (low : Nat) (q1j : Nat) : Option (Bool) → Option (AV × List Blk)
  | some r => some ((AV.v (TV.one (At.bool r))), [])
  | none => none
theorem zlp (x : Nat) (low : Nat) (q1j : Nat) : evFn Γ0 8 8 37 (impTs 0 [.one (.s (.flt .f32 x)), .one (.s (.flt .f32 low)), .one (.s (.flt .f32 q1j))]).1 (impTs 0 [.one (.s (.flt .f32 x)), .one (.s (.flt .f32 low)), .one (.s (.flt .f32 q1j))]).2 (expo (impTs 0 [.one (.s (.flt .f32 x)), .one (.s (.flt .f32 low)), .one (.s (.flt .f32 q1j))]).2.length) = z76 x low q1j (fun c0_ => some ((AV.v (TV.one (At.bool c0_))), [])) := by kernel_rfl
theorem zjp : SumOne Try.prog 37 zdn := sum_of (Γ := Γ0) (fuel := 8) (d := 8) tyTab_ok (FnL.ok fnTab_ok _ _) (LpL.ok lt0_ok) (SumL.ok tb0_ok _) mixed (by
  intro pts v news hp hc
  clear hc
  unfold zdn at hp
  split at hp
  · rename_i x low q1j
    exact Eq.trans (Eq.trans (zlp x low q1j) (zi5 x low q1j (zg2 x low q1j) rfl (fun c0_ => some c0_))) (fin_out (o := (zg2 x low q1j)) (x := z6s x low q1j) (d := default) (V := fun r => ((AV.v (TV.one (At.bool r))), [])) (fun r => rfl) hp)
  · cases hp)
noncomputable def zfn : List PT → Option (Bool × AV × List Blk)
  | [.one (.s (.flt .f32 a)), .one (.s (.flt .f32 b)), .one (.s (.flt .f32 q19))] => some ((zbm a b q19), ((AV.v (TV.one (At.flt .f32 (zb9 a b q19)))), []))
  | _ => none
def zk1 (a : Nat) (b : Nat) (q19 : Nat) : Option (Nat) → Option (AV × List Blk)
  | some r => some ((AV.v (TV.one (At.flt .f32 r))), [])
  | none => none
theorem zmn (a : Nat) (b : Nat) (q19 : Nat) : evFn Γ0 8 8 41 (impTs 0 [.one (.s (.flt .f32 a)), .one (.s (.flt .f32 b)), .one (.s (.flt .f32 q19))]).1 (impTs 0 [.one (.s (.flt .f32 a)), .one (.s (.flt .f32 b)), .one (.s (.flt .f32 q19))]).2 (expo (impTs 0 [.one (.s (.flt .f32 a)), .one (.s (.flt .f32 b)), .one (.s (.flt .f32 q19))]).2.length) = zbw a b q19 (fun c0_ => some ((AV.v (TV.one (At.flt .f32 c0_))), [])) := by kernel_rfl
theorem zlt : SumOne Try.prog 41 zfn := sum_of (Γ := Γ0) (fuel := 8) (d := 8) tyTab_ok (FnL.ok fnTab_ok _ _) (LpL.ok lt0_ok) (SumL.ok tb0_ok _) mixed (by
  intro pts v news hp hc
  clear hc
  unfold zfn at hp
  split at hp
  · rename_i a b q19
    exact Eq.trans (Eq.trans (zmn a b q19) (zlb a b q19 (zk1 a b q19) rfl (fun c0_ => some c0_))) (fin_out (o := (zk1 a b q19)) (x := zbq a b q19) (d := default) (V := fun r => ((AV.v (TV.one (At.flt .f32 r))), [])) (fun r => rfl) hp)
  · cases hp)
noncomputable def zev : List PT → Option (Bool × AV × List Blk)
  | [] => some (zb7, ((AV.v (TV.agg [(At.sl 0 0 0 1), (At.sl 1 0 0 1), (At.sl 2 0 0 1)])), [(Blk.mk Bool.true (Body.fl .f32 z25)), (Blk.mk Bool.true (Body.fl .f32 z26)), (Blk.mk Bool.true (Body.fl .f32 z27))]))
  | _ => none
def zi0  : Option ((List Nat) × (List Nat) × (List Nat)) → Option (AV × List Blk)
  | some r => some ((AV.v (TV.agg [(At.sl 0 0 0 1), (At.sl 1 0 0 1), (At.sl 2 0 0 1)])), [(Blk.mk Bool.true (Body.fl .f32 r.1)), (Blk.mk Bool.true (Body.fl .f32 r.2.1)), (Blk.mk Bool.true (Body.fl .f32 r.2.2))])
  | none => none
theorem zmj  : evFn Γ0 8 8 49 (impTs 0 []).1 (impTs 0 []).2 (expo (impTs 0 []).2.length) = zb5 (fun c0_ c1_ c2_ => some ((AV.v (TV.agg [(At.sl 0 0 0 1), (At.sl 1 0 0 1), (At.sl 2 0 0 1)])), [(Blk.mk Bool.true (Body.fl .f32 c0_)), (Blk.mk Bool.true (Body.fl .f32 c1_)), (Blk.mk Bool.true (Body.fl .f32 c2_))])) := by kernel_rfl
theorem zli : SumOne Try.prog 49 zev := sum_of (Γ := Γ0) (fuel := 8) (d := 8) tyTab_ok (FnL.ok fnTab_ok _ _) (LpL.ok lt0_ok) (SumL.ok tb0_ok _) mixed (by
  intro pts v news hp hc
  clear hc
  unfold zev at hp
  split at hp
  · exact Eq.trans (Eq.trans (zmj) (zkq  zi0 rfl (fun c0_ c1_ c2_ => some (c0_, c1_, c2_)))) (fin_out (o := zi0) (x := z62) (d := default) (V := fun r => ((AV.v (TV.agg [(At.sl 0 0 0 1), (At.sl 1 0 0 1), (At.sl 2 0 0 1)])), [(Blk.mk Bool.true (Body.fl .f32 r.1)), (Blk.mk Bool.true (Body.fl .f32 r.2.1)), (Blk.mk Bool.true (Body.fl .f32 r.2.2))])) (fun r => rfl) hp)
  · cases hp)
noncomputable def zd2 : List PT → Option (Bool × AV × List Blk)
  | [.one (.s (.flt .f64 x))] => some ((zaz x), ((AV.v (TV.one (At.flt .f32 (z9l x)))), []))
  | _ => none
def zfi (x : Nat) : Option (Nat) → Option (AV × List Blk)
  | some r => some ((AV.v (TV.one (At.flt .f32 r))), [])
  | none => none
theorem zl8 (x : Nat) : evFn Γ0 8 8 72 (impTs 0 [.one (.s (.flt .f64 x))]).1 (impTs 0 [.one (.s (.flt .f64 x))]).2 (expo (impTs 0 [.one (.s (.flt .f64 x))]).2.length) = z6c x (fun c0_ => some ((AV.v (TV.one (At.flt .f32 c0_))), [])) := by kernel_rfl
theorem zit : SumOne Try.prog 72 zd2 := sum_of (Γ := Γ0) (fuel := 8) (d := 8) tyTab_ok (FnL.ok fnTab_ok _ _) (LpL.ok lt0_ok) (SumL.ok tb0_ok _) mixed (by
  intro pts v news hp hc
  clear hc
  unfold zd2 at hp
  split at hp
  · rename_i x
    exact Eq.trans (Eq.trans (zl8 x) (zhh x (zfi x) rfl (fun c0_ => some c0_))) (fin_out (o := (zfi x)) (x := z6b x) (d := default) (V := fun r => ((AV.v (TV.one (At.flt .f32 r))), [])) (fun r => rfl) hp)
  · cases hp)
noncomputable def zhp : List PT → Option (Bool × AV × List Blk)
  | [] => some (zf8, ((AV.v (TV.one (At.flt .f64 zec))), []))
  | _ => none
def zll  : Option (Nat) → Option (AV × List Blk)
  | some r => some ((AV.v (TV.one (At.flt .f64 r))), [])
  | none => none
theorem zmu  : evFn Γ0 8 8 79 (impTs 0 []).1 (impTs 0 []).2 (expo (impTs 0 []).2.length) = zc2 (fun c0_ => some ((AV.v (TV.one (At.flt .f64 c0_))), [])) := by kernel_rfl
theorem zmd : SumOne Try.prog 79 zhp := sum_of (Γ := Γ0) (fuel := 8) (d := 8) tyTab_ok (FnL.ok fnTab_ok _ _) (LpL.ok lt0_ok) (SumL.ok tb0_ok _) mixed (by
  intro pts v news hp hc
  clear hc
  unfold zhp at hp
  split at hp
  · exact Eq.trans (Eq.trans (zmu) (zm8  zll rfl (fun c0_ => some c0_))) (fin_out (o := zll) (x := zc0) (d := default) (V := fun r => ((AV.v (TV.one (At.flt .f64 r))), [])) (fun r => rfl) hp)
  · cases hp)
noncomputable def tb1 : List (Nat × (List PT → Option (Bool × AV × List Blk))) := (5, zet) :: (10, zfh) :: (14, zgb) :: (19, ze0) :: (37, zdn) :: (41, zfn) :: (49, zev) :: (72, zd2) :: (79, zhp) :: tb0
noncomputable def lt1 : List ((Nat × Nat) × (Nat → St → Option (Bool × LO))) := lt0
noncomputable def Γ1 : Ctx := ⟨tyTab, fnTab, tblSum tb1, tblLp lt1⟩
theorem tb1_ok : SumL Try.prog tb1 := SumL.cons zlj (SumL.cons zm0 (SumL.cons zma (SumL.cons zjq (SumL.cons zjp (SumL.cons zlt (SumL.cons zli (SumL.cons zit (SumL.cons zmd (tb0_ok)))))))))
theorem lt1_ok : LpL Try.prog fnTab lt1 := lt0_ok
noncomputable def ze9 : List PT → Option (Bool × AV × List Blk)
  | [.one (.s (.flt .f32 x))] => some ((z5k x), ((AV.tup [(TV.one (At.flt .f32 (z4o x))), (TV.one (At.bool (z4q x)))]), []))
  | _ => none
def zgx (x : Nat) : Option (Nat × Bool) → Option (AV × List Blk)
  | some r => some ((AV.tup [(TV.one (At.flt .f32 r.1)), (TV.one (At.bool r.2))]), [])
  | none => none
theorem zm3 (x : Nat) : evFn Γ1 8 8 30 (impTs 0 [.one (.s (.flt .f32 x))]).1 (impTs 0 [.one (.s (.flt .f32 x))]).2 (expo (impTs 0 [.one (.s (.flt .f32 x))]).2.length) = z7j x (fun c0_ c1_ => some ((AV.tup [(TV.one (At.flt .f32 c0_)), (TV.one (At.bool c1_))]), [])) := by kernel_rfl
theorem zl0 : SumOne Try.prog 30 ze9 := sum_of (Γ := Γ1) (fuel := 8) (d := 8) tyTab_ok (FnL.ok fnTab_ok _ _) (LpL.ok lt1_ok) (SumL.ok tb1_ok _) mixed (by
  intro pts v news hp hc
  clear hc
  unfold ze9 at hp
  split at hp
  · rename_i x
    exact Eq.trans (Eq.trans (zm3 x) (zjj x (zgx x) rfl (fun c0_ c1_ => some (c0_, c1_)))) (fin_out (o := (zgx x)) (x := z6d x) (d := default) (V := fun r => ((AV.tup [(TV.one (At.flt .f32 r.1)), (TV.one (At.bool r.2))]), [])) (fun r => rfl) hp)
  · cases hp)
noncomputable def zbt : List PT → Option (Bool × AV × List Blk)
  | [.one (.s (.flt .f32 x))] => some ((z8d x), ((AV.v (TV.one (At.bool (z7y x)))), []))
  | _ => none
def zem (x : Nat) : Option (Bool) → Option (AV × List Blk)
  | some r => some ((AV.v (TV.one (At.bool r))), [])
  | none => none
theorem zkb (x : Nat) : evFn Γ1 8 8 54 (impTs 0 [.one (.s (.flt .f32 x))]).1 (impTs 0 [.one (.s (.flt .f32 x))]).2 (expo (impTs 0 [.one (.s (.flt .f32 x))]).2.length) = z5m x (fun c0_ => some ((AV.v (TV.one (At.bool c0_))), [])) := by kernel_rfl
theorem zgw : SumOne Try.prog 54 zbt := sum_of (Γ := Γ1) (fuel := 8) (d := 8) tyTab_ok (FnL.ok fnTab_ok _ _) (LpL.ok lt1_ok) (SumL.ok tb1_ok _) mixed (by
  intro pts v news hp hc
  clear hc
  unfold zbt at hp
  split at hp
  · rename_i x
    exact Eq.trans (Eq.trans (zkb x) (zg6 x (zem x) rfl (fun c0_ => some c0_))) (fin_out (o := (zem x)) (x := z5f x) (d := default) (V := fun r => ((AV.v (TV.one (At.bool r))), [])) (fun r => rfl) hp)
  · cases hp)
noncomputable def zeb : List PT → Option (Bool × AV × List Blk)
  | [.one (.s (.flt .f32 x))] => some ((zc5 x), ((AV.v (TV.one (At.bool (zbf x)))), []))
  | _ => none
def zh2 (x : Nat) : Option (Bool) → Option (AV × List Blk)
  | some r => some ((AV.v (TV.one (At.bool r))), [])
  | none => none
theorem zm2 (x : Nat) : evFn Γ1 8 8 56 (impTs 0 [.one (.s (.flt .f32 x))]).1 (impTs 0 [.one (.s (.flt .f32 x))]).2 (expo (impTs 0 [.one (.s (.flt .f32 x))]).2.length) = z7l x (fun c0_ => some ((AV.v (TV.one (At.bool c0_))), [])) := by kernel_rfl
theorem zkp : SumOne Try.prog 56 zeb := sum_of (Γ := Γ1) (fuel := 8) (d := 8) tyTab_ok (FnL.ok fnTab_ok _ _) (LpL.ok lt1_ok) (SumL.ok tb1_ok _) mixed (by
  intro pts v news hp hc
  clear hc
  unfold zeb at hp
  split at hp
  · rename_i x
    exact Eq.trans (Eq.trans (zm2 x) (zj7 x (zh2 x) rfl (fun c0_ => some c0_))) (fin_out (o := (zh2 x)) (x := z7m x) (d := default) (V := fun r => ((AV.v (TV.one (At.bool r))), [])) (fun r => rfl) hp)
  · cases hp)
noncomputable def tb2 : List (Nat × (List PT → Option (Bool × AV × List Blk))) := (30, ze9) :: (54, zbt) :: (56, zeb) :: tb1
noncomputable def lt2 : List ((Nat × Nat) × (Nat → St → Option (Bool × LO))) := lt1
noncomputable def Γ2 : Ctx := ⟨tyTab, fnTab, tblSum tb2, tblLp lt2⟩
theorem tb2_ok : SumL Try.prog tb2 := SumL.cons zl0 (SumL.cons zgw (SumL.cons zkp (tb1_ok)))
theorem lt2_ok : LpL Try.prog fnTab lt2 := lt1_ok
noncomputable def zcj : List PT → Option (Bool × AV × List Blk)
  | [.one (.s (.flt .f32 x))] => some ((z9n x), ((AV.v (TV.one (At.bool (z8o x)))), []))
  | _ => none
def zey (x : Nat) : Option (Bool) → Option (AV × List Blk)
  | some r => some ((AV.v (TV.one (At.bool r))), [])
  | none => none
theorem zkz (x : Nat) : evFn Γ2 8 8 55 (impTs 0 [.one (.s (.flt .f32 x))]).1 (impTs 0 [.one (.s (.flt .f32 x))]).2 (expo (impTs 0 [.one (.s (.flt .f32 x))]).2.length) = z5w x (fun c0_ => some ((AV.v (TV.one (At.bool c0_))), [])) := by kernel_rfl
theorem zhl : SumOne Try.prog 55 zcj := sum_of (Γ := Γ2) (fuel := 8) (d := 8) tyTab_ok (FnL.ok fnTab_ok _ _) (LpL.ok lt2_ok) (SumL.ok tb2_ok _) mixed (by
  intro pts v news hp hc
  clear hc
  unfold zcj at hp
  split at hp
  · rename_i x
    exact Eq.trans (Eq.trans (zkz x) (zhd x (zey x) rfl (fun c0_ => some c0_))) (fin_out (o := (zey x)) (x := z60 x) (d := default) (V := fun r => ((AV.v (TV.one (At.bool r))), [])) (fun r => rfl) hp)
  · cases hp)
noncomputable def zg0 (q0s : Nat) (to : Nat) (q0y : Nat) (t13 : Int) (t14 : Int) (b0 : List Nat) (b1 : List Nat) (b2 : List Nat) (q0i : Nat) (q0f : Nat) (q0h : Nat) (q0u : Nat) (q0v : Nat) (q0t : Nat) (b5 : List Nat) (b6 : List Nat) (b7 : List Nat) (q12 : Nat) (q13 : Nat) (q14 : Nat) (b9 : List Nat) (b10 : List Nat) (b11 : List Nat) : Bool × LO := ((zcy q0s to q0y t13 b0 b1 b2 q0f q0h t14 q12 q13 q14 b9 b10 b11), (LO.one (Ex.exit 0) (St.mk [(1, (AV.v (TV.one (At.flt .f32 q0s)))), (2, (AV.v (TV.one (At.flt .f32 to)))), (3, (AV.v (TV.one (At.ptr 3 0 3)))), (6, (AV.v (TV.one (At.ptr 4 0 3)))), (7, (AV.v (TV.one (At.ptr 8 0 3)))), (12, (AV.v (TV.one (At.vw 0 0 q0y 1)))), (13, (AV.v (TV.one (At.int .i64 t13)))), (14, (AV.v (TV.one (At.int .i64 (zd0 q0s to q0y t13 b0 b1 b2 q0f q0h t14 q12 q13 q14 b9 b10 b11))))), (15, (AV.v (TV.one (At.bool (zcz q0s to q0y t13 b0 b1 b2 q0f q0h t14 q12 q13 q14 b9 b10 b11)))))] [(Blk.mk Bool.false (Body.fl .f32 b0)), (Blk.mk Bool.false (Body.fl .f32 b1)), (Blk.mk Bool.false (Body.fl .f32 b2)), (Blk.mk Bool.true (Body.cells [(At.vw 0 0 q0i 1), (At.vw 1 0 q0f 1), (At.vw 2 0 q0h 1)])), (Blk.mk Bool.true (Body.cells [(At.sl 5 0 q0u 1), (At.sl 6 0 q0v 1), (At.sl 7 0 q0t 1)])), (Blk.mk Bool.true (Body.fl .f32 b5)), (Blk.mk Bool.true (Body.fl .f32 b6)), (Blk.mk Bool.true (Body.fl .f32 b7)), (Blk.mk Bool.true (Body.cells [(At.sl 9 0 (zan q0s to q0y t13 b0 b1 b2 q0f q0h t14 q12 q13 q14 b9 b10 b11) 1), (At.sl 10 0 (zaq q0s to q0y t13 b0 b1 b2 q0f q0h t14 q12 q13 q14 b9 b10 b11) 1), (At.sl 11 0 (zal q0s to q0y t13 b0 b1 b2 q0f q0h t14 q12 q13 q14 b9 b10 b11) 1)])), (Blk.mk Bool.true (Body.fl .f32 (zat q0s to q0y t13 b0 b1 b2 q0f q0h t14 q12 q13 q14 b9 b10 b11))), (Blk.mk Bool.true (Body.fl .f32 (zay q0s to q0y t13 b0 b1 b2 q0f q0h t14 q12 q13 q14 b9 b10 b11))), (Blk.mk Bool.true (Body.fl .f32 (zb4 q0s to q0y t13 b0 b1 b2 q0f q0h t14 q12 q13 q14 b9 b10 b11)))])))
noncomputable def zi1 : Nat → St → Option (Bool × LO) := lpT 3 (pSt [(pTm 1 (pV (pOne (pFlt .f32)))), (pTm 2 (pV (pOne (pFlt .f32)))), (pTm 3 (pV (pOne (pPtr 3 (liN 0) 3)))), (pTm 6 (pV (pOne (pPtr 4 (liN 0) 3)))), (pTm 7 (pV (pOne (pPtr 8 (liN 0) 3)))), (pTm 12 (pV (pOne (pVw 0 (liN 0) 1)))), (pTm 13 (pV (pOne (pInt .i64)))), (pTm 14 (pV (pOne (pInt .i64))))] [(pBlk Bool.false (pFl .f32)), (pBlk Bool.false (pFl .f32)), (pBlk Bool.false (pFl .f32)), (pBlk Bool.true (pCells [(pVw 0 (liN 0) 1), (pVw 1 (liN 0) 1), (pVw 2 (liN 0) 1)])), (pBlk Bool.true (pCells [(pSl 5 (liN 0) 1), (pSl 6 (liN 0) 1), (pSl 7 (liN 0) 1)])), (pBlk Bool.true (pFl .f32)), (pBlk Bool.true (pFl .f32)), (pBlk Bool.true (pFl .f32)), (pBlk Bool.true (pCells [(pSl 9 (liN 0) 1), (pSl 10 (liN 0) 1), (pSl 11 (liN 0) 1)])), (pBlk Bool.true (pFl .f32)), (pBlk Bool.true (pFl .f32)), (pBlk Bool.true (pFl .f32))]) (fun hs => zg0 (hvN (hGet hs 0)) (hvN (hGet hs 1)) (hvN (hGet hs 2)) (hvI (hGet hs 3)) (hvI (hGet hs 4)) (hvLn (hGet hs 5)) (hvLn (hGet hs 6)) (hvLn (hGet hs 7)) (hvN (hGet hs 8)) (hvN (hGet hs 9)) (hvN (hGet hs 10)) (hvN (hGet hs 11)) (hvN (hGet hs 12)) (hvN (hGet hs 13)) (hvLn (hGet hs 14)) (hvLn (hGet hs 15)) (hvLn (hGet hs 16)) (hvN (hGet hs 17)) (hvN (hGet hs 18)) (hvN (hGet hs 19)) (hvLn (hGet hs 20)) (hvLn (hGet hs 21)) (hvLn (hGet hs 22)))
def zcw (q0s : Nat) (to : Nat) (q0y : Nat) (t13 : Int) (b0 : List Nat) (b1 : List Nat) (b2 : List Nat) (q0i : Nat) (q0f : Nat) (q0h : Nat) (q0u : Nat) (q0v : Nat) (q0t : Nat) (b5 : List Nat) (b6 : List Nat) (b7 : List Nat) : Option ((Int × Bool × Nat × Nat × Nat × (List Nat) × (List Nat) × (List Nat))) → Option (Ex × St)
  | none => none
  | some r => some ((Ex.exit 0), (St.mk [(1, (AV.v (TV.one (At.flt .f32 q0s)))), (2, (AV.v (TV.one (At.flt .f32 to)))), (3, (AV.v (TV.one (At.ptr 3 0 3)))), (6, (AV.v (TV.one (At.ptr 4 0 3)))), (7, (AV.v (TV.one (At.ptr 8 0 3)))), (12, (AV.v (TV.one (At.vw 0 0 q0y 1)))), (13, (AV.v (TV.one (At.int .i64 t13)))), (14, (AV.v (TV.one (At.int .i64 r.1)))), (15, (AV.v (TV.one (At.bool r.2.1))))] [(Blk.mk Bool.false (Body.fl .f32 b0)), (Blk.mk Bool.false (Body.fl .f32 b1)), (Blk.mk Bool.false (Body.fl .f32 b2)), (Blk.mk Bool.true (Body.cells [(At.vw 0 0 q0i 1), (At.vw 1 0 q0f 1), (At.vw 2 0 q0h 1)])), (Blk.mk Bool.true (Body.cells [(At.sl 5 0 q0u 1), (At.sl 6 0 q0v 1), (At.sl 7 0 q0t 1)])), (Blk.mk Bool.true (Body.fl .f32 b5)), (Blk.mk Bool.true (Body.fl .f32 b6)), (Blk.mk Bool.true (Body.fl .f32 b7)), (Blk.mk Bool.true (Body.cells [(At.sl 9 0 r.2.2.1 1), (At.sl 10 0 r.2.2.2.1 1), (At.sl 11 0 r.2.2.2.2.1 1)])), (Blk.mk Bool.true (Body.fl .f32 r.2.2.2.2.2.1)), (Blk.mk Bool.true (Body.fl .f32 r.2.2.2.2.2.2.1)), (Blk.mk Bool.true (Body.fl .f32 r.2.2.2.2.2.2.2))]))
def zm7 (q0s : Nat) (to : Nat) (q0y : Nat) (t13 : Int) (b0 : List Nat) (b1 : List Nat) (b2 : List Nat) (q0i : Nat) (q0f : Nat) (q0h : Nat) (q0u : Nat) (q0v : Nat) (q0t : Nat) (b5 : List Nat) (b6 : List Nat) (b7 : List Nat) (x : Option ((Int × Bool × Nat × Nat × Nat × (List Nat) × (List Nat) × (List Nat)))) : LO := (LO.one (Ex.exit 0) (St.mk [(1, (AV.v (TV.one (At.flt .f32 q0s)))), (2, (AV.v (TV.one (At.flt .f32 to)))), (3, (AV.v (TV.one (At.ptr 3 0 3)))), (6, (AV.v (TV.one (At.ptr 4 0 3)))), (7, (AV.v (TV.one (At.ptr 8 0 3)))), (12, (AV.v (TV.one (At.vw 0 0 q0y 1)))), (13, (AV.v (TV.one (At.int .i64 t13)))), (14, (AV.v (TV.one (At.int .i64 (x.getD default).1)))), (15, (AV.v (TV.one (At.bool (x.getD default).2.1))))] [(Blk.mk Bool.false (Body.fl .f32 b0)), (Blk.mk Bool.false (Body.fl .f32 b1)), (Blk.mk Bool.false (Body.fl .f32 b2)), (Blk.mk Bool.true (Body.cells [(At.vw 0 0 q0i 1), (At.vw 1 0 q0f 1), (At.vw 2 0 q0h 1)])), (Blk.mk Bool.true (Body.cells [(At.sl 5 0 q0u 1), (At.sl 6 0 q0v 1), (At.sl 7 0 q0t 1)])), (Blk.mk Bool.true (Body.fl .f32 b5)), (Blk.mk Bool.true (Body.fl .f32 b6)), (Blk.mk Bool.true (Body.fl .f32 b7)), (Blk.mk Bool.true (Body.cells [(At.sl 9 0 (x.getD default).2.2.1 1), (At.sl 10 0 (x.getD default).2.2.2.1 1), (At.sl 11 0 (x.getD default).2.2.2.2.1 1)])), (Blk.mk Bool.true (Body.fl .f32 (x.getD default).2.2.2.2.2.1)), (Blk.mk Bool.true (Body.fl .f32 (x.getD default).2.2.2.2.2.2.1)), (Blk.mk Bool.true (Body.fl .f32 (x.getD default).2.2.2.2.2.2.2))]))
theorem zmh (q0s : Nat) (to : Nat) (q0y : Nat) (t13 : Int) (b0 : List Nat) (b1 : List Nat) (b2 : List Nat) (q0i : Nat) (q0f : Nat) (q0h : Nat) (q0u : Nat) (q0v : Nat) (q0t : Nat) (b5 : List Nat) (b6 : List Nat) (b7 : List Nat) : ∀ x : Option ((Int × Bool × Nat × Nat × Nat × (List Nat) × (List Nat) × (List Nat))), x.isSome = true → (zcw q0s to q0y t13 b0 b1 b2 q0i q0f q0h q0u q0v q0t b5 b6 b7) x = some (pick (zm7 q0s to q0y t13 b0 b1 b2 q0i q0f q0h q0u q0v q0t b5 b6 b7 x))
  | none, h => by cases h
  | some r, _ => rfl
theorem zmg (q0s : Nat) (to : Nat) (q0y : Nat) (t13 : Int) (t14 : Int) (b0 : List Nat) (b1 : List Nat) (b2 : List Nat) (q0i : Nat) (q0f : Nat) (q0h : Nat) (q0u : Nat) (q0v : Nat) (q0t : Nat) (b5 : List Nat) (b6 : List Nat) (b7 : List Nat) (q12 : Nat) (q13 : Nat) (q14 : Nat) (b9 : List Nat) (b10 : List Nat) (b11 : List Nat) (K : Ex → St → Option (Ex × St)) : evC (R := Ex × St) Γ2 (evFn Γ2 8 8) 34 3 fi34.nt fi34.live fi34.nl 8 (findL 3 (loopsIn fi34.code)) (St.mk [(1, (AV.v (TV.one (At.flt .f32 q0s)))), (2, (AV.v (TV.one (At.flt .f32 to)))), (3, (AV.v (TV.one (At.ptr 3 0 3)))), (6, (AV.v (TV.one (At.ptr 4 0 3)))), (7, (AV.v (TV.one (At.ptr 8 0 3)))), (12, (AV.v (TV.one (At.vw 0 0 q0y 1)))), (13, (AV.v (TV.one (At.int .i64 t13)))), (14, (AV.v (TV.one (At.int .i64 t14))))] [(Blk.mk Bool.false (Body.fl .f32 b0)), (Blk.mk Bool.false (Body.fl .f32 b1)), (Blk.mk Bool.false (Body.fl .f32 b2)), (Blk.mk Bool.true (Body.cells [(At.vw 0 0 q0i 1), (At.vw 1 0 q0f 1), (At.vw 2 0 q0h 1)])), (Blk.mk Bool.true (Body.cells [(At.sl 5 0 q0u 1), (At.sl 6 0 q0v 1), (At.sl 7 0 q0t 1)])), (Blk.mk Bool.true (Body.fl .f32 b5)), (Blk.mk Bool.true (Body.fl .f32 b6)), (Blk.mk Bool.true (Body.fl .f32 b7)), (Blk.mk Bool.true (Body.cells [(At.sl 9 0 q12 1), (At.sl 10 0 q13 1), (At.sl 11 0 q14 1)])), (Blk.mk Bool.true (Body.fl .f32 b9)), (Blk.mk Bool.true (Body.fl .f32 b10)), (Blk.mk Bool.true (Body.fl .f32 b11))]) K = z55 q0s to q0y t13 b0 b1 b2 q0f q0h t14 q12 q13 q14 b9 b10 b11 (fun t14' q12' q13' q14' b9' b10' b11' => K .normal (St.mk [(1, (AV.v (TV.one (At.flt .f32 q0s)))), (2, (AV.v (TV.one (At.flt .f32 to)))), (3, (AV.v (TV.one (At.ptr 3 0 3)))), (6, (AV.v (TV.one (At.ptr 4 0 3)))), (7, (AV.v (TV.one (At.ptr 8 0 3)))), (12, (AV.v (TV.one (At.vw 0 0 q0y 1)))), (13, (AV.v (TV.one (At.int .i64 t13)))), (14, (AV.v (TV.one (At.int .i64 t14'))))] [(Blk.mk Bool.false (Body.fl .f32 b0)), (Blk.mk Bool.false (Body.fl .f32 b1)), (Blk.mk Bool.false (Body.fl .f32 b2)), (Blk.mk Bool.true (Body.cells [(At.vw 0 0 q0i 1), (At.vw 1 0 q0f 1), (At.vw 2 0 q0h 1)])), (Blk.mk Bool.true (Body.cells [(At.sl 5 0 q0u 1), (At.sl 6 0 q0v 1), (At.sl 7 0 q0t 1)])), (Blk.mk Bool.true (Body.fl .f32 b5)), (Blk.mk Bool.true (Body.fl .f32 b6)), (Blk.mk Bool.true (Body.fl .f32 b7)), (Blk.mk Bool.true (Body.cells [(At.sl 9 0 q12' 1), (At.sl 10 0 q13' 1), (At.sl 11 0 q14' 1)])), (Blk.mk Bool.true (Body.fl .f32 b9')), (Blk.mk Bool.true (Body.fl .f32 b10')), (Blk.mk Bool.true (Body.fl .f32 b11'))])) (fun c0_ c1_ c2_ c3_ c4_ c5_ c6_ c7_ => K (Ex.exit 0) (St.mk [(1, (AV.v (TV.one (At.flt .f32 q0s)))), (2, (AV.v (TV.one (At.flt .f32 to)))), (3, (AV.v (TV.one (At.ptr 3 0 3)))), (6, (AV.v (TV.one (At.ptr 4 0 3)))), (7, (AV.v (TV.one (At.ptr 8 0 3)))), (12, (AV.v (TV.one (At.vw 0 0 q0y 1)))), (13, (AV.v (TV.one (At.int .i64 t13)))), (14, (AV.v (TV.one (At.int .i64 c0_)))), (15, (AV.v (TV.one (At.bool c1_))))] [(Blk.mk Bool.false (Body.fl .f32 b0)), (Blk.mk Bool.false (Body.fl .f32 b1)), (Blk.mk Bool.false (Body.fl .f32 b2)), (Blk.mk Bool.true (Body.cells [(At.vw 0 0 q0i 1), (At.vw 1 0 q0f 1), (At.vw 2 0 q0h 1)])), (Blk.mk Bool.true (Body.cells [(At.sl 5 0 q0u 1), (At.sl 6 0 q0v 1), (At.sl 7 0 q0t 1)])), (Blk.mk Bool.true (Body.fl .f32 b5)), (Blk.mk Bool.true (Body.fl .f32 b6)), (Blk.mk Bool.true (Body.fl .f32 b7)), (Blk.mk Bool.true (Body.cells [(At.sl 9 0 c2_ 1), (At.sl 10 0 c3_ 1), (At.sl 11 0 c4_ 1)])), (Blk.mk Bool.true (Body.fl .f32 c5_)), (Blk.mk Bool.true (Body.fl .f32 c6_)), (Blk.mk Bool.true (Body.fl .f32 c7_))])) := by kernel_rfl
theorem zmi (q0s : Nat) (to : Nat) (q0y : Nat) (t13 : Int) (b0 : List Nat) (b1 : List Nat) (b2 : List Nat) (q0i : Nat) (q0f : Nat) (q0h : Nat) (q0u : Nat) (q0v : Nat) (q0t : Nat) (b5 : List Nat) (b6 : List Nat) (b7 : List Nat) : ∀ (n : Nat) (t14 : Int) (q12 : Nat) (q13 : Nat) (q14 : Nat) (b9 : List Nat) (b10 : List Nat) (b11 : List Nat), iter 34 3 3 (evC (R := Ex × St) Γ2 (evFn Γ2 8 8) 34 3 fi34.nt fi34.live fi34.nl 8 (findL 3 (loopsIn fi34.code))) n (St.mk [(1, (AV.v (TV.one (At.flt .f32 q0s)))), (2, (AV.v (TV.one (At.flt .f32 to)))), (3, (AV.v (TV.one (At.ptr 3 0 3)))), (6, (AV.v (TV.one (At.ptr 4 0 3)))), (7, (AV.v (TV.one (At.ptr 8 0 3)))), (12, (AV.v (TV.one (At.vw 0 0 q0y 1)))), (13, (AV.v (TV.one (At.int .i64 t13)))), (14, (AV.v (TV.one (At.int .i64 t14))))] [(Blk.mk Bool.false (Body.fl .f32 b0)), (Blk.mk Bool.false (Body.fl .f32 b1)), (Blk.mk Bool.false (Body.fl .f32 b2)), (Blk.mk Bool.true (Body.cells [(At.vw 0 0 q0i 1), (At.vw 1 0 q0f 1), (At.vw 2 0 q0h 1)])), (Blk.mk Bool.true (Body.cells [(At.sl 5 0 q0u 1), (At.sl 6 0 q0v 1), (At.sl 7 0 q0t 1)])), (Blk.mk Bool.true (Body.fl .f32 b5)), (Blk.mk Bool.true (Body.fl .f32 b6)), (Blk.mk Bool.true (Body.fl .f32 b7)), (Blk.mk Bool.true (Body.cells [(At.sl 9 0 q12 1), (At.sl 10 0 q13 1), (At.sl 11 0 q14 1)])), (Blk.mk Bool.true (Body.fl .f32 b9)), (Blk.mk Bool.true (Body.fl .f32 b10)), (Blk.mk Bool.true (Body.fl .f32 b11))]) (fun e st => some (e, st)) = (zcw q0s to q0y t13 b0 b1 b2 q0i q0f q0h q0u q0v q0t b5 b6 b7) (z1l q0s to q0y t13 b0 b1 b2 q0f q0h n t14 q12 q13 q14 b9 b10 b11) := by
  intro n
  induction n with
  | zero => intros; rfl
  | succ n ih =>
    intro t14 q12 q13 q14 b9 b10 b11
    refine Eq.trans (iter_succ ..) (Eq.trans (zmg q0s to q0y t13 t14 b0 b1 b2 q0i q0f q0h q0u q0v q0t b5 b6 b7 q12 q13 q14 b9 b10 b11 (nextK 34 3 3 (evC (R := Ex × St) Γ2 (evFn Γ2 8 8) 34 3 fi34.nt fi34.live fi34.nl 8 (findL 3 (loopsIn fi34.code))) n (fun e st => some (e, st)))) (Eq.trans ?_ (zkm q0s to q0y t13 b0 b1 b2 q0f q0h t14 q12 q13 q14 b9 b10 b11 (zcw q0s to q0y t13 b0 b1 b2 q0i q0f q0h q0u q0v q0t b5 b6 b7) rfl (fun t14' q12' q13' q14' b9' b10' b11' => z1l q0s to q0y t13 b0 b1 b2 q0f q0h n t14' q12' q13' q14' b9' b10' b11') (fun c0_ c1_ c2_ c3_ c4_ c5_ c6_ c7_ => some (c0_, c1_, c2_, c3_, c4_, c5_, c6_, c7_)))))
    exact congrArg (fun kn_ => z55 q0s to q0y t13 b0 b1 b2 q0f q0h t14 q12 q13 q14 b9 b10 b11 kn_ (fun c0_ c1_ c2_ c3_ c4_ c5_ c6_ c7_ => (zcw q0s to q0y t13 b0 b1 b2 q0i q0f q0h q0u q0v q0t b5 b6 b7) (some (c0_, c1_, c2_, c3_, c4_, c5_, c6_, c7_)))) (funext fun t14' => funext fun q12' => funext fun q13' => funext fun q14' => funext fun b9' => funext fun b10' => funext fun b11' => ih t14' q12' q13' q14' b9' b10' b11')
theorem zl4 : LoopOne Try.prog fnTab 34 3 zi1 := lp_of (Γ := Γ2) tyTab_ok (FnL.ok fnTab_ok _ _) (LpL.ok lt2_ok) (SumL.ok tb2_ok _) mixed (fi := fi34) (by kernel_rfl) (by kernel_rfl) (by
  intro lo st out hp
  obtain ⟨hs, e1, e2, e3⟩ := lpT_inv hp
  clear hp
  obtain rfl : st = (St.mk [(1, (AV.v (TV.one (At.flt .f32 (hvN (hGet hs 0)))))), (2, (AV.v (TV.one (At.flt .f32 (hvN (hGet hs 1)))))), (3, (AV.v (TV.one (At.ptr 3 0 3)))), (6, (AV.v (TV.one (At.ptr 4 0 3)))), (7, (AV.v (TV.one (At.ptr 8 0 3)))), (12, (AV.v (TV.one (At.vw 0 0 (hvN (hGet hs 2)) 1)))), (13, (AV.v (TV.one (At.int .i64 (hvI (hGet hs 3)))))), (14, (AV.v (TV.one (At.int .i64 (hvI (hGet hs 4))))))] [(Blk.mk Bool.false (Body.fl .f32 (hvLn (hGet hs 5)))), (Blk.mk Bool.false (Body.fl .f32 (hvLn (hGet hs 6)))), (Blk.mk Bool.false (Body.fl .f32 (hvLn (hGet hs 7)))), (Blk.mk Bool.true (Body.cells [(At.vw 0 0 (hvN (hGet hs 8)) 1), (At.vw 1 0 (hvN (hGet hs 9)) 1), (At.vw 2 0 (hvN (hGet hs 10)) 1)])), (Blk.mk Bool.true (Body.cells [(At.sl 5 0 (hvN (hGet hs 11)) 1), (At.sl 6 0 (hvN (hGet hs 12)) 1), (At.sl 7 0 (hvN (hGet hs 13)) 1)])), (Blk.mk Bool.true (Body.fl .f32 (hvLn (hGet hs 14)))), (Blk.mk Bool.true (Body.fl .f32 (hvLn (hGet hs 15)))), (Blk.mk Bool.true (Body.fl .f32 (hvLn (hGet hs 16)))), (Blk.mk Bool.true (Body.cells [(At.sl 9 0 (hvN (hGet hs 17)) 1), (At.sl 10 0 (hvN (hGet hs 18)) 1), (At.sl 11 0 (hvN (hGet hs 19)) 1)])), (Blk.mk Bool.true (Body.fl .f32 (hvLn (hGet hs 20)))), (Blk.mk Bool.true (Body.fl .f32 (hvLn (hGet hs 21)))), (Blk.mk Bool.true (Body.fl .f32 (hvLn (hGet hs 22))))]) := e2.trans (by kernel_rfl)
  clear e2
  subst e1
  unfold zg0 at e3
  injection e3 with h1 h2
  subst h2
  exact ⟨8, 8, big, Eq.trans (zmi (hvN (hGet hs 0)) (hvN (hGet hs 1)) (hvN (hGet hs 2)) (hvI (hGet hs 3)) (hvLn (hGet hs 5)) (hvLn (hGet hs 6)) (hvLn (hGet hs 7)) (hvN (hGet hs 8)) (hvN (hGet hs 9)) (hvN (hGet hs 10)) (hvN (hGet hs 11)) (hvN (hGet hs 12)) (hvN (hGet hs 13)) (hvLn (hGet hs 14)) (hvLn (hGet hs 15)) (hvLn (hGet hs 16)) big (hvI (hGet hs 4)) (hvN (hGet hs 17)) (hvN (hGet hs 18)) (hvN (hGet hs 19)) (hvLn (hGet hs 20)) (hvLn (hGet hs 21)) (hvLn (hGet hs 22))) (zmh (hvN (hGet hs 0)) (hvN (hGet hs 1)) (hvN (hGet hs 2)) (hvI (hGet hs 3)) (hvLn (hGet hs 5)) (hvLn (hGet hs 6)) (hvLn (hGet hs 7)) (hvN (hGet hs 8)) (hvN (hGet hs 9)) (hvN (hGet hs 10)) (hvN (hGet hs 11)) (hvN (hGet hs 12)) (hvN (hGet hs 13)) (hvLn (hGet hs 14)) (hvLn (hGet hs 15)) (hvLn (hGet hs 16)) (z1l (hvN (hGet hs 0)) (hvN (hGet hs 1)) (hvN (hGet hs 2)) (hvI (hGet hs 3)) (hvLn (hGet hs 5)) (hvLn (hGet hs 6)) (hvLn (hGet hs 7)) (hvN (hGet hs 9)) (hvN (hGet hs 10)) big (hvI (hGet hs 4)) (hvN (hGet hs 17)) (hvN (hGet hs 18)) (hvN (hGet hs 19)) (hvLn (hGet hs 20)) (hvLn (hGet hs 21)) (hvLn (hGet hs 22))) h1)⟩)
noncomputable def zbp (t4 : Bool) (t5 : Nat) (t6 : Nat) (t7 : Nat) (t8 : Int) : Bool × LO := ((z1m t6 t7 t8), (LO.one (Ex.exit 0) (St.mk [(4, (AV.v (TV.one (At.bool t4)))), (5, (AV.v (TV.one (At.flt .f64 t5)))), (6, (AV.v (TV.one (At.flt .f64 t6)))), (7, (AV.v (TV.one (At.flt .f64 (z0l t6 t7 t8))))), (8, (AV.v (TV.one (At.int .i64 (z7g t6 t7 t8))))), (44, (AV.v (TV.one (At.bool (z7d t6 t7 t8)))))] [])))
noncomputable def zcp : Nat → St → Option (Bool × LO) := lpT 0 (pSt [(pTm 4 (pV (pOne pBool))), (pTm 5 (pV (pOne (pFlt .f64)))), (pTm 6 (pV (pOne (pFlt .f64)))), (pTm 7 (pV (pOne (pFlt .f64)))), (pTm 8 (pV (pOne (pInt .i64))))] []) (fun hs => zbp (hvB (hGet hs 0)) (hvN (hGet hs 1)) (hvN (hGet hs 2)) (hvN (hGet hs 3)) (hvI (hGet hs 4)))
def z6i (t4 : Bool) (t5 : Nat) (t6 : Nat) : Option ((Nat × Int × Bool)) → Option (Ex × St)
  | none => none
  | some r => some ((Ex.exit 0), (St.mk [(4, (AV.v (TV.one (At.bool t4)))), (5, (AV.v (TV.one (At.flt .f64 t5)))), (6, (AV.v (TV.one (At.flt .f64 t6)))), (7, (AV.v (TV.one (At.flt .f64 r.1)))), (8, (AV.v (TV.one (At.int .i64 r.2.1)))), (44, (AV.v (TV.one (At.bool r.2.2))))] []))
def zft (t4 : Bool) (t5 : Nat) (t6 : Nat) (x : Option ((Nat × Int × Bool))) : LO := (LO.one (Ex.exit 0) (St.mk [(4, (AV.v (TV.one (At.bool t4)))), (5, (AV.v (TV.one (At.flt .f64 t5)))), (6, (AV.v (TV.one (At.flt .f64 t6)))), (7, (AV.v (TV.one (At.flt .f64 (x.getD default).1)))), (8, (AV.v (TV.one (At.int .i64 (x.getD default).2.1)))), (44, (AV.v (TV.one (At.bool (x.getD default).2.2))))] []))
theorem zgr (t4 : Bool) (t5 : Nat) (t6 : Nat) : ∀ x : Option ((Nat × Int × Bool)), x.isSome = true → (z6i t4 t5 t6) x = some (pick (zft t4 t5 t6 x))
  | none, h => by cases h
  | some r, _ => rfl
theorem zgq (t4 : Bool) (t5 : Nat) (t6 : Nat) (t7 : Nat) (t8 : Int) (K : Ex → St → Option (Ex × St)) : evC (R := Ex × St) Γ2 (evFn Γ2 8 8) 73 0 fi73.nt fi73.live fi73.nl 8 (findL 17 (loopsIn fi73.code)) (St.mk [(4, (AV.v (TV.one (At.bool t4)))), (5, (AV.v (TV.one (At.flt .f64 t5)))), (6, (AV.v (TV.one (At.flt .f64 t6)))), (7, (AV.v (TV.one (At.flt .f64 t7)))), (8, (AV.v (TV.one (At.int .i64 t8))))] []) K = z2l t6 t7 t8 (fun t7' t8' => K .normal (St.mk [(4, (AV.v (TV.one (At.bool t4)))), (5, (AV.v (TV.one (At.flt .f64 t5)))), (6, (AV.v (TV.one (At.flt .f64 t6)))), (7, (AV.v (TV.one (At.flt .f64 t7')))), (8, (AV.v (TV.one (At.int .i64 t8'))))] [])) (fun c0_ c1_ c2_ => K (Ex.exit 0) (St.mk [(4, (AV.v (TV.one (At.bool t4)))), (5, (AV.v (TV.one (At.flt .f64 t5)))), (6, (AV.v (TV.one (At.flt .f64 t6)))), (7, (AV.v (TV.one (At.flt .f64 c0_)))), (8, (AV.v (TV.one (At.int .i64 c1_)))), (44, (AV.v (TV.one (At.bool c2_))))] [])) := by kernel_rfl
theorem zgh (t4 : Bool) (t5 : Nat) (t6 : Nat) : ∀ (n : Nat) (t7 : Nat) (t8 : Int), iter 73 17 0 (evC (R := Ex × St) Γ2 (evFn Γ2 8 8) 73 0 fi73.nt fi73.live fi73.nl 8 (findL 17 (loopsIn fi73.code))) n (St.mk [(4, (AV.v (TV.one (At.bool t4)))), (5, (AV.v (TV.one (At.flt .f64 t5)))), (6, (AV.v (TV.one (At.flt .f64 t6)))), (7, (AV.v (TV.one (At.flt .f64 t7)))), (8, (AV.v (TV.one (At.int .i64 t8))))] []) (fun e st => some (e, st)) = (z6i t4 t5 t6) (z0x t6 n t7 t8) := by
  intro n
  induction n with
  | zero => intros; rfl
  | succ n ih =>
    intro t7 t8
    refine Eq.trans (iter_succ ..) (Eq.trans (zgq t4 t5 t6 t7 t8 (nextK 73 17 0 (evC (R := Ex × St) Γ2 (evFn Γ2 8 8) 73 0 fi73.nt fi73.live fi73.nl 8 (findL 17 (loopsIn fi73.code))) n (fun e st => some (e, st)))) (Eq.trans ?_ (zer t6 t7 t8 (z6i t4 t5 t6) rfl (fun t7' t8' => z0x t6 n t7' t8') (fun c0_ c1_ c2_ => some (c0_, c1_, c2_)))))
    exact congrArg (fun kn_ => z2l t6 t7 t8 kn_ (fun c0_ c1_ c2_ => (z6i t4 t5 t6) (some (c0_, c1_, c2_)))) (funext fun t7' => funext fun t8' => ih t7' t8')
theorem zf7 : LoopOne Try.prog fnTab 73 17 zcp := lp_of (Γ := Γ2) tyTab_ok (FnL.ok fnTab_ok _ _) (LpL.ok lt2_ok) (SumL.ok tb2_ok _) mixed (fi := fi73) (by kernel_rfl) (by kernel_rfl) (by
  intro lo st out hp
  obtain ⟨hs, e1, e2, e3⟩ := lpT_inv hp
  clear hp
  obtain rfl : st = (St.mk [(4, (AV.v (TV.one (At.bool (hvB (hGet hs 0)))))), (5, (AV.v (TV.one (At.flt .f64 (hvN (hGet hs 1)))))), (6, (AV.v (TV.one (At.flt .f64 (hvN (hGet hs 2)))))), (7, (AV.v (TV.one (At.flt .f64 (hvN (hGet hs 3)))))), (8, (AV.v (TV.one (At.int .i64 (hvI (hGet hs 4))))))] []) := e2.trans (by kernel_rfl)
  clear e2
  subst e1
  unfold zbp at e3
  injection e3 with h1 h2
  subst h2
  exact ⟨8, 8, big, Eq.trans (zgh (hvB (hGet hs 0)) (hvN (hGet hs 1)) (hvN (hGet hs 2)) big (hvN (hGet hs 3)) (hvI (hGet hs 4))) (zgr (hvB (hGet hs 0)) (hvN (hGet hs 1)) (hvN (hGet hs 2)) (z0x (hvN (hGet hs 2)) big (hvN (hGet hs 3)) (hvI (hGet hs 4))) h1)⟩)
noncomputable def tb3 : List (Nat × (List PT → Option (Bool × AV × List Blk))) := (55, zcj) :: tb2
noncomputable def lt3 : List ((Nat × Nat) × (Nat → St → Option (Bool × LO))) := ((34, 3), zi1) :: ((73, 17), zcp) :: lt2
noncomputable def Γ3 : Ctx := ⟨tyTab, fnTab, tblSum tb3, tblLp lt3⟩
theorem tb3_ok : SumL Try.prog tb3 := SumL.cons zhl (tb2_ok)
theorem lt3_ok : LpL Try.prog fnTab lt3 := LpL.cons zl4 (LpL.cons zf7 (lt2_ok))
noncomputable def zhi : List PT → Option (Bool × AV × List Blk)
  | [.agg [.row 1 q08 (.fl .f32 q0b), .row 1 q09 (.fl .f32 q0c), .row 1 q0a (.fl .f32 q0d)], .one (.s (.flt .f32 q0s)), .one (.s (.flt .f32 to))] => some ((zf4 q08 q0b q09 q0c q0a q0d q0s to), ((AV.v (TV.agg [(At.sl 0 0 (z0y q08 q0b q09 q0c q0a q0d q0s to) 1), (At.sl 1 0 (z0a q08 q0b q09 q0c q0a q0d q0s to) 1), (At.sl 2 0 (z0d q08 q0b q09 q0c q0a q0d q0s to) 1)])), [(Blk.mk Bool.true (Body.fl .f32 (zgc q08 q0b q09 q0c q0a q0d q0s to))), (Blk.mk Bool.true (Body.fl .f32 (z0f q08 q0b q09 q0c q0a q0d q0s to))), (Blk.mk Bool.true (Body.fl .f32 (z0e q08 q0b q09 q0c q0a q0d q0s to)))]))
  | _ => none
def zlw (q08 : Nat) (q0b : List Nat) (q09 : Nat) (q0c : List Nat) (q0a : Nat) (q0d : List Nat) (q0s : Nat) (to : Nat) : Option (Nat × Nat × Nat × (List Nat) × (List Nat) × (List Nat)) → Option (AV × List Blk)
  | some r => some ((AV.v (TV.agg [(At.sl 0 0 r.1 1), (At.sl 1 0 r.2.1 1), (At.sl 2 0 r.2.2.1 1)])), [(Blk.mk Bool.true (Body.fl .f32 r.2.2.2.1)), (Blk.mk Bool.true (Body.fl .f32 r.2.2.2.2.1)), (Blk.mk Bool.true (Body.fl .f32 r.2.2.2.2.2))])
  | none => none
theorem zmt (q08 : Nat) (q0b : List Nat) (q09 : Nat) (q0c : List Nat) (q0a : Nat) (q0d : List Nat) (q0s : Nat) (to : Nat) : evFn Γ3 8 8 34 (impTs 0 [.agg [.row 1 q08 (.fl .f32 q0b), .row 1 q09 (.fl .f32 q0c), .row 1 q0a (.fl .f32 q0d)], .one (.s (.flt .f32 q0s)), .one (.s (.flt .f32 to))]).1 (impTs 0 [.agg [.row 1 q08 (.fl .f32 q0b), .row 1 q09 (.fl .f32 q0c), .row 1 q0a (.fl .f32 q0d)], .one (.s (.flt .f32 q0s)), .one (.s (.flt .f32 to))]).2 (expo (impTs 0 [.agg [.row 1 q08 (.fl .f32 q0b), .row 1 q09 (.fl .f32 q0c), .row 1 q0a (.fl .f32 q0d)], .one (.s (.flt .f32 q0s)), .one (.s (.flt .f32 to))]).2.length) = zc4 q08 q0b q09 q0c q0a q0d q0s to (fun c0_ c1_ c2_ c3_ c4_ c5_ => some ((AV.v (TV.agg [(At.sl 0 0 c0_ 1), (At.sl 1 0 c1_ 1), (At.sl 2 0 c2_ 1)])), [(Blk.mk Bool.true (Body.fl .f32 c3_)), (Blk.mk Bool.true (Body.fl .f32 c4_)), (Blk.mk Bool.true (Body.fl .f32 c5_))])) := by kernel_rfl
theorem zml : SumOne Try.prog 34 zhi := sum_of (Γ := Γ3) (fuel := 8) (d := 8) tyTab_ok (FnL.ok fnTab_ok _ _) (LpL.ok lt3_ok) (SumL.ok tb3_ok _) mixed (by
  intro pts v news hp hc
  clear hc
  unfold zhi at hp
  split at hp
  · rename_i q08 q0b q09 q0c q0a q0d q0s to
    exact Eq.trans (Eq.trans (zmt q08 q0b q09 q0c q0a q0d q0s to) (zm5 q08 q0b q09 q0c q0a q0d q0s to (zlw q08 q0b q09 q0c q0a q0d q0s to) rfl (fun c0_ c1_ c2_ c3_ c4_ c5_ => some (c0_, c1_, c2_, c3_, c4_, c5_)))) (fin_out (o := (zlw q08 q0b q09 q0c q0a q0d q0s to)) (x := z5s q08 q0b q09 q0c q0a q0d q0s to) (d := default) (V := fun r => ((AV.v (TV.agg [(At.sl 0 0 r.1 1), (At.sl 1 0 r.2.1 1), (At.sl 2 0 r.2.2.1 1)])), [(Blk.mk Bool.true (Body.fl .f32 r.2.2.2.1)), (Blk.mk Bool.true (Body.fl .f32 r.2.2.2.2.1)), (Blk.mk Bool.true (Body.fl .f32 r.2.2.2.2.2))])) (fun r => rfl) hp)
  · cases hp)
noncomputable def zbl : List PT → Option (Bool × AV × List Blk)
  | [.one (.s (.flt .f64 q04))] => some ((z8w q04), ((AV.v (TV.one (At.flt .f64 (z66 q04)))), []))
  | _ => none
def zeh (q04 : Nat) : Option (Nat) → Option (AV × List Blk)
  | some r => some ((AV.v (TV.one (At.flt .f64 r))), [])
  | none => none
theorem zjt (q04 : Nat) : evFn Γ3 8 8 73 (impTs 0 [.one (.s (.flt .f64 q04))]).1 (impTs 0 [.one (.s (.flt .f64 q04))]).2 (expo (impTs 0 [.one (.s (.flt .f64 q04))]).2.length) = z43 q04 (fun c0_ => some ((AV.v (TV.one (At.flt .f64 c0_))), [])) := by kernel_rfl
theorem zh3 : SumOne Try.prog 73 zbl := sum_of (Γ := Γ3) (fuel := 8) (d := 8) tyTab_ok (FnL.ok fnTab_ok _ _) (LpL.ok lt3_ok) (SumL.ok tb3_ok _) mixed (by
  intro pts v news hp hc
  clear hc
  unfold zbl at hp
  split at hp
  · rename_i q04
    exact Eq.trans (Eq.trans (zjt q04) (zge q04 (zeh q04) rfl (fun c0_ => some c0_))) (fin_out (o := (zeh q04)) (x := z3f q04) (d := default) (V := fun r => ((AV.v (TV.one (At.flt .f64 r))), [])) (fun r => rfl) hp)
  · cases hp)
noncomputable def z4x (sn : Nat) (t7 : Int) (t8 : Int) (b0 : List Nat) : Bool × LO := ((z1c sn t7 b0 t8), (LO.two (z16 sn t7 b0 t8) (LO.one Ex.ret (St.mk [(4, (AV.v (TV.one (At.int .i64 (z2i sn t7 b0 t8)))))] [(Blk.mk Bool.false (Body.fl .f32 b0))])) (LO.one (Ex.exit 0) (St.mk [(0, (AV.v (TV.one (At.vw 0 0 sn 1)))), (1, (AV.v (TV.one (At.fn 54 [])))), (7, (AV.v (TV.one (At.int .i64 t7)))), (8, (AV.v (TV.one (At.int .i64 (z39 sn t7 b0 t8))))), (9, (AV.v (TV.one (At.bool (z3c sn t7 b0 t8)))))] [(Blk.mk Bool.false (Body.fl .f32 b0))]))))
noncomputable def z5j : Nat → St → Option (Bool × LO) := lpT 1 (pSt [(pTm 0 (pV (pOne (pVw 0 (liN 0) 1)))), (pTm 1 (pV (pOne (pFn 54 [])))), (pTm 7 (pV (pOne (pInt .i64)))), (pTm 8 (pV (pOne (pInt .i64))))] [(pBlk Bool.false (pFl .f32))]) (fun hs => z4x (hvN (hGet hs 0)) (hvI (hGet hs 1)) (hvI (hGet hs 2)) (hvLn (hGet hs 3)))
def z22 (sn : Nat) (t7 : Int) (b0 : List Nat) : Option ((Int) ⊕ (Int × Bool)) → Option (Ex × St)
  | none => none
  | some (Sum.inl r) => some (Ex.ret, (St.mk [(4, (AV.v (TV.one (At.int .i64 r))))] [(Blk.mk Bool.false (Body.fl .f32 b0))]))
  | some (Sum.inr r) => some ((Ex.exit 0), (St.mk [(0, (AV.v (TV.one (At.vw 0 0 sn 1)))), (1, (AV.v (TV.one (At.fn 54 [])))), (7, (AV.v (TV.one (At.int .i64 t7)))), (8, (AV.v (TV.one (At.int .i64 r.1)))), (9, (AV.v (TV.one (At.bool r.2))))] [(Blk.mk Bool.false (Body.fl .f32 b0))]))
def z9e (sn : Nat) (t7 : Int) (b0 : List Nat) (x : Option ((Int) ⊕ (Int × Bool))) : LO := (LO.two (oL x) (LO.one Ex.ret (St.mk [(4, (AV.v (TV.one (At.int .i64 ((tL x).getD default)))))] [(Blk.mk Bool.false (Body.fl .f32 b0))])) (LO.one (Ex.exit 0) (St.mk [(0, (AV.v (TV.one (At.vw 0 0 sn 1)))), (1, (AV.v (TV.one (At.fn 54 [])))), (7, (AV.v (TV.one (At.int .i64 t7)))), (8, (AV.v (TV.one (At.int .i64 ((tR x).getD default).1)))), (9, (AV.v (TV.one (At.bool ((tR x).getD default).2))))] [(Blk.mk Bool.false (Body.fl .f32 b0))])))
theorem za7 (sn : Nat) (t7 : Int) (b0 : List Nat) : ∀ x : Option ((Int) ⊕ (Int × Bool)), x.isSome = true → (z22 sn t7 b0) x = some (pick (z9e sn t7 b0 x))
  | none, h => by cases h
  | some (Sum.inl r), _ => rfl
  | some (Sum.inr r), _ => rfl
theorem z9w (sn : Nat) (t7 : Int) (t8 : Int) (b0 : List Nat) (K : Ex → St → Option (Ex × St)) : evC (R := Ex × St) Γ3 (evFn Γ3 8 8) 66 1 fi66.nt fi66.live fi66.nl 8 (findL 2 (loopsIn fi66.code)) (St.mk [(0, (AV.v (TV.one (At.vw 0 0 sn 1)))), (1, (AV.v (TV.one (At.fn 54 [])))), (7, (AV.v (TV.one (At.int .i64 t7)))), (8, (AV.v (TV.one (At.int .i64 t8))))] [(Blk.mk Bool.false (Body.fl .f32 b0))]) K = z0p sn t7 b0 t8 (fun t8' => K .normal (St.mk [(0, (AV.v (TV.one (At.vw 0 0 sn 1)))), (1, (AV.v (TV.one (At.fn 54 [])))), (7, (AV.v (TV.one (At.int .i64 t7)))), (8, (AV.v (TV.one (At.int .i64 t8'))))] [(Blk.mk Bool.false (Body.fl .f32 b0))])) (fun c0_ => K Ex.ret (St.mk [(4, (AV.v (TV.one (At.int .i64 c0_))))] [(Blk.mk Bool.false (Body.fl .f32 b0))])) (fun c0_ c1_ => K (Ex.exit 0) (St.mk [(0, (AV.v (TV.one (At.vw 0 0 sn 1)))), (1, (AV.v (TV.one (At.fn 54 [])))), (7, (AV.v (TV.one (At.int .i64 t7)))), (8, (AV.v (TV.one (At.int .i64 c0_)))), (9, (AV.v (TV.one (At.bool c1_))))] [(Blk.mk Bool.false (Body.fl .f32 b0))])) := by kernel_rfl
theorem za8 (sn : Nat) (t7 : Int) (b0 : List Nat) : ∀ (n : Nat) (t8 : Int), iter 66 2 1 (evC (R := Ex × St) Γ3 (evFn Γ3 8 8) 66 1 fi66.nt fi66.live fi66.nl 8 (findL 2 (loopsIn fi66.code))) n (St.mk [(0, (AV.v (TV.one (At.vw 0 0 sn 1)))), (1, (AV.v (TV.one (At.fn 54 [])))), (7, (AV.v (TV.one (At.int .i64 t7)))), (8, (AV.v (TV.one (At.int .i64 t8))))] [(Blk.mk Bool.false (Body.fl .f32 b0))]) (fun e st => some (e, st)) = (z22 sn t7 b0) (z0i sn t7 b0 n t8) := by
  intro n
  induction n with
  | zero => intros; rfl
  | succ n ih =>
    intro t8
    refine Eq.trans (iter_succ ..) (Eq.trans (z9w sn t7 t8 b0 (nextK 66 2 1 (evC (R := Ex × St) Γ3 (evFn Γ3 8 8) 66 1 fi66.nt fi66.live fi66.nl 8 (findL 2 (loopsIn fi66.code))) n (fun e st => some (e, st)))) (Eq.trans ?_ (z86 sn t7 b0 t8 (z22 sn t7 b0) rfl (fun t8' => z0i sn t7 b0 n t8') (fun c0_ => some (Sum.inl c0_)) (fun c0_ c1_ => some (Sum.inr (c0_, c1_))))))
    exact congrArg (fun kn_ => z0p sn t7 b0 t8 kn_ (fun c0_ => (z22 sn t7 b0) (some (Sum.inl c0_))) (fun c0_ c1_ => (z22 sn t7 b0) (some (Sum.inr (c0_, c1_))))) (funext fun t8' => ih t8')
theorem z8g : LoopOne Try.prog fnTab 66 2 z5j := lp_of (Γ := Γ3) tyTab_ok (FnL.ok fnTab_ok _ _) (LpL.ok lt3_ok) (SumL.ok tb3_ok _) mixed (fi := fi66) (by kernel_rfl) (by kernel_rfl) (by
  intro lo st out hp
  obtain ⟨hs, e1, e2, e3⟩ := lpT_inv hp
  clear hp
  obtain rfl : st = (St.mk [(0, (AV.v (TV.one (At.vw 0 0 (hvN (hGet hs 0)) 1)))), (1, (AV.v (TV.one (At.fn 54 [])))), (7, (AV.v (TV.one (At.int .i64 (hvI (hGet hs 1)))))), (8, (AV.v (TV.one (At.int .i64 (hvI (hGet hs 2))))))] [(Blk.mk Bool.false (Body.fl .f32 (hvLn (hGet hs 3))))]) := e2.trans (by kernel_rfl)
  clear e2
  subst e1
  unfold z4x at e3
  injection e3 with h1 h2
  subst h2
  exact ⟨8, 8, big, Eq.trans (za8 (hvN (hGet hs 0)) (hvI (hGet hs 1)) (hvLn (hGet hs 3)) big (hvI (hGet hs 2))) (za7 (hvN (hGet hs 0)) (hvI (hGet hs 1)) (hvLn (hGet hs 3)) (z0i (hvN (hGet hs 0)) (hvI (hGet hs 1)) (hvLn (hGet hs 3)) big (hvI (hGet hs 2))) h1)⟩)
noncomputable def tb4 : List (Nat × (List PT → Option (Bool × AV × List Blk))) := (34, zhi) :: (73, zbl) :: tb3
noncomputable def lt4 : List ((Nat × Nat) × (Nat → St → Option (Bool × LO))) := ((66, 2), z5j) :: lt3
noncomputable def Γ4 : Ctx := ⟨tyTab, fnTab, tblSum tb4, tblLp lt4⟩
theorem tb4_ok : SumL Try.prog tb4 := SumL.cons zml (SumL.cons zh3 (tb3_ok))
theorem lt4_ok : LpL Try.prog fnTab lt4 := LpL.cons z8g (lt3_ok)
noncomputable def ze8 : List PT → Option (Bool × AV × List Blk)
  | [.one (.s (.flt .f32 x))] => some ((z67 x), ((AV.v (TV.one (At.flt .f32 (z2c x)))), []))
  | _ => none
def zh9 (x : Nat) : Option (Nat) → Option (AV × List Blk)
  | some r => some ((AV.v (TV.one (At.flt .f32 r))), [])
  | none => none
theorem zm9 (x : Nat) : evFn Γ4 8 8 64 (impTs 0 [.one (.s (.flt .f32 x))]).1 (impTs 0 [.one (.s (.flt .f32 x))]).2 (expo (impTs 0 [.one (.s (.flt .f32 x))]).2.length) = z7p x (fun c0_ => some ((AV.v (TV.one (At.flt .f32 c0_))), [])) := by kernel_rfl
theorem zky : SumOne Try.prog 64 ze8 := sum_of (Γ := Γ4) (fuel := 8) (d := 8) tyTab_ok (FnL.ok fnTab_ok _ _) (LpL.ok lt4_ok) (SumL.ok tb4_ok _) mixed (by
  intro pts v news hp hc
  clear hc
  unfold ze8 at hp
  split at hp
  · rename_i x
    exact Eq.trans (Eq.trans (zm9 x) (zkf x (zh9 x) rfl (fun c0_ => some c0_))) (fin_out (o := (zh9 x)) (x := z6e x) (d := default) (V := fun r => ((AV.v (TV.one (At.flt .f32 r))), [])) (fun r => rfl) hp)
  · cases hp)
noncomputable def z45 : List PT → Option (Bool × AV × List Blk)
  | [.one (.row 1 s_n (.fl .f32 s)), .fn 54 []] => some ((z2x s_n s), ((AV.v (TV.one (At.int .i64 (z2v s_n s)))), []))
  | _ => none
def z61 (s_n : Nat) (s : List Nat) : Option (Int) → Option (AV × List Blk)
  | some r => some ((AV.v (TV.one (At.int .i64 r))), [])
  | none => none
theorem zb6 (s_n : Nat) (s : List Nat) : evFn Γ4 8 8 66 (impTs 0 [.one (.row 1 s_n (.fl .f32 s)), .fn 54 []]).1 (impTs 0 [.one (.row 1 s_n (.fl .f32 s)), .fn 54 []]).2 (expo (impTs 0 [.one (.row 1 s_n (.fl .f32 s)), .fn 54 []]).2.length) = z1n s_n s (fun c0_ => some ((AV.v (TV.one (At.int .i64 c0_))), [])) := by kernel_rfl
theorem z9q : SumOne Try.prog 66 z45 := sum_of (Γ := Γ4) (fuel := 8) (d := 8) tyTab_ok (FnL.ok fnTab_ok _ _) (LpL.ok lt4_ok) (SumL.ok tb4_ok _) mixed (by
  intro pts v news hp hc
  clear hc
  unfold z45 at hp
  split at hp
  · rename_i s_n s
    exact Eq.trans (Eq.trans (zb6 s_n s) (z9g s_n s (z61 s_n s) rfl (fun c0_ => some c0_))) (fin_out (o := (z61 s_n s)) (x := z1o s_n s) (d := default) (V := fun r => ((AV.v (TV.one (At.int .i64 r))), [])) (fun r => rfl) hp)
  · cases hp)
noncomputable def z56 (sn : Nat) (t7 : Int) (t8 : Int) (b0 : List Nat) : Bool × LO := ((z1i sn t7 b0 t8), (LO.two (z1b sn t7 b0 t8) (LO.one Ex.ret (St.mk [(4, (AV.v (TV.one (At.int .i64 (z2k sn t7 b0 t8)))))] [(Blk.mk Bool.false (Body.fl .f32 b0))])) (LO.one (Ex.exit 0) (St.mk [(0, (AV.v (TV.one (At.vw 0 0 sn 1)))), (1, (AV.v (TV.one (At.fn 55 [])))), (7, (AV.v (TV.one (At.int .i64 t7)))), (8, (AV.v (TV.one (At.int .i64 (z3n sn t7 b0 t8))))), (9, (AV.v (TV.one (At.bool (z3m sn t7 b0 t8)))))] [(Blk.mk Bool.false (Body.fl .f32 b0))]))))
noncomputable def z5p : Nat → St → Option (Bool × LO) := lpT 1 (pSt [(pTm 0 (pV (pOne (pVw 0 (liN 0) 1)))), (pTm 1 (pV (pOne (pFn 55 [])))), (pTm 7 (pV (pOne (pInt .i64)))), (pTm 8 (pV (pOne (pInt .i64))))] [(pBlk Bool.false (pFl .f32))]) (fun hs => z56 (hvN (hGet hs 0)) (hvI (hGet hs 1)) (hvI (hGet hs 2)) (hvLn (hGet hs 3)))
def z2b (sn : Nat) (t7 : Int) (b0 : List Nat) : Option ((Int) ⊕ (Int × Bool)) → Option (Ex × St)
  | none => none
  | some (Sum.inl r) => some (Ex.ret, (St.mk [(4, (AV.v (TV.one (At.int .i64 r))))] [(Blk.mk Bool.false (Body.fl .f32 b0))]))
  | some (Sum.inr r) => some ((Ex.exit 0), (St.mk [(0, (AV.v (TV.one (At.vw 0 0 sn 1)))), (1, (AV.v (TV.one (At.fn 55 [])))), (7, (AV.v (TV.one (At.int .i64 t7)))), (8, (AV.v (TV.one (At.int .i64 r.1)))), (9, (AV.v (TV.one (At.bool r.2))))] [(Blk.mk Bool.false (Body.fl .f32 b0))]))
def za2 (sn : Nat) (t7 : Int) (b0 : List Nat) (x : Option ((Int) ⊕ (Int × Bool))) : LO := (LO.two (oL x) (LO.one Ex.ret (St.mk [(4, (AV.v (TV.one (At.int .i64 ((tL x).getD default)))))] [(Blk.mk Bool.false (Body.fl .f32 b0))])) (LO.one (Ex.exit 0) (St.mk [(0, (AV.v (TV.one (At.vw 0 0 sn 1)))), (1, (AV.v (TV.one (At.fn 55 [])))), (7, (AV.v (TV.one (At.int .i64 t7)))), (8, (AV.v (TV.one (At.int .i64 ((tR x).getD default).1)))), (9, (AV.v (TV.one (At.bool ((tR x).getD default).2))))] [(Blk.mk Bool.false (Body.fl .f32 b0))])))
theorem zae (sn : Nat) (t7 : Int) (b0 : List Nat) : ∀ x : Option ((Int) ⊕ (Int × Bool)), x.isSome = true → (z2b sn t7 b0) x = some (pick (za2 sn t7 b0 x))
  | none, h => by cases h
  | some (Sum.inl r), _ => rfl
  | some (Sum.inr r), _ => rfl
theorem zad (sn : Nat) (t7 : Int) (t8 : Int) (b0 : List Nat) (K : Ex → St → Option (Ex × St)) : evC (R := Ex × St) Γ4 (evFn Γ4 8 8) 66 1 fi66.nt fi66.live fi66.nl 8 (findL 2 (loopsIn fi66.code)) (St.mk [(0, (AV.v (TV.one (At.vw 0 0 sn 1)))), (1, (AV.v (TV.one (At.fn 55 [])))), (7, (AV.v (TV.one (At.int .i64 t7)))), (8, (AV.v (TV.one (At.int .i64 t8))))] [(Blk.mk Bool.false (Body.fl .f32 b0))]) K = z0r sn t7 b0 t8 (fun t8' => K .normal (St.mk [(0, (AV.v (TV.one (At.vw 0 0 sn 1)))), (1, (AV.v (TV.one (At.fn 55 [])))), (7, (AV.v (TV.one (At.int .i64 t7)))), (8, (AV.v (TV.one (At.int .i64 t8'))))] [(Blk.mk Bool.false (Body.fl .f32 b0))])) (fun c0_ => K Ex.ret (St.mk [(4, (AV.v (TV.one (At.int .i64 c0_))))] [(Blk.mk Bool.false (Body.fl .f32 b0))])) (fun c0_ c1_ => K (Ex.exit 0) (St.mk [(0, (AV.v (TV.one (At.vw 0 0 sn 1)))), (1, (AV.v (TV.one (At.fn 55 [])))), (7, (AV.v (TV.one (At.int .i64 t7)))), (8, (AV.v (TV.one (At.int .i64 c0_)))), (9, (AV.v (TV.one (At.bool c1_))))] [(Blk.mk Bool.false (Body.fl .f32 b0))])) := by kernel_rfl
theorem zah (sn : Nat) (t7 : Int) (b0 : List Nat) : ∀ (n : Nat) (t8 : Int), iter 66 2 1 (evC (R := Ex × St) Γ4 (evFn Γ4 8 8) 66 1 fi66.nt fi66.live fi66.nl 8 (findL 2 (loopsIn fi66.code))) n (St.mk [(0, (AV.v (TV.one (At.vw 0 0 sn 1)))), (1, (AV.v (TV.one (At.fn 55 [])))), (7, (AV.v (TV.one (At.int .i64 t7)))), (8, (AV.v (TV.one (At.int .i64 t8))))] [(Blk.mk Bool.false (Body.fl .f32 b0))]) (fun e st => some (e, st)) = (z2b sn t7 b0) (z0j sn t7 b0 n t8) := by
  intro n
  induction n with
  | zero => intros; rfl
  | succ n ih =>
    intro t8
    refine Eq.trans (iter_succ ..) (Eq.trans (zad sn t7 t8 b0 (nextK 66 2 1 (evC (R := Ex × St) Γ4 (evFn Γ4 8 8) 66 1 fi66.nt fi66.live fi66.nl 8 (findL 2 (loopsIn fi66.code))) n (fun e st => some (e, st)))) (Eq.trans ?_ (z8f sn t7 b0 t8 (z2b sn t7 b0) rfl (fun t8' => z0j sn t7 b0 n t8') (fun c0_ => some (Sum.inl c0_)) (fun c0_ c1_ => some (Sum.inr (c0_, c1_))))))
    exact congrArg (fun kn_ => z0r sn t7 b0 t8 kn_ (fun c0_ => (z2b sn t7 b0) (some (Sum.inl c0_))) (fun c0_ c1_ => (z2b sn t7 b0) (some (Sum.inr (c0_, c1_))))) (funext fun t8' => ih t8')
theorem z9a : LoopOne Try.prog fnTab 66 2 z5p := lp_of (Γ := Γ4) tyTab_ok (FnL.ok fnTab_ok _ _) (LpL.ok lt4_ok) (SumL.ok tb4_ok _) mixed (fi := fi66) (by kernel_rfl) (by kernel_rfl) (by
  intro lo st out hp
  obtain ⟨hs, e1, e2, e3⟩ := lpT_inv hp
  clear hp
  obtain rfl : st = (St.mk [(0, (AV.v (TV.one (At.vw 0 0 (hvN (hGet hs 0)) 1)))), (1, (AV.v (TV.one (At.fn 55 [])))), (7, (AV.v (TV.one (At.int .i64 (hvI (hGet hs 1)))))), (8, (AV.v (TV.one (At.int .i64 (hvI (hGet hs 2))))))] [(Blk.mk Bool.false (Body.fl .f32 (hvLn (hGet hs 3))))]) := e2.trans (by kernel_rfl)
  clear e2
  subst e1
  unfold z56 at e3
  injection e3 with h1 h2
  subst h2
  exact ⟨8, 8, big, Eq.trans (zah (hvN (hGet hs 0)) (hvI (hGet hs 1)) (hvLn (hGet hs 3)) big (hvI (hGet hs 2))) (zae (hvN (hGet hs 0)) (hvI (hGet hs 1)) (hvLn (hGet hs 3)) (z0j (hvN (hGet hs 0)) (hvI (hGet hs 1)) (hvLn (hGet hs 3)) big (hvI (hGet hs 2))) h1)⟩)
noncomputable def tb5 : List (Nat × (List PT → Option (Bool × AV × List Blk))) := (64, ze8) :: (66, z45) :: tb4
noncomputable def lt5 : List ((Nat × Nat) × (Nat → St → Option (Bool × LO))) := ((66, 2), z5p) :: lt4
noncomputable def Γ5 : Ctx := ⟨tyTab, fnTab, tblSum tb5, tblLp lt5⟩
theorem tb5_ok : SumL Try.prog tb5 := SumL.cons zky (SumL.cons z9q (tb4_ok))
theorem lt5_ok : LpL Try.prog fnTab lt5 := LpL.cons z9a (lt4_ok)
noncomputable def zfc : List PT → Option (Bool × AV × List Blk)
  | [.one (.s (.flt .f64 x))] => some ((zdz x), ((AV.v (TV.one (At.flt .f64 (z89 x)))), []))
  | _ => none
def zkc (x : Nat) : Option (Nat) → Option (AV × List Blk)
  | some r => some ((AV.v (TV.one (At.flt .f64 r))), [])
  | none => none
theorem zmo (x : Nat) : evFn Γ5 8 8 57 (impTs 0 [.one (.s (.flt .f64 x))]).1 (impTs 0 [.one (.s (.flt .f64 x))]).2 (expo (impTs 0 [.one (.s (.flt .f64 x))]).2.length) = z9u x (fun c0_ => some ((AV.v (TV.one (At.flt .f64 c0_))), [])) := by kernel_rfl
theorem zlu : SumOne Try.prog 57 zfc := sum_of (Γ := Γ5) (fuel := 8) (d := 8) tyTab_ok (FnL.ok fnTab_ok _ _) (LpL.ok lt5_ok) (SumL.ok tb5_ok _) mixed (by
  intro pts v news hp hc
  clear hc
  unfold zfc at hp
  split at hp
  · rename_i x
    exact Eq.trans (Eq.trans (zmo x) (zl9 x (zkc x) rfl (fun c0_ => some c0_))) (fin_out (o := (zkc x)) (x := za3 x) (d := default) (V := fun r => ((AV.v (TV.one (At.flt .f64 r))), [])) (fun r => rfl) hp)
  · cases hp)
noncomputable def z48 : List PT → Option (Bool × AV × List Blk)
  | [.one (.row 1 s_n (.fl .f32 s)), .fn 55 []] => some ((z35 s_n s), ((AV.v (TV.one (At.int .i64 (z2y s_n s)))), []))
  | _ => none
def z65 (s_n : Nat) (s : List Nat) : Option (Int) → Option (AV × List Blk)
  | some r => some ((AV.v (TV.one (At.int .i64 r))), [])
  | none => none
theorem zbc (s_n : Nat) (s : List Nat) : evFn Γ5 8 8 66 (impTs 0 [.one (.row 1 s_n (.fl .f32 s)), .fn 55 []]).1 (impTs 0 [.one (.row 1 s_n (.fl .f32 s)), .fn 55 []]).2 (expo (impTs 0 [.one (.row 1 s_n (.fl .f32 s)), .fn 55 []]).2.length) = z1u s_n s (fun c0_ => some ((AV.v (TV.one (At.int .i64 c0_))), [])) := by kernel_rfl
theorem zaf : SumOne Try.prog 66 z48 := sum_of (Γ := Γ5) (fuel := 8) (d := 8) tyTab_ok (FnL.ok fnTab_ok _ _) (LpL.ok lt5_ok) (SumL.ok tb5_ok _) mixed (by
  intro pts v news hp hc
  clear hc
  unfold z48 at hp
  split at hp
  · rename_i s_n s
    exact Eq.trans (Eq.trans (zbc s_n s) (za5 s_n s (z65 s_n s) rfl (fun c0_ => some c0_))) (fin_out (o := (z65 s_n s)) (x := z1v s_n s) (d := default) (V := fun r => ((AV.v (TV.one (At.int .i64 r))), [])) (fun r => rfl) hp)
  · cases hp)
noncomputable def tb6 : List (Nat × (List PT → Option (Bool × AV × List Blk))) := (57, zfc) :: (66, z48) :: tb5
noncomputable def lt6 : List ((Nat × Nat) × (Nat → St → Option (Bool × LO))) := lt5
noncomputable def Γ6 : Ctx := ⟨tyTab, fnTab, tblSum tb6, tblLp lt6⟩
theorem tb6_ok : SumL Try.prog tb6 := SumL.cons zlu (SumL.cons zaf (tb5_ok))
theorem lt6_ok : LpL Try.prog fnTab lt6 := lt5_ok
noncomputable def zd3 : List PT → Option (Bool × AV × List Blk)
  | [.one (.s (.flt .f32 x))] => some ((zb0 x), ((AV.v (TV.one (At.flt .f32 (z14 x)))), []))
  | _ => none
def zfb (x : Nat) : Option (Nat) → Option (AV × List Blk)
  | some r => some ((AV.v (TV.one (At.flt .f32 r))), [])
  | none => none
theorem zl6 (x : Nat) : evFn Γ6 8 8 38 (impTs 0 [.one (.s (.flt .f32 x))]).1 (impTs 0 [.one (.s (.flt .f32 x))]).2 (expo (impTs 0 [.one (.s (.flt .f32 x))]).2.length) = z6g x (fun c0_ => some ((AV.v (TV.one (At.flt .f32 c0_))), [])) := by kernel_rfl
theorem ziq : SumOne Try.prog 38 zd3 := sum_of (Γ := Γ6) (fuel := 8) (d := 8) tyTab_ok (FnL.ok fnTab_ok _ _) (LpL.ok lt6_ok) (SumL.ok tb6_ok _) mixed (by
  intro pts v news hp hc
  clear hc
  unfold zd3 at hp
  split at hp
  · rename_i x
    exact Eq.trans (Eq.trans (zl6 x) (zhm x (zfb x) rfl (fun c0_ => some c0_))) (fin_out (o := (zfb x)) (x := z6f x) (d := default) (V := fun r => ((AV.v (TV.one (At.flt .f32 r))), [])) (fun r => rfl) hp)
  · cases hp)
noncomputable def z3w : List PT → Option (Bool × AV × List Blk)
  | [.one (.row 1 s_n (.fl .f32 s)), .fn 54 []] => some ((z2r s_n s), ((AV.v (TV.one (At.bool (z2o s_n s)))), []))
  | _ => none
def z5h (s_n : Nat) (s : List Nat) : Option (Bool) → Option (AV × List Blk)
  | some r => some ((AV.v (TV.one (At.bool r))), [])
  | none => none
theorem z9z (s_n : Nat) (s : List Nat) : evFn Γ6 8 8 53 (impTs 0 [.one (.row 1 s_n (.fl .f32 s)), .fn 54 []]).1 (impTs 0 [.one (.row 1 s_n (.fl .f32 s)), .fn 54 []]).2 (expo (impTs 0 [.one (.row 1 s_n (.fl .f32 s)), .fn 54 []]).2.length) = z19 s_n s (fun c0_ => some ((AV.v (TV.one (At.bool c0_))), [])) := by kernel_rfl
theorem z90 : SumOne Try.prog 53 z3w := sum_of (Γ := Γ6) (fuel := 8) (d := 8) tyTab_ok (FnL.ok fnTab_ok _ _) (LpL.ok lt6_ok) (SumL.ok tb6_ok _) mixed (by
  intro pts v news hp hc
  clear hc
  unfold z3w at hp
  split at hp
  · rename_i s_n s
    exact Eq.trans (Eq.trans (z9z s_n s) (z84 s_n s (z5h s_n s) rfl (fun c0_ => some c0_))) (fin_out (o := (z5h s_n s)) (x := z1a s_n s) (d := default) (V := fun r => ((AV.v (TV.one (At.bool r))), [])) (fun r => rfl) hp)
  · cases hp)
noncomputable def z42 : List PT → Option (Bool × AV × List Blk)
  | [.one (.row 1 s_n (.fl .f32 s)), .fn 55 []] => some ((z2u s_n s), ((AV.v (TV.one (At.bool (z2q s_n s)))), []))
  | _ => none
def z5o (s_n : Nat) (s : List Nat) : Option (Bool) → Option (AV × List Blk)
  | some r => some ((AV.v (TV.one (At.bool r))), [])
  | none => none
theorem zag (s_n : Nat) (s : List Nat) : evFn Γ6 8 8 53 (impTs 0 [.one (.row 1 s_n (.fl .f32 s)), .fn 55 []]).1 (impTs 0 [.one (.row 1 s_n (.fl .f32 s)), .fn 55 []]).2 (expo (impTs 0 [.one (.row 1 s_n (.fl .f32 s)), .fn 55 []]).2.length) = z1k s_n s (fun c0_ => some ((AV.v (TV.one (At.bool c0_))), [])) := by kernel_rfl
theorem z97 : SumOne Try.prog 53 z42 := sum_of (Γ := Γ6) (fuel := 8) (d := 8) tyTab_ok (FnL.ok fnTab_ok _ _) (LpL.ok lt6_ok) (SumL.ok tb6_ok _) mixed (by
  intro pts v news hp hc
  clear hc
  unfold z42 at hp
  split at hp
  · rename_i s_n s
    exact Eq.trans (Eq.trans (zag s_n s) (z8h s_n s (z5o s_n s) rfl (fun c0_ => some c0_))) (fin_out (o := (z5o s_n s)) (x := z1j s_n s) (d := default) (V := fun r => ((AV.v (TV.one (At.bool r))), [])) (fun r => rfl) hp)
  · cases hp)
noncomputable def zdi (q0o : Int) (k : Int) (q18 : Nat) (q16 : Nat) (q17 : Nat) (b2 : List Nat) (b3 : List Nat) (b4 : List Nat) : Bool × LO := ((z8m q0o k q18 q16 q17 b2 b3 b4), (LO.one (Ex.exit 0) (St.mk [(0, (AV.v (TV.one (At.int .i64 q0o)))), (2, (AV.v (TV.one (At.ptr 0 0 3)))), (3, (AV.v (TV.one (At.ptr 1 0 3)))), (4, (AV.v (TV.one (At.int .i64 (z9v q0o k q18 q16 q17 b2 b3 b4))))), (11, (AV.v (TV.one (At.bool (z9y q0o k q18 q16 q17 b2 b3 b4)))))] [(Blk.mk Bool.true (Body.cells [At.nilsl, At.nilsl, At.nilsl])), (Blk.mk Bool.true (Body.cells [(At.sl 2 0 (z6r q0o k q18 q16 q17 b2 b3 b4) 1), (At.sl 3 0 (z72 q0o k q18 q16 q17 b2 b3 b4) 1), (At.sl 4 0 (z77 q0o k q18 q16 q17 b2 b3 b4) 1)])), (Blk.mk Bool.true (Body.fl .f32 (z79 q0o k q18 q16 q17 b2 b3 b4))), (Blk.mk Bool.true (Body.fl .f32 (z6z q0o k q18 q16 q17 b2 b3 b4))), (Blk.mk Bool.true (Body.fl .f32 (z73 q0o k q18 q16 q17 b2 b3 b4)))])))
noncomputable def zeo : Nat → St → Option (Bool × LO) := lpT 0 (pSt [(pTm 0 (pV (pOne (pInt .i64)))), (pTm 2 (pV (pOne (pPtr 0 (liN 0) 3)))), (pTm 3 (pV (pOne (pPtr 1 (liN 0) 3)))), (pTm 4 (pV (pOne (pInt .i64))))] [(pBlk Bool.true (pCells [pNil, pNil, pNil])), (pBlk Bool.true (pCells [(pSl 2 (liN 0) 1), (pSl 3 (liN 0) 1), (pSl 4 (liN 0) 1)])), (pBlk Bool.true (pFl .f32)), (pBlk Bool.true (pFl .f32)), (pBlk Bool.true (pFl .f32))]) (fun hs => zdi (hvI (hGet hs 0)) (hvI (hGet hs 1)) (hvN (hGet hs 2)) (hvN (hGet hs 3)) (hvN (hGet hs 4)) (hvLn (hGet hs 5)) (hvLn (hGet hs 6)) (hvLn (hGet hs 7)))
def z8v (q0o : Int) : Option ((Int × Bool × Nat × Nat × Nat × (List Nat) × (List Nat) × (List Nat))) → Option (Ex × St)
  | none => none
  | some r => some ((Ex.exit 0), (St.mk [(0, (AV.v (TV.one (At.int .i64 q0o)))), (2, (AV.v (TV.one (At.ptr 0 0 3)))), (3, (AV.v (TV.one (At.ptr 1 0 3)))), (4, (AV.v (TV.one (At.int .i64 r.1)))), (11, (AV.v (TV.one (At.bool r.2.1))))] [(Blk.mk Bool.true (Body.cells [At.nilsl, At.nilsl, At.nilsl])), (Blk.mk Bool.true (Body.cells [(At.sl 2 0 r.2.2.1 1), (At.sl 3 0 r.2.2.2.1 1), (At.sl 4 0 r.2.2.2.2.1 1)])), (Blk.mk Bool.true (Body.fl .f32 r.2.2.2.2.2.1)), (Blk.mk Bool.true (Body.fl .f32 r.2.2.2.2.2.2.1)), (Blk.mk Bool.true (Body.fl .f32 r.2.2.2.2.2.2.2))]))
def zj2 (q0o : Int) (x : Option ((Int × Bool × Nat × Nat × Nat × (List Nat) × (List Nat) × (List Nat)))) : LO := (LO.one (Ex.exit 0) (St.mk [(0, (AV.v (TV.one (At.int .i64 q0o)))), (2, (AV.v (TV.one (At.ptr 0 0 3)))), (3, (AV.v (TV.one (At.ptr 1 0 3)))), (4, (AV.v (TV.one (At.int .i64 (x.getD default).1)))), (11, (AV.v (TV.one (At.bool (x.getD default).2.1))))] [(Blk.mk Bool.true (Body.cells [At.nilsl, At.nilsl, At.nilsl])), (Blk.mk Bool.true (Body.cells [(At.sl 2 0 (x.getD default).2.2.1 1), (At.sl 3 0 (x.getD default).2.2.2.1 1), (At.sl 4 0 (x.getD default).2.2.2.2.1 1)])), (Blk.mk Bool.true (Body.fl .f32 (x.getD default).2.2.2.2.2.1)), (Blk.mk Bool.true (Body.fl .f32 (x.getD default).2.2.2.2.2.2.1)), (Blk.mk Bool.true (Body.fl .f32 (x.getD default).2.2.2.2.2.2.2))]))
theorem zjl (q0o : Int) : ∀ x : Option ((Int × Bool × Nat × Nat × Nat × (List Nat) × (List Nat) × (List Nat))), x.isSome = true → (z8v q0o) x = some (pick (zj2 q0o x))
  | none, h => by cases h
  | some r, _ => rfl
theorem zju (q0o : Int) (k : Int) (q18 : Nat) (q16 : Nat) (q17 : Nat) (b2 : List Nat) (b3 : List Nat) (b4 : List Nat) (K : Ex → St → Option (Ex × St)) : evC (R := Ex × St) Γ6 (evFn Γ6 8 8) 47 0 fi47.nt fi47.live fi47.nl 8 (findL 3 (loopsIn fi47.code)) (St.mk [(0, (AV.v (TV.one (At.int .i64 q0o)))), (2, (AV.v (TV.one (At.ptr 0 0 3)))), (3, (AV.v (TV.one (At.ptr 1 0 3)))), (4, (AV.v (TV.one (At.int .i64 k))))] [(Blk.mk Bool.true (Body.cells [At.nilsl, At.nilsl, At.nilsl])), (Blk.mk Bool.true (Body.cells [(At.sl 2 0 q18 1), (At.sl 3 0 q16 1), (At.sl 4 0 q17 1)])), (Blk.mk Bool.true (Body.fl .f32 b2)), (Blk.mk Bool.true (Body.fl .f32 b3)), (Blk.mk Bool.true (Body.fl .f32 b4))]) K = z3g q0o k q18 q16 q17 b2 b3 b4 (fun k' q18' q16' q17' b2' b3' b4' => K .normal (St.mk [(0, (AV.v (TV.one (At.int .i64 q0o)))), (2, (AV.v (TV.one (At.ptr 0 0 3)))), (3, (AV.v (TV.one (At.ptr 1 0 3)))), (4, (AV.v (TV.one (At.int .i64 k'))))] [(Blk.mk Bool.true (Body.cells [At.nilsl, At.nilsl, At.nilsl])), (Blk.mk Bool.true (Body.cells [(At.sl 2 0 q18' 1), (At.sl 3 0 q16' 1), (At.sl 4 0 q17' 1)])), (Blk.mk Bool.true (Body.fl .f32 b2')), (Blk.mk Bool.true (Body.fl .f32 b3')), (Blk.mk Bool.true (Body.fl .f32 b4'))])) (fun c0_ c1_ c2_ c3_ c4_ c5_ c6_ c7_ => K (Ex.exit 0) (St.mk [(0, (AV.v (TV.one (At.int .i64 q0o)))), (2, (AV.v (TV.one (At.ptr 0 0 3)))), (3, (AV.v (TV.one (At.ptr 1 0 3)))), (4, (AV.v (TV.one (At.int .i64 c0_)))), (11, (AV.v (TV.one (At.bool c1_))))] [(Blk.mk Bool.true (Body.cells [At.nilsl, At.nilsl, At.nilsl])), (Blk.mk Bool.true (Body.cells [(At.sl 2 0 c2_ 1), (At.sl 3 0 c3_ 1), (At.sl 4 0 c4_ 1)])), (Blk.mk Bool.true (Body.fl .f32 c5_)), (Blk.mk Bool.true (Body.fl .f32 c6_)), (Blk.mk Bool.true (Body.fl .f32 c7_))])) := by kernel_rfl
theorem zj5 (q0o : Int) : ∀ (n : Nat) (k : Int) (q18 : Nat) (q16 : Nat) (q17 : Nat) (b2 : List Nat) (b3 : List Nat) (b4 : List Nat), iter 47 3 0 (evC (R := Ex × St) Γ6 (evFn Γ6 8 8) 47 0 fi47.nt fi47.live fi47.nl 8 (findL 3 (loopsIn fi47.code))) n (St.mk [(0, (AV.v (TV.one (At.int .i64 q0o)))), (2, (AV.v (TV.one (At.ptr 0 0 3)))), (3, (AV.v (TV.one (At.ptr 1 0 3)))), (4, (AV.v (TV.one (At.int .i64 k))))] [(Blk.mk Bool.true (Body.cells [At.nilsl, At.nilsl, At.nilsl])), (Blk.mk Bool.true (Body.cells [(At.sl 2 0 q18 1), (At.sl 3 0 q16 1), (At.sl 4 0 q17 1)])), (Blk.mk Bool.true (Body.fl .f32 b2)), (Blk.mk Bool.true (Body.fl .f32 b3)), (Blk.mk Bool.true (Body.fl .f32 b4))]) (fun e st => some (e, st)) = (z8v q0o) (z0q q0o n k q18 q16 q17 b2 b3 b4) := by
  intro n
  induction n with
  | zero => intros; rfl
  | succ n ih =>
    intro k q18 q16 q17 b2 b3 b4
    refine Eq.trans (iter_succ ..) (Eq.trans (zju q0o k q18 q16 q17 b2 b3 b4 (nextK 47 3 0 (evC (R := Ex × St) Γ6 (evFn Γ6 8 8) 47 0 fi47.nt fi47.live fi47.nl 8 (findL 3 (loopsIn fi47.code))) n (fun e st => some (e, st)))) (Eq.trans ?_ (zgd q0o k q18 q16 q17 b2 b3 b4 (z8v q0o) rfl (fun k' q18' q16' q17' b2' b3' b4' => z0q q0o n k' q18' q16' q17' b2' b3' b4') (fun c0_ c1_ c2_ c3_ c4_ c5_ c6_ c7_ => some (c0_, c1_, c2_, c3_, c4_, c5_, c6_, c7_)))))
    exact congrArg (fun kn_ => z3g q0o k q18 q16 q17 b2 b3 b4 kn_ (fun c0_ c1_ c2_ c3_ c4_ c5_ c6_ c7_ => (z8v q0o) (some (c0_, c1_, c2_, c3_, c4_, c5_, c6_, c7_)))) (funext fun k' => funext fun q18' => funext fun q16' => funext fun q17' => funext fun b2' => funext fun b3' => funext fun b4' => ih k' q18' q16' q17' b2' b3' b4')
theorem zgz : LoopOne Try.prog fnTab 47 3 zeo := lp_of (Γ := Γ6) tyTab_ok (FnL.ok fnTab_ok _ _) (LpL.ok lt6_ok) (SumL.ok tb6_ok _) mixed (fi := fi47) (by kernel_rfl) (by kernel_rfl) (by
  intro lo st out hp
  obtain ⟨hs, e1, e2, e3⟩ := lpT_inv hp
  clear hp
  obtain rfl : st = (St.mk [(0, (AV.v (TV.one (At.int .i64 (hvI (hGet hs 0)))))), (2, (AV.v (TV.one (At.ptr 0 0 3)))), (3, (AV.v (TV.one (At.ptr 1 0 3)))), (4, (AV.v (TV.one (At.int .i64 (hvI (hGet hs 1))))))] [(Blk.mk Bool.true (Body.cells [At.nilsl, At.nilsl, At.nilsl])), (Blk.mk Bool.true (Body.cells [(At.sl 2 0 (hvN (hGet hs 2)) 1), (At.sl 3 0 (hvN (hGet hs 3)) 1), (At.sl 4 0 (hvN (hGet hs 4)) 1)])), (Blk.mk Bool.true (Body.fl .f32 (hvLn (hGet hs 5)))), (Blk.mk Bool.true (Body.fl .f32 (hvLn (hGet hs 6)))), (Blk.mk Bool.true (Body.fl .f32 (hvLn (hGet hs 7))))]) := e2.trans (by kernel_rfl)
  clear e2
  subst e1
  unfold zdi at e3
  injection e3 with h1 h2
  subst h2
  exact ⟨8, 8, big, Eq.trans (zj5 (hvI (hGet hs 0)) big (hvI (hGet hs 1)) (hvN (hGet hs 2)) (hvN (hGet hs 3)) (hvN (hGet hs 4)) (hvLn (hGet hs 5)) (hvLn (hGet hs 6)) (hvLn (hGet hs 7))) (zjl (hvI (hGet hs 0)) (z0q (hvI (hGet hs 0)) big (hvI (hGet hs 1)) (hvN (hGet hs 2)) (hvN (hGet hs 3)) (hvN (hGet hs 4)) (hvLn (hGet hs 5)) (hvLn (hGet hs 6)) (hvLn (hGet hs 7))) h1)⟩)
noncomputable def tb7 : List (Nat × (List PT → Option (Bool × AV × List Blk))) := (38, zd3) :: (53, z3w) :: (53, z42) :: tb6
noncomputable def lt7 : List ((Nat × Nat) × (Nat → St → Option (Bool × LO))) := ((47, 3), zeo) :: lt6
noncomputable def Γ7 : Ctx := ⟨tyTab, fnTab, tblSum tb7, tblLp lt7⟩
theorem tb7_ok : SumL Try.prog tb7 := SumL.cons ziq (SumL.cons z90 (SumL.cons z97 (tb6_ok)))
theorem lt7_ok : LpL Try.prog fnTab lt7 := LpL.cons zgz (lt6_ok)
noncomputable def zd7 : List PT → Option (Bool × AV × List Blk)
  | [.one (.row 1 q0x (.fl .f32 q11))] => some ((z5b q0x q11), ((AV.v (TV.one (At.bool (z4n q0x q11)))), []))
  | _ => none
def zfl (q0x : Nat) (q11 : List Nat) : Option (Bool) → Option (AV × List Blk)
  | some r => some ((AV.v (TV.one (At.bool r))), [])
  | none => none
theorem zla (q0x : Nat) (q11 : List Nat) : evFn Γ7 8 8 33 (impTs 0 [.one (.row 1 q0x (.fl .f32 q11))]).1 (impTs 0 [.one (.row 1 q0x (.fl .f32 q11))]).2 (expo (impTs 0 [.one (.row 1 q0x (.fl .f32 q11))]).2.length) = z6h q0x q11 (fun c0_ => some ((AV.v (TV.one (At.bool c0_))), [])) := by kernel_rfl
theorem zii : SumOne Try.prog 33 zd7 := sum_of (Γ := Γ7) (fuel := 8) (d := 8) tyTab_ok (FnL.ok fnTab_ok _ _) (LpL.ok lt7_ok) (SumL.ok tb7_ok _) mixed (by
  intro pts v news hp hc
  clear hc
  unfold zd7 at hp
  split at hp
  · rename_i q0x q11
    exact Eq.trans (Eq.trans (zla q0x q11) (zhk q0x q11 (zfl q0x q11) rfl (fun c0_ => some c0_))) (fin_out (o := (zfl q0x q11)) (x := z58 q0x q11) (d := default) (V := fun r => ((AV.v (TV.one (At.bool r))), [])) (fun r => rfl) hp)
  · cases hp)
noncomputable def zdr : List PT → Option (Bool × AV × List Blk)
  | [.one (.row 1 q0x (.fl .f32 q11))] => some ((zbg q0x q11), ((AV.v (TV.one (At.bool (zaw q0x q11)))), []))
  | _ => none
def zfz (q0x : Nat) (q11 : List Nat) : Option (Bool) → Option (AV × List Blk)
  | some r => some ((AV.v (TV.one (At.bool r))), [])
  | none => none
theorem zlq (q0x : Nat) (q11 : List Nat) : evFn Γ7 8 8 36 (impTs 0 [.one (.row 1 q0x (.fl .f32 q11))]).1 (impTs 0 [.one (.row 1 q0x (.fl .f32 q11))]).2 (expo (impTs 0 [.one (.row 1 q0x (.fl .f32 q11))]).2.length) = z6w q0x q11 (fun c0_ => some ((AV.v (TV.one (At.bool c0_))), [])) := by kernel_rfl
theorem zk7 : SumOne Try.prog 36 zdr := sum_of (Γ := Γ7) (fuel := 8) (d := 8) tyTab_ok (FnL.ok fnTab_ok _ _) (LpL.ok lt7_ok) (SumL.ok tb7_ok _) mixed (by
  intro pts v news hp hc
  clear hc
  unfold zdr at hp
  split at hp
  · rename_i q0x q11
    exact Eq.trans (Eq.trans (zlq q0x q11) (zix q0x q11 (zfz q0x q11) rfl (fun c0_ => some c0_))) (fin_out (o := (zfz q0x q11)) (x := z6x q0x q11) (d := default) (V := fun r => ((AV.v (TV.one (At.bool r))), [])) (fun r => rfl) hp)
  · cases hp)
noncomputable def zds : List PT → Option (Bool × AV × List Blk)
  | [.one (.s (.int .i64 q0o))] => some ((zbj q0o), ((AV.v (TV.agg [(At.sl 0 0 (zas q0o) 1), (At.sl 1 0 (zam q0o) 1), (At.sl 2 0 (zau q0o) 1)])), [(Blk.mk Bool.true (Body.fl .f32 (zao q0o))), (Blk.mk Bool.true (Body.fl .f32 (zb1 q0o))), (Blk.mk Bool.true (Body.fl .f32 (zb2 q0o)))]))
  | _ => none
def zfv (q0o : Int) : Option (Nat × Nat × Nat × (List Nat) × (List Nat) × (List Nat)) → Option (AV × List Blk)
  | some r => some ((AV.v (TV.agg [(At.sl 0 0 r.1 1), (At.sl 1 0 r.2.1 1), (At.sl 2 0 r.2.2.1 1)])), [(Blk.mk Bool.true (Body.fl .f32 r.2.2.2.1)), (Blk.mk Bool.true (Body.fl .f32 r.2.2.2.2.1)), (Blk.mk Bool.true (Body.fl .f32 r.2.2.2.2.2))])
  | none => none
theorem zlv (q0o : Int) : evFn Γ7 8 8 47 (impTs 0 [.one (.s (.int .i64 q0o))]).1 (impTs 0 [.one (.s (.int .i64 q0o))]).2 (expo (impTs 0 [.one (.s (.int .i64 q0o))]).2.length) = z70 q0o (fun c0_ c1_ c2_ c3_ c4_ c5_ => some ((AV.v (TV.agg [(At.sl 0 0 c0_ 1), (At.sl 1 0 c1_ 1), (At.sl 2 0 c2_ 1)])), [(Blk.mk Bool.true (Body.fl .f32 c3_)), (Blk.mk Bool.true (Body.fl .f32 c4_)), (Blk.mk Bool.true (Body.fl .f32 c5_))])) := by kernel_rfl
theorem zjv : SumOne Try.prog 47 zds := sum_of (Γ := Γ7) (fuel := 8) (d := 8) tyTab_ok (FnL.ok fnTab_ok _ _) (LpL.ok lt7_ok) (SumL.ok tb7_ok _) mixed (by
  intro pts v news hp hc
  clear hc
  unfold zds at hp
  split at hp
  · rename_i q0o
    exact Eq.trans (Eq.trans (zlv q0o) (ziy q0o (zfv q0o) rfl (fun c0_ c1_ c2_ c3_ c4_ c5_ => some (c0_, c1_, c2_, c3_, c4_, c5_)))) (fin_out (o := (zfv q0o)) (x := z3l q0o) (d := default) (V := fun r => ((AV.v (TV.agg [(At.sl 0 0 r.1 1), (At.sl 1 0 r.2.1 1), (At.sl 2 0 r.2.2.1 1)])), [(Blk.mk Bool.true (Body.fl .f32 r.2.2.2.1)), (Blk.mk Bool.true (Body.fl .f32 r.2.2.2.2.1)), (Blk.mk Bool.true (Body.fl .f32 r.2.2.2.2.2))])) (fun r => rfl) hp)
  · cases hp)
noncomputable def tb8 : List (Nat × (List PT → Option (Bool × AV × List Blk))) := (33, zd7) :: (36, zdr) :: (47, zds) :: tb7
noncomputable def lt8 : List ((Nat × Nat) × (Nat → St → Option (Bool × LO))) := lt7
noncomputable def Γ8 : Ctx := ⟨tyTab, fnTab, tblSum tb8, tblLp lt8⟩
theorem tb8_ok : SumL Try.prog tb8 := SumL.cons zii (SumL.cons zk7 (SumL.cons zjv (tb7_ok)))
theorem lt8_ok : LpL Try.prog fnTab lt8 := lt7_ok
noncomputable def zdb : List PT → Option (Bool × AV × List Blk)
  | [.one (.s (.bool q0p)), .one (.s (.flt .f32 q0n)), .one (.s (.flt .f32 up)), .one (.s (.flt .f32 q0w))] => some ((z7s q0p q0n up q0w), ((AV.tup [(TV.one (At.bool (z21 q0p q0n up q0w))), (TV.one (At.bool (z7b q0p q0n up q0w)))]), []))
  | _ => none
def zfg (q0p : Bool) (q0n : Nat) (up : Nat) (q0w : Nat) : Option (Bool × Bool) → Option (AV × List Blk)
  | some r => some ((AV.tup [(TV.one (At.bool r.1)), (TV.one (At.bool r.2))]), [])
  | none => none
theorem zle (q0p : Bool) (q0n : Nat) (up : Nat) (q0w : Nat) : evFn Γ8 8 8 16 (impTs 0 [.one (.s (.bool q0p)), .one (.s (.flt .f32 q0n)), .one (.s (.flt .f32 up)), .one (.s (.flt .f32 q0w))]).1 (impTs 0 [.one (.s (.bool q0p)), .one (.s (.flt .f32 q0n)), .one (.s (.flt .f32 up)), .one (.s (.flt .f32 q0w))]).2 (expo (impTs 0 [.one (.s (.bool q0p)), .one (.s (.flt .f32 q0n)), .one (.s (.flt .f32 up)), .one (.s (.flt .f32 q0w))]).2.length) = z69 q0p q0n up q0w (fun c0_ c1_ => some ((AV.tup [(TV.one (At.bool c0_)), (TV.one (At.bool c1_))]), [])) := by kernel_rfl
theorem zio : SumOne Try.prog 16 zdb := sum_of (Γ := Γ8) (fuel := 8) (d := 8) tyTab_ok (FnL.ok fnTab_ok _ _) (LpL.ok lt8_ok) (SumL.ok tb8_ok _) mixed (by
  intro pts v news hp hc
  clear hc
  unfold zdb at hp
  split at hp
  · rename_i q0p q0n up q0w
    exact Eq.trans (Eq.trans (zle q0p q0n up q0w) (zht q0p q0n up q0w (zfg q0p q0n up q0w) rfl (fun c0_ c1_ => some (c0_, c1_)))) (fin_out (o := (zfg q0p q0n up q0w)) (x := z5c q0p q0n up q0w) (d := default) (V := fun r => ((AV.tup [(TV.one (At.bool r.1)), (TV.one (At.bool r.2))]), [])) (fun r => rfl) hp)
  · cases hp)
noncomputable def zci : List PT → Option (Bool × AV × List Blk)
  | [.one (.s (.flt .f32 x)), .one (.s (.flt .f32 y))] => some ((z9i x y), ((AV.tup [(TV.one (At.flt .f32 (z8p x y))), (TV.one (At.flt .f32 (z8n x y))), (TV.one (At.bool (z93 x y)))]), []))
  | _ => none
def zew (x : Nat) (y : Nat) : Option (Nat × Nat × Bool) → Option (AV × List Blk)
  | some r => some ((AV.tup [(TV.one (At.flt .f32 r.1)), (TV.one (At.flt .f32 r.2.1)), (TV.one (At.bool r.2.2))]), [])
  | none => none
theorem zko (x : Nat) (y : Nat) : evFn Γ8 8 8 35 (impTs 0 [.one (.s (.flt .f32 x)), .one (.s (.flt .f32 y))]).1 (impTs 0 [.one (.s (.flt .f32 x)), .one (.s (.flt .f32 y))]).2 (expo (impTs 0 [.one (.s (.flt .f32 x)), .one (.s (.flt .f32 y))]).2.length) = z5z x y (fun c0_ c1_ c2_ => some ((AV.tup [(TV.one (At.flt .f32 c0_)), (TV.one (At.flt .f32 c1_)), (TV.one (At.bool c2_))]), [])) := by kernel_rfl
theorem zhq : SumOne Try.prog 35 zci := sum_of (Γ := Γ8) (fuel := 8) (d := 8) tyTab_ok (FnL.ok fnTab_ok _ _) (LpL.ok lt8_ok) (SumL.ok tb8_ok _) mixed (by
  intro pts v news hp hc
  clear hc
  unfold zci at hp
  split at hp
  · rename_i x y
    exact Eq.trans (Eq.trans (zko x y) (zhe x y (zew x y) rfl (fun c0_ c1_ c2_ => some (c0_, c1_, c2_)))) (fin_out (o := (zew x y)) (x := z47 x y) (d := default) (V := fun r => ((AV.tup [(TV.one (At.flt .f32 r.1)), (TV.one (At.flt .f32 r.2.1)), (TV.one (At.bool r.2.2))]), [])) (fun r => rfl) hp)
  · cases hp)
noncomputable def z4i (sn : Nat) (t7 : Int) (t8 : Int) (b0 : List Nat) (b1 : List Nat) (b2 : List Nat) (q0i : Nat) (q0f : Nat) (q0h : Nat) (b4 : Nat) : Bool × LO := ((z12 sn t7 b0 b4 t8), (LO.two (z10 sn t7 b0 b4 t8) (LO.one Ex.ret (St.mk [(4, (AV.v (TV.one (At.int .i64 (z0k sn t7 b0 b4 t8)))))] [(Blk.mk Bool.false (Body.fl .f32 b0)), (Blk.mk Bool.false (Body.fl .f32 b1)), (Blk.mk Bool.false (Body.fl .f32 b2)), (Blk.mk Bool.true (Body.cells [(At.vw 0 0 q0i 1), (At.vw 1 0 q0f 1), (At.vw 2 0 q0h 1)])), (Blk.mk Bool.true (Body.cells [(At.flt .f32 b4)]))])) (LO.one (Ex.exit 0) (St.mk [(0, (AV.v (TV.one (At.vw 0 0 sn 1)))), (1, (AV.v (TV.one (At.fn 67 [(At.ptr 4 0 1)])))), (7, (AV.v (TV.one (At.int .i64 t7)))), (8, (AV.v (TV.one (At.int .i64 (z31 sn t7 b0 b4 t8))))), (9, (AV.v (TV.one (At.bool (z32 sn t7 b0 b4 t8)))))] [(Blk.mk Bool.false (Body.fl .f32 b0)), (Blk.mk Bool.false (Body.fl .f32 b1)), (Blk.mk Bool.false (Body.fl .f32 b2)), (Blk.mk Bool.true (Body.cells [(At.vw 0 0 q0i 1), (At.vw 1 0 q0f 1), (At.vw 2 0 q0h 1)])), (Blk.mk Bool.true (Body.cells [(At.flt .f32 b4)]))]))))
noncomputable def z4p : Nat → St → Option (Bool × LO) := lpT 5 (pSt [(pTm 0 (pV (pOne (pVw 0 (liN 0) 1)))), (pTm 1 (pV (pOne (pFn 67 [(pPtr 4 (liN 0) 1)])))), (pTm 7 (pV (pOne (pInt .i64)))), (pTm 8 (pV (pOne (pInt .i64))))] [(pBlk Bool.false (pFl .f32)), (pBlk Bool.false (pFl .f32)), (pBlk Bool.false (pFl .f32)), (pBlk Bool.true (pCells [(pVw 0 (liN 0) 1), (pVw 1 (liN 0) 1), (pVw 2 (liN 0) 1)])), (pBlk Bool.true (pCells [(pFlt .f32)]))]) (fun hs => z4i (hvN (hGet hs 0)) (hvI (hGet hs 1)) (hvI (hGet hs 2)) (hvLn (hGet hs 3)) (hvLn (hGet hs 4)) (hvLn (hGet hs 5)) (hvN (hGet hs 6)) (hvN (hGet hs 7)) (hvN (hGet hs 8)) (hvN (hGet hs 9)))
def z1s (sn : Nat) (t7 : Int) (b0 : List Nat) (b1 : List Nat) (b2 : List Nat) (q0i : Nat) (q0f : Nat) (q0h : Nat) (b4 : Nat) : Option ((Int) ⊕ (Int × Bool)) → Option (Ex × St)
  | none => none
  | some (Sum.inl r) => some (Ex.ret, (St.mk [(4, (AV.v (TV.one (At.int .i64 r))))] [(Blk.mk Bool.false (Body.fl .f32 b0)), (Blk.mk Bool.false (Body.fl .f32 b1)), (Blk.mk Bool.false (Body.fl .f32 b2)), (Blk.mk Bool.true (Body.cells [(At.vw 0 0 q0i 1), (At.vw 1 0 q0f 1), (At.vw 2 0 q0h 1)])), (Blk.mk Bool.true (Body.cells [(At.flt .f32 b4)]))]))
  | some (Sum.inr r) => some ((Ex.exit 0), (St.mk [(0, (AV.v (TV.one (At.vw 0 0 sn 1)))), (1, (AV.v (TV.one (At.fn 67 [(At.ptr 4 0 1)])))), (7, (AV.v (TV.one (At.int .i64 t7)))), (8, (AV.v (TV.one (At.int .i64 r.1)))), (9, (AV.v (TV.one (At.bool r.2))))] [(Blk.mk Bool.false (Body.fl .f32 b0)), (Blk.mk Bool.false (Body.fl .f32 b1)), (Blk.mk Bool.false (Body.fl .f32 b2)), (Blk.mk Bool.true (Body.cells [(At.vw 0 0 q0i 1), (At.vw 1 0 q0f 1), (At.vw 2 0 q0h 1)])), (Blk.mk Bool.true (Body.cells [(At.flt .f32 b4)]))]))
def z85 (sn : Nat) (t7 : Int) (b0 : List Nat) (b1 : List Nat) (b2 : List Nat) (q0i : Nat) (q0f : Nat) (q0h : Nat) (b4 : Nat) (x : Option ((Int) ⊕ (Int × Bool))) : LO := (LO.two (oL x) (LO.one Ex.ret (St.mk [(4, (AV.v (TV.one (At.int .i64 ((tL x).getD default)))))] [(Blk.mk Bool.false (Body.fl .f32 b0)), (Blk.mk Bool.false (Body.fl .f32 b1)), (Blk.mk Bool.false (Body.fl .f32 b2)), (Blk.mk Bool.true (Body.cells [(At.vw 0 0 q0i 1), (At.vw 1 0 q0f 1), (At.vw 2 0 q0h 1)])), (Blk.mk Bool.true (Body.cells [(At.flt .f32 b4)]))])) (LO.one (Ex.exit 0) (St.mk [(0, (AV.v (TV.one (At.vw 0 0 sn 1)))), (1, (AV.v (TV.one (At.fn 67 [(At.ptr 4 0 1)])))), (7, (AV.v (TV.one (At.int .i64 t7)))), (8, (AV.v (TV.one (At.int .i64 ((tR x).getD default).1)))), (9, (AV.v (TV.one (At.bool ((tR x).getD default).2))))] [(Blk.mk Bool.false (Body.fl .f32 b0)), (Blk.mk Bool.false (Body.fl .f32 b1)), (Blk.mk Bool.false (Body.fl .f32 b2)), (Blk.mk Bool.true (Body.cells [(At.vw 0 0 q0i 1), (At.vw 1 0 q0f 1), (At.vw 2 0 q0h 1)])), (Blk.mk Bool.true (Body.cells [(At.flt .f32 b4)]))])))
theorem z8i (sn : Nat) (t7 : Int) (b0 : List Nat) (b1 : List Nat) (b2 : List Nat) (q0i : Nat) (q0f : Nat) (q0h : Nat) (b4 : Nat) : ∀ x : Option ((Int) ⊕ (Int × Bool)), x.isSome = true → (z1s sn t7 b0 b1 b2 q0i q0f q0h b4) x = some (pick (z85 sn t7 b0 b1 b2 q0i q0f q0h b4 x))
  | none, h => by cases h
  | some (Sum.inl r), _ => rfl
  | some (Sum.inr r), _ => rfl
theorem z8r (sn : Nat) (t7 : Int) (t8 : Int) (b0 : List Nat) (b1 : List Nat) (b2 : List Nat) (q0i : Nat) (q0f : Nat) (q0h : Nat) (b4 : Nat) (K : Ex → St → Option (Ex × St)) : evC (R := Ex × St) Γ8 (evFn Γ8 8 8) 66 5 fi66.nt fi66.live fi66.nl 8 (findL 2 (loopsIn fi66.code)) (St.mk [(0, (AV.v (TV.one (At.vw 0 0 sn 1)))), (1, (AV.v (TV.one (At.fn 67 [(At.ptr 4 0 1)])))), (7, (AV.v (TV.one (At.int .i64 t7)))), (8, (AV.v (TV.one (At.int .i64 t8))))] [(Blk.mk Bool.false (Body.fl .f32 b0)), (Blk.mk Bool.false (Body.fl .f32 b1)), (Blk.mk Bool.false (Body.fl .f32 b2)), (Blk.mk Bool.true (Body.cells [(At.vw 0 0 q0i 1), (At.vw 1 0 q0f 1), (At.vw 2 0 q0h 1)])), (Blk.mk Bool.true (Body.cells [(At.flt .f32 b4)]))]) K = z0m sn t7 b0 b4 t8 (fun t8' => K .normal (St.mk [(0, (AV.v (TV.one (At.vw 0 0 sn 1)))), (1, (AV.v (TV.one (At.fn 67 [(At.ptr 4 0 1)])))), (7, (AV.v (TV.one (At.int .i64 t7)))), (8, (AV.v (TV.one (At.int .i64 t8'))))] [(Blk.mk Bool.false (Body.fl .f32 b0)), (Blk.mk Bool.false (Body.fl .f32 b1)), (Blk.mk Bool.false (Body.fl .f32 b2)), (Blk.mk Bool.true (Body.cells [(At.vw 0 0 q0i 1), (At.vw 1 0 q0f 1), (At.vw 2 0 q0h 1)])), (Blk.mk Bool.true (Body.cells [(At.flt .f32 b4)]))])) (fun c0_ => K Ex.ret (St.mk [(4, (AV.v (TV.one (At.int .i64 c0_))))] [(Blk.mk Bool.false (Body.fl .f32 b0)), (Blk.mk Bool.false (Body.fl .f32 b1)), (Blk.mk Bool.false (Body.fl .f32 b2)), (Blk.mk Bool.true (Body.cells [(At.vw 0 0 q0i 1), (At.vw 1 0 q0f 1), (At.vw 2 0 q0h 1)])), (Blk.mk Bool.true (Body.cells [(At.flt .f32 b4)]))])) (fun c0_ c1_ => K (Ex.exit 0) (St.mk [(0, (AV.v (TV.one (At.vw 0 0 sn 1)))), (1, (AV.v (TV.one (At.fn 67 [(At.ptr 4 0 1)])))), (7, (AV.v (TV.one (At.int .i64 t7)))), (8, (AV.v (TV.one (At.int .i64 c0_)))), (9, (AV.v (TV.one (At.bool c1_))))] [(Blk.mk Bool.false (Body.fl .f32 b0)), (Blk.mk Bool.false (Body.fl .f32 b1)), (Blk.mk Bool.false (Body.fl .f32 b2)), (Blk.mk Bool.true (Body.cells [(At.vw 0 0 q0i 1), (At.vw 1 0 q0f 1), (At.vw 2 0 q0h 1)])), (Blk.mk Bool.true (Body.cells [(At.flt .f32 b4)]))])) := by kernel_rfl
theorem z8z (sn : Nat) (t7 : Int) (b0 : List Nat) (b1 : List Nat) (b2 : List Nat) (q0i : Nat) (q0f : Nat) (q0h : Nat) (b4 : Nat) : ∀ (n : Nat) (t8 : Int), iter 66 2 5 (evC (R := Ex × St) Γ8 (evFn Γ8 8 8) 66 5 fi66.nt fi66.live fi66.nl 8 (findL 2 (loopsIn fi66.code))) n (St.mk [(0, (AV.v (TV.one (At.vw 0 0 sn 1)))), (1, (AV.v (TV.one (At.fn 67 [(At.ptr 4 0 1)])))), (7, (AV.v (TV.one (At.int .i64 t7)))), (8, (AV.v (TV.one (At.int .i64 t8))))] [(Blk.mk Bool.false (Body.fl .f32 b0)), (Blk.mk Bool.false (Body.fl .f32 b1)), (Blk.mk Bool.false (Body.fl .f32 b2)), (Blk.mk Bool.true (Body.cells [(At.vw 0 0 q0i 1), (At.vw 1 0 q0f 1), (At.vw 2 0 q0h 1)])), (Blk.mk Bool.true (Body.cells [(At.flt .f32 b4)]))]) (fun e st => some (e, st)) = (z1s sn t7 b0 b1 b2 q0i q0f q0h b4) (z0g sn t7 b0 b4 n t8) := by
  intro n
  induction n with
  | zero => intros; rfl
  | succ n ih =>
    intro t8
    refine Eq.trans (iter_succ ..) (Eq.trans (z8r sn t7 t8 b0 b1 b2 q0i q0f q0h b4 (nextK 66 2 5 (evC (R := Ex × St) Γ8 (evFn Γ8 8 8) 66 5 fi66.nt fi66.live fi66.nl 8 (findL 2 (loopsIn fi66.code))) n (fun e st => some (e, st)))) (Eq.trans ?_ (z7n sn t7 b0 b4 t8 (z1s sn t7 b0 b1 b2 q0i q0f q0h b4) rfl (fun t8' => z0g sn t7 b0 b4 n t8') (fun c0_ => some (Sum.inl c0_)) (fun c0_ c1_ => some (Sum.inr (c0_, c1_))))))
    exact congrArg (fun kn_ => z0m sn t7 b0 b4 t8 kn_ (fun c0_ => (z1s sn t7 b0 b1 b2 q0i q0f q0h b4) (some (Sum.inl c0_))) (fun c0_ c1_ => (z1s sn t7 b0 b1 b2 q0i q0f q0h b4) (some (Sum.inr (c0_, c1_))))) (funext fun t8' => ih t8')
theorem z7u : LoopOne Try.prog fnTab 66 2 z4p := lp_of (Γ := Γ8) tyTab_ok (FnL.ok fnTab_ok _ _) (LpL.ok lt8_ok) (SumL.ok tb8_ok _) mixed (fi := fi66) (by kernel_rfl) (by kernel_rfl) (by
  intro lo st out hp
  obtain ⟨hs, e1, e2, e3⟩ := lpT_inv hp
  clear hp
  obtain rfl : st = (St.mk [(0, (AV.v (TV.one (At.vw 0 0 (hvN (hGet hs 0)) 1)))), (1, (AV.v (TV.one (At.fn 67 [(At.ptr 4 0 1)])))), (7, (AV.v (TV.one (At.int .i64 (hvI (hGet hs 1)))))), (8, (AV.v (TV.one (At.int .i64 (hvI (hGet hs 2))))))] [(Blk.mk Bool.false (Body.fl .f32 (hvLn (hGet hs 3)))), (Blk.mk Bool.false (Body.fl .f32 (hvLn (hGet hs 4)))), (Blk.mk Bool.false (Body.fl .f32 (hvLn (hGet hs 5)))), (Blk.mk Bool.true (Body.cells [(At.vw 0 0 (hvN (hGet hs 6)) 1), (At.vw 1 0 (hvN (hGet hs 7)) 1), (At.vw 2 0 (hvN (hGet hs 8)) 1)])), (Blk.mk Bool.true (Body.cells [(At.flt .f32 (hvN (hGet hs 9)))]))]) := e2.trans (by kernel_rfl)
  clear e2
  subst e1
  unfold z4i at e3
  injection e3 with h1 h2
  subst h2
  exact ⟨8, 8, big, Eq.trans (z8z (hvN (hGet hs 0)) (hvI (hGet hs 1)) (hvLn (hGet hs 3)) (hvLn (hGet hs 4)) (hvLn (hGet hs 5)) (hvN (hGet hs 6)) (hvN (hGet hs 7)) (hvN (hGet hs 8)) (hvN (hGet hs 9)) big (hvI (hGet hs 2))) (z8i (hvN (hGet hs 0)) (hvI (hGet hs 1)) (hvLn (hGet hs 3)) (hvLn (hGet hs 4)) (hvLn (hGet hs 5)) (hvN (hGet hs 6)) (hvN (hGet hs 7)) (hvN (hGet hs 8)) (hvN (hGet hs 9)) (z0g (hvN (hGet hs 0)) (hvI (hGet hs 1)) (hvLn (hGet hs 3)) (hvN (hGet hs 9)) big (hvI (hGet hs 2))) h1)⟩)
noncomputable def tb9 : List (Nat × (List PT → Option (Bool × AV × List Blk))) := (16, zdb) :: (35, zci) :: tb8
noncomputable def lt9 : List ((Nat × Nat) × (Nat → St → Option (Bool × LO))) := ((66, 2), z4p) :: lt8
noncomputable def Γ9 : Ctx := ⟨tyTab, fnTab, tblSum tb9, tblLp lt9⟩
theorem tb9_ok : SumL Try.prog tb9 := SumL.cons zio (SumL.cons zhq (tb8_ok))
theorem lt9_ok : LpL Try.prog fnTab lt9 := LpL.cons z7u (lt8_ok)
noncomputable def z96 : List PT → Option (Bool × AV × List Blk)
  | [.agg [.row 1 q01 (.fl .f32 q05), .row 1 q02 (.fl .f32 q06), .row 1 q03 (.fl .f32 q07)], .one (.s (.flt .f32 x1))] => some ((z6j q01 q05 q02 q06 q03 q07 x1), ((AV.tup [(TV.one (At.int .i64 (z2h q01 q05 q02 q06 q03 q07 x1))), (TV.one (At.int .i64 (z2g q01 q05 q02 q06 q03 q07 x1))), (TV.one (At.flt .f32 (z2t q01 q05 q02 q06 q03 q07 x1))), (TV.one (At.flt .f32 (z44 q01 q05 q02 q06 q03 q07 x1))), (TV.one (At.flt .f32 (z4m q01 q05 q02 q06 q03 q07 x1)))]), []))
  | _ => none
def zcu (q01 : Nat) (q05 : List Nat) (q02 : Nat) (q06 : List Nat) (q03 : Nat) (q07 : List Nat) (x1 : Nat) : Option (Int × Int × Nat × Nat × Nat) → Option (AV × List Blk)
  | some r => some ((AV.tup [(TV.one (At.int .i64 r.1)), (TV.one (At.int .i64 r.2.1)), (TV.one (At.flt .f32 r.2.2.1)), (TV.one (At.flt .f32 r.2.2.2.1)), (TV.one (At.flt .f32 r.2.2.2.2))]), [])
  | none => none
theorem zg8 (q01 : Nat) (q05 : List Nat) (q02 : Nat) (q06 : List Nat) (q03 : Nat) (q07 : List Nat) (x1 : Nat) : evFn Γ9 8 8 52 (impTs 0 [.agg [.row 1 q01 (.fl .f32 q05), .row 1 q02 (.fl .f32 q06), .row 1 q03 (.fl .f32 q07)], .one (.s (.flt .f32 x1))]).1 (impTs 0 [.agg [.row 1 q01 (.fl .f32 q05), .row 1 q02 (.fl .f32 q06), .row 1 q03 (.fl .f32 q07)], .one (.s (.flt .f32 x1))]).2 (expo (impTs 0 [.agg [.row 1 q01 (.fl .f32 q05), .row 1 q02 (.fl .f32 q06), .row 1 q03 (.fl .f32 q07)], .one (.s (.flt .f32 x1))]).2.length) = z3p q01 q05 q02 q06 q03 q07 x1 (fun c0_ c1_ c2_ c3_ c4_ => some ((AV.tup [(TV.one (At.int .i64 c0_)), (TV.one (At.int .i64 c1_)), (TV.one (At.flt .f32 c2_)), (TV.one (At.flt .f32 c3_)), (TV.one (At.flt .f32 c4_))]), [])) := by kernel_rfl
theorem zf6 : SumOne Try.prog 52 z96 := sum_of (Γ := Γ9) (fuel := 8) (d := 8) tyTab_ok (FnL.ok fnTab_ok _ _) (LpL.ok lt9_ok) (SumL.ok tb9_ok _) mixed (by
  intro pts v news hp hc
  clear hc
  unfold z96 at hp
  split at hp
  · rename_i q01 q05 q02 q06 q03 q07 x1
    exact Eq.trans (Eq.trans (zg8 q01 q05 q02 q06 q03 q07 x1) (zeu q01 q05 q02 q06 q03 q07 x1 (zcu q01 q05 q02 q06 q03 q07 x1) rfl (fun c0_ c1_ c2_ c3_ c4_ => some (c0_, c1_, c2_, c3_, c4_)))) (fin_out (o := (zcu q01 q05 q02 q06 q03 q07 x1)) (x := z1x q01 q05 q02 q06 q03 q07 x1) (d := default) (V := fun r => ((AV.tup [(TV.one (At.int .i64 r.1)), (TV.one (At.int .i64 r.2.1)), (TV.one (At.flt .f32 r.2.2.1)), (TV.one (At.flt .f32 r.2.2.2.1)), (TV.one (At.flt .f32 r.2.2.2.2))]), [])) (fun r => rfl) hp)
  · cases hp)
noncomputable def zbu (q1f : Nat) (t43 : Int) (t44 : Int) (b0 : List Nat) (b1 : List Nat) (b2 : List Nat) (q0i : Nat) (q0f : Nat) (q0h : Nat) : Bool × LO := ((z3o q1f t43 b0 q0i t44), (LO.two (z37 q1f t43 b0 q0i t44) (LO.one Ex.ret (St.mk [(2, (AV.v (TV.one (At.bool Bool.false))))] [(Blk.mk Bool.false (Body.fl .f32 b0)), (Blk.mk Bool.false (Body.fl .f32 b1)), (Blk.mk Bool.false (Body.fl .f32 b2))])) (LO.one (Ex.exit 0) (St.mk [(1, (AV.v (TV.one (At.ptr 3 0 3)))), (42, (AV.v (TV.one (At.vw 0 0 q1f 1)))), (43, (AV.v (TV.one (At.int .i64 t43)))), (44, (AV.v (TV.one (At.int .i64 (z7c q1f t43 b0 q0i t44))))), (45, (AV.v (TV.one (At.bool (z7e q1f t43 b0 q0i t44)))))] [(Blk.mk Bool.false (Body.fl .f32 b0)), (Blk.mk Bool.false (Body.fl .f32 b1)), (Blk.mk Bool.false (Body.fl .f32 b2)), (Blk.mk Bool.true (Body.cells [(At.vw 0 0 q0i 1), (At.vw 1 0 q0f 1), (At.vw 2 0 q0h 1)]))]))))
noncomputable def zcm : Nat → St → Option (Bool × LO) := lpT 3 (pSt [(pTm 1 (pV (pOne (pPtr 3 (liN 0) 3)))), (pTm 42 (pV (pOne (pVw 0 (liN 0) 1)))), (pTm 43 (pV (pOne (pInt .i64)))), (pTm 44 (pV (pOne (pInt .i64))))] [(pBlk Bool.false (pFl .f32)), (pBlk Bool.false (pFl .f32)), (pBlk Bool.false (pFl .f32)), (pBlk Bool.true (pCells [(pVw 0 (liN 0) 1), (pVw 1 (liN 0) 1), (pVw 2 (liN 0) 1)]))]) (fun hs => zbu (hvN (hGet hs 0)) (hvI (hGet hs 1)) (hvI (hGet hs 2)) (hvLn (hGet hs 3)) (hvLn (hGet hs 4)) (hvLn (hGet hs 5)) (hvN (hGet hs 6)) (hvN (hGet hs 7)) (hvN (hGet hs 8)))
def z4z (q1f : Nat) (t43 : Int) (b0 : List Nat) (b1 : List Nat) (b2 : List Nat) (q0i : Nat) (q0f : Nat) (q0h : Nat) : Option ((Unit) ⊕ (Int × Bool)) → Option (Ex × St)
  | none => none
  | some (Sum.inl r) => some (Ex.ret, (St.mk [(2, (AV.v (TV.one (At.bool Bool.false))))] [(Blk.mk Bool.false (Body.fl .f32 b0)), (Blk.mk Bool.false (Body.fl .f32 b1)), (Blk.mk Bool.false (Body.fl .f32 b2))]))
  | some (Sum.inr r) => some ((Ex.exit 0), (St.mk [(1, (AV.v (TV.one (At.ptr 3 0 3)))), (42, (AV.v (TV.one (At.vw 0 0 q1f 1)))), (43, (AV.v (TV.one (At.int .i64 t43)))), (44, (AV.v (TV.one (At.int .i64 r.1)))), (45, (AV.v (TV.one (At.bool r.2))))] [(Blk.mk Bool.false (Body.fl .f32 b0)), (Blk.mk Bool.false (Body.fl .f32 b1)), (Blk.mk Bool.false (Body.fl .f32 b2)), (Blk.mk Bool.true (Body.cells [(At.vw 0 0 q0i 1), (At.vw 1 0 q0f 1), (At.vw 2 0 q0h 1)]))]))
def zfp (q1f : Nat) (t43 : Int) (b0 : List Nat) (b1 : List Nat) (b2 : List Nat) (q0i : Nat) (q0f : Nat) (q0h : Nat) (x : Option ((Unit) ⊕ (Int × Bool))) : LO := (LO.two (oL x) (LO.one Ex.ret (St.mk [(2, (AV.v (TV.one (At.bool Bool.false))))] [(Blk.mk Bool.false (Body.fl .f32 b0)), (Blk.mk Bool.false (Body.fl .f32 b1)), (Blk.mk Bool.false (Body.fl .f32 b2))])) (LO.one (Ex.exit 0) (St.mk [(1, (AV.v (TV.one (At.ptr 3 0 3)))), (42, (AV.v (TV.one (At.vw 0 0 q1f 1)))), (43, (AV.v (TV.one (At.int .i64 t43)))), (44, (AV.v (TV.one (At.int .i64 ((tR x).getD default).1)))), (45, (AV.v (TV.one (At.bool ((tR x).getD default).2))))] [(Blk.mk Bool.false (Body.fl .f32 b0)), (Blk.mk Bool.false (Body.fl .f32 b1)), (Blk.mk Bool.false (Body.fl .f32 b2)), (Blk.mk Bool.true (Body.cells [(At.vw 0 0 q0i 1), (At.vw 1 0 q0f 1), (At.vw 2 0 q0h 1)]))])))
theorem zgp (q1f : Nat) (t43 : Int) (b0 : List Nat) (b1 : List Nat) (b2 : List Nat) (q0i : Nat) (q0f : Nat) (q0h : Nat) : ∀ x : Option ((Unit) ⊕ (Int × Bool)), x.isSome = true → (z4z q1f t43 b0 b1 b2 q0i q0f q0h) x = some (pick (zfp q1f t43 b0 b1 b2 q0i q0f q0h x))
  | none, h => by cases h
  | some (Sum.inl r), _ => rfl
  | some (Sum.inr r), _ => rfl
theorem zgl (q1f : Nat) (t43 : Int) (t44 : Int) (b0 : List Nat) (b1 : List Nat) (b2 : List Nat) (q0i : Nat) (q0f : Nat) (q0h : Nat) (K : Ex → St → Option (Ex × St)) : evC (R := Ex × St) Γ9 (evFn Γ9 8 8) 21 3 fi21.nt fi21.live fi21.nl 8 (findL 5 (loopsIn fi21.code)) (St.mk [(1, (AV.v (TV.one (At.ptr 3 0 3)))), (42, (AV.v (TV.one (At.vw 0 0 q1f 1)))), (43, (AV.v (TV.one (At.int .i64 t43)))), (44, (AV.v (TV.one (At.int .i64 t44))))] [(Blk.mk Bool.false (Body.fl .f32 b0)), (Blk.mk Bool.false (Body.fl .f32 b1)), (Blk.mk Bool.false (Body.fl .f32 b2)), (Blk.mk Bool.true (Body.cells [(At.vw 0 0 q0i 1), (At.vw 1 0 q0f 1), (At.vw 2 0 q0h 1)]))]) K = z2j q1f t43 b0 q0i t44 (fun t44' => K .normal (St.mk [(1, (AV.v (TV.one (At.ptr 3 0 3)))), (42, (AV.v (TV.one (At.vw 0 0 q1f 1)))), (43, (AV.v (TV.one (At.int .i64 t43)))), (44, (AV.v (TV.one (At.int .i64 t44'))))] [(Blk.mk Bool.false (Body.fl .f32 b0)), (Blk.mk Bool.false (Body.fl .f32 b1)), (Blk.mk Bool.false (Body.fl .f32 b2)), (Blk.mk Bool.true (Body.cells [(At.vw 0 0 q0i 1), (At.vw 1 0 q0f 1), (At.vw 2 0 q0h 1)]))])) (fun _ => K Ex.ret (St.mk [(2, (AV.v (TV.one (At.bool Bool.false))))] [(Blk.mk Bool.false (Body.fl .f32 b0)), (Blk.mk Bool.false (Body.fl .f32 b1)), (Blk.mk Bool.false (Body.fl .f32 b2))])) (fun c0_ c1_ => K (Ex.exit 0) (St.mk [(1, (AV.v (TV.one (At.ptr 3 0 3)))), (42, (AV.v (TV.one (At.vw 0 0 q1f 1)))), (43, (AV.v (TV.one (At.int .i64 t43)))), (44, (AV.v (TV.one (At.int .i64 c0_)))), (45, (AV.v (TV.one (At.bool c1_))))] [(Blk.mk Bool.false (Body.fl .f32 b0)), (Blk.mk Bool.false (Body.fl .f32 b1)), (Blk.mk Bool.false (Body.fl .f32 b2)), (Blk.mk Bool.true (Body.cells [(At.vw 0 0 q0i 1), (At.vw 1 0 q0f 1), (At.vw 2 0 q0h 1)]))])) := by kernel_rfl
theorem zg7 (q1f : Nat) (t43 : Int) (b0 : List Nat) (b1 : List Nat) (b2 : List Nat) (q0i : Nat) (q0f : Nat) (q0h : Nat) : ∀ (n : Nat) (t44 : Int), iter 21 5 3 (evC (R := Ex × St) Γ9 (evFn Γ9 8 8) 21 3 fi21.nt fi21.live fi21.nl 8 (findL 5 (loopsIn fi21.code))) n (St.mk [(1, (AV.v (TV.one (At.ptr 3 0 3)))), (42, (AV.v (TV.one (At.vw 0 0 q1f 1)))), (43, (AV.v (TV.one (At.int .i64 t43)))), (44, (AV.v (TV.one (At.int .i64 t44))))] [(Blk.mk Bool.false (Body.fl .f32 b0)), (Blk.mk Bool.false (Body.fl .f32 b1)), (Blk.mk Bool.false (Body.fl .f32 b2)), (Blk.mk Bool.true (Body.cells [(At.vw 0 0 q0i 1), (At.vw 1 0 q0f 1), (At.vw 2 0 q0h 1)]))]) (fun e st => some (e, st)) = (z4z q1f t43 b0 b1 b2 q0i q0f q0h) (z13 q1f t43 b0 q0i n t44) := by
  intro n
  induction n with
  | zero => intros; rfl
  | succ n ih =>
    intro t44
    refine Eq.trans (iter_succ ..) (Eq.trans (zgl q1f t43 t44 b0 b1 b2 q0i q0f q0h (nextK 21 5 3 (evC (R := Ex × St) Γ9 (evFn Γ9 8 8) 21 3 fi21.nt fi21.live fi21.nl 8 (findL 5 (loopsIn fi21.code))) n (fun e st => some (e, st)))) (Eq.trans ?_ (zes q1f t43 b0 q0i t44 (z4z q1f t43 b0 b1 b2 q0i q0f q0h) rfl (fun t44' => z13 q1f t43 b0 q0i n t44') (fun _ => some (Sum.inl ())) (fun c0_ c1_ => some (Sum.inr (c0_, c1_))))))
    exact congrArg (fun kn_ => z2j q1f t43 b0 q0i t44 kn_ (fun _ => (z4z q1f t43 b0 b1 b2 q0i q0f q0h) (some (Sum.inl ()))) (fun c0_ c1_ => (z4z q1f t43 b0 b1 b2 q0i q0f q0h) (some (Sum.inr (c0_, c1_))))) (funext fun t44' => ih t44')
theorem zf3 : LoopOne Try.prog fnTab 21 5 zcm := lp_of (Γ := Γ9) tyTab_ok (FnL.ok fnTab_ok _ _) (LpL.ok lt9_ok) (SumL.ok tb9_ok _) mixed (fi := fi21) (by kernel_rfl) (by kernel_rfl) (by
  intro lo st out hp
  obtain ⟨hs, e1, e2, e3⟩ := lpT_inv hp
  clear hp
  obtain rfl : st = (St.mk [(1, (AV.v (TV.one (At.ptr 3 0 3)))), (42, (AV.v (TV.one (At.vw 0 0 (hvN (hGet hs 0)) 1)))), (43, (AV.v (TV.one (At.int .i64 (hvI (hGet hs 1)))))), (44, (AV.v (TV.one (At.int .i64 (hvI (hGet hs 2))))))] [(Blk.mk Bool.false (Body.fl .f32 (hvLn (hGet hs 3)))), (Blk.mk Bool.false (Body.fl .f32 (hvLn (hGet hs 4)))), (Blk.mk Bool.false (Body.fl .f32 (hvLn (hGet hs 5)))), (Blk.mk Bool.true (Body.cells [(At.vw 0 0 (hvN (hGet hs 6)) 1), (At.vw 1 0 (hvN (hGet hs 7)) 1), (At.vw 2 0 (hvN (hGet hs 8)) 1)]))]) := e2.trans (by kernel_rfl)
  clear e2
  subst e1
  unfold zbu at e3
  injection e3 with h1 h2
  subst h2
  exact ⟨8, 8, big, Eq.trans (zg7 (hvN (hGet hs 0)) (hvI (hGet hs 1)) (hvLn (hGet hs 3)) (hvLn (hGet hs 4)) (hvLn (hGet hs 5)) (hvN (hGet hs 6)) (hvN (hGet hs 7)) (hvN (hGet hs 8)) big (hvI (hGet hs 2))) (zgp (hvN (hGet hs 0)) (hvI (hGet hs 1)) (hvLn (hGet hs 3)) (hvLn (hGet hs 4)) (hvLn (hGet hs 5)) (hvN (hGet hs 6)) (hvN (hGet hs 7)) (hvN (hGet hs 8)) (z13 (hvN (hGet hs 0)) (hvI (hGet hs 1)) (hvLn (hGet hs 3)) (hvN (hGet hs 6)) big (hvI (hGet hs 2))) h1)⟩)
noncomputable def tb10 : List (Nat × (List PT → Option (Bool × AV × List Blk))) := (52, z96) :: tb9
noncomputable def lt10 : List ((Nat × Nat) × (Nat → St → Option (Bool × LO))) := ((21, 5), zcm) :: lt9
noncomputable def Γ10 : Ctx := ⟨tyTab, fnTab, tblSum tb10, tblLp lt10⟩
theorem tb10_ok : SumL Try.prog tb10 := SumL.cons zf6 (tb9_ok)
theorem lt10_ok : LpL Try.prog fnTab lt10 := LpL.cons zf3 (lt9_ok)
noncomputable def zbe : List PT → Option (Bool × AV × List Blk)
  | [.agg [.row 1 q01 (.fl .f32 q05), .row 1 q02 (.fl .f32 q06), .row 1 q03 (.fl .f32 q07)]] => some ((z1t q01 q05 q02 q06 q03 q07), ((AV.v (TV.one (At.bool (z18 q01 q05 q02 q06 q03 q07)))), []))
  | _ => none
def ze7 (q01 : Nat) (q05 : List Nat) (q02 : Nat) (q06 : List Nat) (q03 : Nat) (q07 : List Nat) : Option (Bool) → Option (AV × List Blk)
  | some r => some ((AV.v (TV.one (At.bool r))), [])
  | none => none
theorem zis (q01 : Nat) (q05 : List Nat) (q02 : Nat) (q06 : List Nat) (q03 : Nat) (q07 : List Nat) : evFn Γ10 8 8 21 (impTs 0 [.agg [.row 1 q01 (.fl .f32 q05), .row 1 q02 (.fl .f32 q06), .row 1 q03 (.fl .f32 q07)]]).1 (impTs 0 [.agg [.row 1 q01 (.fl .f32 q05), .row 1 q02 (.fl .f32 q06), .row 1 q03 (.fl .f32 q07)]]).2 (expo (impTs 0 [.agg [.row 1 q01 (.fl .f32 q05), .row 1 q02 (.fl .f32 q06), .row 1 q03 (.fl .f32 q07)]]).2.length) = z4u q01 q05 q02 q06 q03 q07 (fun c0_ => some ((AV.v (TV.one (At.bool c0_))), [])) := by kernel_rfl
theorem zgf : SumOne Try.prog 21 zbe := sum_of (Γ := Γ10) (fuel := 8) (d := 8) tyTab_ok (FnL.ok fnTab_ok _ _) (LpL.ok lt10_ok) (SumL.ok tb10_ok _) mixed (by
  intro pts v news hp hc
  clear hc
  unfold zbe at hp
  split at hp
  · rename_i q01 q05 q02 q06 q03 q07
    exact Eq.trans (Eq.trans (zis q01 q05 q02 q06 q03 q07) (zfu q01 q05 q02 q06 q03 q07 (ze7 q01 q05 q02 q06 q03 q07) rfl (fun c0_ => some c0_))) (fin_out (o := (ze7 q01 q05 q02 q06 q03 q07)) (x := z4t q01 q05 q02 q06 q03 q07) (d := default) (V := fun r => ((AV.v (TV.one (At.bool r))), [])) (fun r => rfl) hp)
  · cases hp)
noncomputable def zck : List PT → Option (Bool × AV × List Blk)
  | [.agg [.row 1 q08 (.fl .f32 q0b), .row 1 q09 (.fl .f32 q0c), .row 1 q0a (.fl .f32 q0d)], .one (.row 1 q0x (.fl .f32 q11)), .one (.s (.flt .f32 q0n))] => some ((z9m q08 q0b q09 q0c q0a q0d q0x q11 q0n), ((AV.v (TV.one (At.flt .f32 (z5i q08 q0b q09 q0c q0a q0d q0x q11 q0n)))), []))
  | _ => none
def zex (q08 : Nat) (q0b : List Nat) (q09 : Nat) (q0c : List Nat) (q0a : Nat) (q0d : List Nat) (q0x : Nat) (q11 : List Nat) (q0n : Nat) : Option (Nat) → Option (AV × List Blk)
  | some r => some ((AV.v (TV.one (At.flt .f32 r))), [])
  | none => none
theorem zkk (q08 : Nat) (q0b : List Nat) (q09 : Nat) (q0c : List Nat) (q0a : Nat) (q0d : List Nat) (q0x : Nat) (q11 : List Nat) (q0n : Nat) : evFn Γ10 8 8 32 (impTs 0 [.agg [.row 1 q08 (.fl .f32 q0b), .row 1 q09 (.fl .f32 q0c), .row 1 q0a (.fl .f32 q0d)], .one (.row 1 q0x (.fl .f32 q11)), .one (.s (.flt .f32 q0n))]).1 (impTs 0 [.agg [.row 1 q08 (.fl .f32 q0b), .row 1 q09 (.fl .f32 q0c), .row 1 q0a (.fl .f32 q0d)], .one (.row 1 q0x (.fl .f32 q11)), .one (.s (.flt .f32 q0n))]).2 (expo (impTs 0 [.agg [.row 1 q08 (.fl .f32 q0b), .row 1 q09 (.fl .f32 q0c), .row 1 q0a (.fl .f32 q0d)], .one (.row 1 q0x (.fl .f32 q11)), .one (.s (.flt .f32 q0n))]).2.length) = z5x q08 q0b q09 q0c q0a q0d q0x q11 q0n (fun c0_ => some ((AV.v (TV.one (At.flt .f32 c0_))), [])) := by kernel_rfl
theorem zhv : SumOne Try.prog 32 zck := sum_of (Γ := Γ10) (fuel := 8) (d := 8) tyTab_ok (FnL.ok fnTab_ok _ _) (LpL.ok lt10_ok) (SumL.ok tb10_ok _) mixed (by
  intro pts v news hp hc
  clear hc
  unfold zck at hp
  split at hp
  · rename_i q08 q0b q09 q0c q0a q0d q0x q11 q0n
    exact Eq.trans (Eq.trans (zkk q08 q0b q09 q0c q0a q0d q0x q11 q0n) (zgy q08 q0b q09 q0c q0a q0d q0x q11 q0n (zex q08 q0b q09 q0c q0a q0d q0x q11 q0n) rfl (fun c0_ => some c0_))) (fin_out (o := (zex q08 q0b q09 q0c q0a q0d q0x q11 q0n)) (x := z5v q08 q0b q09 q0c q0a q0d q0x q11 q0n) (d := default) (V := fun r => ((AV.v (TV.one (At.flt .f32 r))), [])) (fun r => rfl) hp)
  · cases hp)
noncomputable def ze3 (up : Nat) (q0w : Nat) (q1c : Nat) (q0p : Bool) (q1a : Nat) (t31 : Int) (t32 : Int) (b0 : List Nat) (b1 : List Bool) : Bool × LO := ((z8e up q0w q1a t31 b0 q1c q0p t32 b1), (LO.two (z80 up q0w q1a t31 b0 q1c q0p t32 b1) (LO.one Ex.ret (St.mk [(6, (AV.v (TV.one At.nilsl))), (7, (AV.v (TV.one (At.bool Bool.false))))] [(Blk.mk Bool.false (Body.fl .f32 b0))])) (LO.one (Ex.exit 0) (St.mk [(1, (AV.v (TV.one (At.flt .f32 up)))), (2, (AV.v (TV.one (At.flt .f32 q0w)))), (8, (AV.v (TV.one (At.sl 1 0 (z71 up q0w q1a t31 b0 q1c q0p t32 b1) 1)))), (9, (AV.v (TV.one (At.bool (zaa up q0w q1a t31 b0 q1c q0p t32 b1))))), (30, (AV.v (TV.one (At.vw 0 0 q1a 1)))), (31, (AV.v (TV.one (At.int .i64 t31)))), (32, (AV.v (TV.one (At.int .i64 (z9t up q0w q1a t31 b0 q1c q0p t32 b1))))), (33, (AV.v (TV.one (At.bool (z9s up q0w q1a t31 b0 q1c q0p t32 b1)))))] [(Blk.mk Bool.false (Body.fl .f32 b0)), (Blk.mk Bool.true (Body.bl (z6t up q0w q1a t31 b0 q1c q0p t32 b1)))]))))
noncomputable def zei : Nat → St → Option (Bool × LO) := lpT 1 (pSt [(pTm 1 (pV (pOne (pFlt .f32)))), (pTm 2 (pV (pOne (pFlt .f32)))), (pTm 8 (pV (pOne (pSl 1 (liN 0) 1)))), (pTm 9 (pV (pOne pBool))), (pTm 30 (pV (pOne (pVw 0 (liN 0) 1)))), (pTm 31 (pV (pOne (pInt .i64)))), (pTm 32 (pV (pOne (pInt .i64))))] [(pBlk Bool.false (pFl .f32)), (pBlk Bool.true pBl)]) (fun hs => ze3 (hvN (hGet hs 0)) (hvN (hGet hs 1)) (hvN (hGet hs 2)) (hvB (hGet hs 3)) (hvN (hGet hs 4)) (hvI (hGet hs 5)) (hvI (hGet hs 6)) (hvLn (hGet hs 7)) (hvLb (hGet hs 8)))
def z6l (up : Nat) (q0w : Nat) (q1a : Nat) (t31 : Int) (b0 : List Nat) : Option ((Unit) ⊕ (Nat × Bool × Int × Bool × (List Bool))) → Option (Ex × St)
  | none => none
  | some (Sum.inl r) => some (Ex.ret, (St.mk [(6, (AV.v (TV.one At.nilsl))), (7, (AV.v (TV.one (At.bool Bool.false))))] [(Blk.mk Bool.false (Body.fl .f32 b0))]))
  | some (Sum.inr r) => some ((Ex.exit 0), (St.mk [(1, (AV.v (TV.one (At.flt .f32 up)))), (2, (AV.v (TV.one (At.flt .f32 q0w)))), (8, (AV.v (TV.one (At.sl 1 0 r.1 1)))), (9, (AV.v (TV.one (At.bool r.2.1)))), (30, (AV.v (TV.one (At.vw 0 0 q1a 1)))), (31, (AV.v (TV.one (At.int .i64 t31)))), (32, (AV.v (TV.one (At.int .i64 r.2.2.1)))), (33, (AV.v (TV.one (At.bool r.2.2.2.1))))] [(Blk.mk Bool.false (Body.fl .f32 b0)), (Blk.mk Bool.true (Body.bl r.2.2.2.2))]))
def ziu (up : Nat) (q0w : Nat) (q1a : Nat) (t31 : Int) (b0 : List Nat) (x : Option ((Unit) ⊕ (Nat × Bool × Int × Bool × (List Bool)))) : LO := (LO.two (oL x) (LO.one Ex.ret (St.mk [(6, (AV.v (TV.one At.nilsl))), (7, (AV.v (TV.one (At.bool Bool.false))))] [(Blk.mk Bool.false (Body.fl .f32 b0))])) (LO.one (Ex.exit 0) (St.mk [(1, (AV.v (TV.one (At.flt .f32 up)))), (2, (AV.v (TV.one (At.flt .f32 q0w)))), (8, (AV.v (TV.one (At.sl 1 0 ((tR x).getD default).1 1)))), (9, (AV.v (TV.one (At.bool ((tR x).getD default).2.1)))), (30, (AV.v (TV.one (At.vw 0 0 q1a 1)))), (31, (AV.v (TV.one (At.int .i64 t31)))), (32, (AV.v (TV.one (At.int .i64 ((tR x).getD default).2.2.1)))), (33, (AV.v (TV.one (At.bool ((tR x).getD default).2.2.2.1))))] [(Blk.mk Bool.false (Body.fl .f32 b0)), (Blk.mk Bool.true (Body.bl ((tR x).getD default).2.2.2.2))])))
theorem zjm (up : Nat) (q0w : Nat) (q1a : Nat) (t31 : Int) (b0 : List Nat) : ∀ x : Option ((Unit) ⊕ (Nat × Bool × Int × Bool × (List Bool))), x.isSome = true → (z6l up q0w q1a t31 b0) x = some (pick (ziu up q0w q1a t31 b0 x))
  | none, h => by cases h
  | some (Sum.inl r), _ => rfl
  | some (Sum.inr r), _ => rfl
theorem zk4 (up : Nat) (q0w : Nat) (q1c : Nat) (q0p : Bool) (q1a : Nat) (t31 : Int) (t32 : Int) (b0 : List Nat) (b1 : List Bool) (K : Ex → St → Option (Ex × St)) : evC (R := Ex × St) Γ10 (evFn Γ10 8 8) 15 1 fi15.nt fi15.live fi15.nl 8 (findL 5 (loopsIn fi15.code)) (St.mk [(1, (AV.v (TV.one (At.flt .f32 up)))), (2, (AV.v (TV.one (At.flt .f32 q0w)))), (8, (AV.v (TV.one (At.sl 1 0 q1c 1)))), (9, (AV.v (TV.one (At.bool q0p)))), (30, (AV.v (TV.one (At.vw 0 0 q1a 1)))), (31, (AV.v (TV.one (At.int .i64 t31)))), (32, (AV.v (TV.one (At.int .i64 t32))))] [(Blk.mk Bool.false (Body.fl .f32 b0)), (Blk.mk Bool.true (Body.bl b1))]) K = z3e up q0w q1a t31 b0 q1c q0p t32 b1 (fun q1c' q0p' t32' b1' => K .normal (St.mk [(1, (AV.v (TV.one (At.flt .f32 up)))), (2, (AV.v (TV.one (At.flt .f32 q0w)))), (8, (AV.v (TV.one (At.sl 1 0 q1c' 1)))), (9, (AV.v (TV.one (At.bool q0p')))), (30, (AV.v (TV.one (At.vw 0 0 q1a 1)))), (31, (AV.v (TV.one (At.int .i64 t31)))), (32, (AV.v (TV.one (At.int .i64 t32'))))] [(Blk.mk Bool.false (Body.fl .f32 b0)), (Blk.mk Bool.true (Body.bl b1'))])) (fun _ => K Ex.ret (St.mk [(6, (AV.v (TV.one At.nilsl))), (7, (AV.v (TV.one (At.bool Bool.false))))] [(Blk.mk Bool.false (Body.fl .f32 b0))])) (fun c0_ c1_ c2_ c3_ c4_ => K (Ex.exit 0) (St.mk [(1, (AV.v (TV.one (At.flt .f32 up)))), (2, (AV.v (TV.one (At.flt .f32 q0w)))), (8, (AV.v (TV.one (At.sl 1 0 c0_ 1)))), (9, (AV.v (TV.one (At.bool c1_)))), (30, (AV.v (TV.one (At.vw 0 0 q1a 1)))), (31, (AV.v (TV.one (At.int .i64 t31)))), (32, (AV.v (TV.one (At.int .i64 c2_)))), (33, (AV.v (TV.one (At.bool c3_))))] [(Blk.mk Bool.false (Body.fl .f32 b0)), (Blk.mk Bool.true (Body.bl c4_))])) := by kernel_rfl
theorem zjo (up : Nat) (q0w : Nat) (q1a : Nat) (t31 : Int) (b0 : List Nat) : ∀ (n : Nat) (q1c : Nat) (q0p : Bool) (t32 : Int) (b1 : List Bool), iter 15 5 1 (evC (R := Ex × St) Γ10 (evFn Γ10 8 8) 15 1 fi15.nt fi15.live fi15.nl 8 (findL 5 (loopsIn fi15.code))) n (St.mk [(1, (AV.v (TV.one (At.flt .f32 up)))), (2, (AV.v (TV.one (At.flt .f32 q0w)))), (8, (AV.v (TV.one (At.sl 1 0 q1c 1)))), (9, (AV.v (TV.one (At.bool q0p)))), (30, (AV.v (TV.one (At.vw 0 0 q1a 1)))), (31, (AV.v (TV.one (At.int .i64 t31)))), (32, (AV.v (TV.one (At.int .i64 t32))))] [(Blk.mk Bool.false (Body.fl .f32 b0)), (Blk.mk Bool.true (Body.bl b1))]) (fun e st => some (e, st)) = (z6l up q0w q1a t31 b0) (z15 up q0w q1a t31 b0 n q1c q0p t32 b1) := by
  intro n
  induction n with
  | zero => intros; rfl
  | succ n ih =>
    intro q1c q0p t32 b1
    refine Eq.trans (iter_succ ..) (Eq.trans (zk4 up q0w q1c q0p q1a t31 t32 b0 b1 (nextK 15 5 1 (evC (R := Ex × St) Γ10 (evFn Γ10 8 8) 15 1 fi15.nt fi15.live fi15.nl 8 (findL 5 (loopsIn fi15.code))) n (fun e st => some (e, st)))) (Eq.trans ?_ (zgj up q0w q1a t31 b0 q1c q0p t32 b1 (z6l up q0w q1a t31 b0) rfl (fun q1c' q0p' t32' b1' => z15 up q0w q1a t31 b0 n q1c' q0p' t32' b1') (fun _ => some (Sum.inl ())) (fun c0_ c1_ c2_ c3_ c4_ => some (Sum.inr (c0_, c1_, c2_, c3_, c4_))))))
    exact congrArg (fun kn_ => z3e up q0w q1a t31 b0 q1c q0p t32 b1 kn_ (fun _ => (z6l up q0w q1a t31 b0) (some (Sum.inl ()))) (fun c0_ c1_ c2_ c3_ c4_ => (z6l up q0w q1a t31 b0) (some (Sum.inr (c0_, c1_, c2_, c3_, c4_))))) (funext fun q1c' => funext fun q0p' => funext fun t32' => funext fun b1' => ih q1c' q0p' t32' b1')
theorem zh6 : LoopOne Try.prog fnTab 15 5 zei := lp_of (Γ := Γ10) tyTab_ok (FnL.ok fnTab_ok _ _) (LpL.ok lt10_ok) (SumL.ok tb10_ok _) mixed (fi := fi15) (by kernel_rfl) (by kernel_rfl) (by
  intro lo st out hp
  obtain ⟨hs, e1, e2, e3⟩ := lpT_inv hp
  clear hp
  obtain rfl : st = (St.mk [(1, (AV.v (TV.one (At.flt .f32 (hvN (hGet hs 0)))))), (2, (AV.v (TV.one (At.flt .f32 (hvN (hGet hs 1)))))), (8, (AV.v (TV.one (At.sl 1 0 (hvN (hGet hs 2)) 1)))), (9, (AV.v (TV.one (At.bool (hvB (hGet hs 3)))))), (30, (AV.v (TV.one (At.vw 0 0 (hvN (hGet hs 4)) 1)))), (31, (AV.v (TV.one (At.int .i64 (hvI (hGet hs 5)))))), (32, (AV.v (TV.one (At.int .i64 (hvI (hGet hs 6))))))] [(Blk.mk Bool.false (Body.fl .f32 (hvLn (hGet hs 7)))), (Blk.mk Bool.true (Body.bl (hvLb (hGet hs 8))))]) := e2.trans (by kernel_rfl)
  clear e2
  subst e1
  unfold ze3 at e3
  injection e3 with h1 h2
  subst h2
  exact ⟨8, 8, big, Eq.trans (zjo (hvN (hGet hs 0)) (hvN (hGet hs 1)) (hvN (hGet hs 4)) (hvI (hGet hs 5)) (hvLn (hGet hs 7)) big (hvN (hGet hs 2)) (hvB (hGet hs 3)) (hvI (hGet hs 6)) (hvLb (hGet hs 8))) (zjm (hvN (hGet hs 0)) (hvN (hGet hs 1)) (hvN (hGet hs 4)) (hvI (hGet hs 5)) (hvLn (hGet hs 7)) (z15 (hvN (hGet hs 0)) (hvN (hGet hs 1)) (hvN (hGet hs 4)) (hvI (hGet hs 5)) (hvLn (hGet hs 7)) big (hvN (hGet hs 2)) (hvB (hGet hs 3)) (hvI (hGet hs 6)) (hvLb (hGet hs 8))) h1)⟩)
noncomputable def tb11 : List (Nat × (List PT → Option (Bool × AV × List Blk))) := (21, zbe) :: (32, zck) :: tb10
noncomputable def lt11 : List ((Nat × Nat) × (Nat → St → Option (Bool × LO))) := ((15, 5), zei) :: lt10
noncomputable def Γ11 : Ctx := ⟨tyTab, fnTab, tblSum tb11, tblLp lt11⟩
theorem tb11_ok : SumL Try.prog tb11 := SumL.cons zgf (SumL.cons zhv (tb10_ok))
theorem lt11_ok : LpL Try.prog fnTab lt11 := LpL.cons zh6 (lt10_ok)
noncomputable def zeq : List PT → Option (Bool × AV × List Blk)
  | [.agg [.row 1 q08 (.fl .f32 q0b), .row 1 q09 (.fl .f32 q0c), .row 1 q0a (.fl .f32 q0d)], .one (.s (.flt .f32 q0n))] => some ((z88 q08 q0b q09 q0c q0a q0d q0n), ((AV.tup [(TV.one (At.flt .f32 (z2w q08 q0b q09 q0c q0a q0d q0n))), (TV.one (At.bool (z7o q08 q0b q09 q0c q0a q0d q0n)))]), []))
  | _ => none
def zi4 (q08 : Nat) (q0b : List Nat) (q09 : Nat) (q0c : List Nat) (q0a : Nat) (q0d : List Nat) (q0n : Nat) : Option (Nat × Bool) → Option (AV × List Blk)
  | some r => some ((AV.tup [(TV.one (At.flt .f32 r.1)), (TV.one (At.bool r.2))]), [])
  | none => none
theorem zmk (q08 : Nat) (q0b : List Nat) (q09 : Nat) (q0c : List Nat) (q0a : Nat) (q0d : List Nat) (q0n : Nat) : evFn Γ11 8 8 13 (impTs 0 [.agg [.row 1 q08 (.fl .f32 q0b), .row 1 q09 (.fl .f32 q0c), .row 1 q0a (.fl .f32 q0d)], .one (.s (.flt .f32 q0n))]).1 (impTs 0 [.agg [.row 1 q08 (.fl .f32 q0b), .row 1 q09 (.fl .f32 q0c), .row 1 q0a (.fl .f32 q0d)], .one (.s (.flt .f32 q0n))]).2 (expo (impTs 0 [.agg [.row 1 q08 (.fl .f32 q0b), .row 1 q09 (.fl .f32 q0c), .row 1 q0a (.fl .f32 q0d)], .one (.s (.flt .f32 q0n))]).2.length) = z87 q08 q0b q09 q0c q0a q0d q0n (fun c0_ c1_ => some ((AV.tup [(TV.one (At.flt .f32 c0_)), (TV.one (At.bool c1_))]), [])) := by kernel_rfl
theorem zlh : SumOne Try.prog 13 zeq := sum_of (Γ := Γ11) (fuel := 8) (d := 8) tyTab_ok (FnL.ok fnTab_ok _ _) (LpL.ok lt11_ok) (SumL.ok tb11_ok _) mixed (by
  intro pts v news hp hc
  clear hc
  unfold zeq at hp
  split at hp
  · rename_i q08 q0b q09 q0c q0a q0d q0n
    exact Eq.trans (Eq.trans (zmk q08 q0b q09 q0c q0a q0d q0n) (zkl q08 q0b q09 q0c q0a q0d q0n (zi4 q08 q0b q09 q0c q0a q0d q0n) rfl (fun c0_ c1_ => some (c0_, c1_)))) (fin_out (o := (zi4 q08 q0b q09 q0c q0a q0d q0n)) (x := z7a q08 q0b q09 q0c q0a q0d q0n) (d := default) (V := fun r => ((AV.tup [(TV.one (At.flt .f32 r.1)), (TV.one (At.bool r.2))]), [])) (fun r => rfl) hp)
  · cases hp)
noncomputable def zdm : List PT → Option (Bool × AV × List Blk)
  | [.one (.row 1 q15 (.fl .f32 q1d)), .one (.s (.flt .f32 up)), .one (.s (.flt .f32 q0w))] => some ((z5u q15 q1d up q0w), ((AV.tup [(TV.one (At.sl 0 0 (z20 q15 q1d up q0w) 1)), (TV.one (At.bool (z5e q15 q1d up q0w)))]), [(Blk.mk Bool.true (Body.bl (z2z q15 q1d up q0w)))]))
  | _ => none
def zfx (q15 : Nat) (q1d : List Nat) (up : Nat) (q0w : Nat) : Option (Nat × Bool × (List Bool)) → Option (AV × List Blk)
  | some r => some ((AV.tup [(TV.one (At.sl 0 0 r.1 1)), (TV.one (At.bool r.2.1))]), [(Blk.mk Bool.true (Body.bl r.2.2))])
  | none => none
theorem zlo (q15 : Nat) (q1d : List Nat) (up : Nat) (q0w : Nat) : evFn Γ11 8 8 15 (impTs 0 [.one (.row 1 q15 (.fl .f32 q1d)), .one (.s (.flt .f32 up)), .one (.s (.flt .f32 q0w))]).1 (impTs 0 [.one (.row 1 q15 (.fl .f32 q1d)), .one (.s (.flt .f32 up)), .one (.s (.flt .f32 q0w))]).2 (expo (impTs 0 [.one (.row 1 q15 (.fl .f32 q1d)), .one (.s (.flt .f32 up)), .one (.s (.flt .f32 q0w))]).2.length) = z6v q15 q1d up q0w (fun c0_ c1_ c2_ => some ((AV.tup [(TV.one (At.sl 0 0 c0_ 1)), (TV.one (At.bool c1_))]), [(Blk.mk Bool.true (Body.bl c2_))])) := by kernel_rfl
theorem zjk : SumOne Try.prog 15 zdm := sum_of (Γ := Γ11) (fuel := 8) (d := 8) tyTab_ok (FnL.ok fnTab_ok _ _) (LpL.ok lt11_ok) (SumL.ok tb11_ok _) mixed (by
  intro pts v news hp hc
  clear hc
  unfold zdm at hp
  split at hp
  · rename_i q15 q1d up q0w
    exact Eq.trans (Eq.trans (zlo q15 q1d up q0w) (zj3 q15 q1d up q0w (zfx q15 q1d up q0w) rfl (fun c0_ c1_ c2_ => some (c0_, c1_, c2_)))) (fin_out (o := (zfx q15 q1d up q0w)) (x := z4r q15 q1d up q0w) (d := default) (V := fun r => ((AV.tup [(TV.one (At.sl 0 0 r.1 1)), (TV.one (At.bool r.2.1))]), [(Blk.mk Bool.true (Body.bl r.2.2))])) (fun r => rfl) hp)
  · cases hp)
noncomputable def z7i (b0 : List Int) (q0g : Nat) (q0l : Int) (q0m : Int) : Bool × LO := ((z2m b0 q0g q0l q0m), (LO.one Ex.ret (St.mk [(2, (AV.v (TV.one (At.int .i64 (z0n b0 q0g q0l q0m)))))] [(Blk.mk Bool.false (Body.il .u8 b0)), (Blk.mk Bool.true (Body.cells [At.nilsl, At.nilsl, At.nilsl])), (Blk.mk Bool.true (Body.cells [(At.vw 0 0 q0g 1), (At.int .i64 (z06 b0 q0g q0l q0m)), (At.int .u64 (z07 b0 q0g q0l q0m))])), (Blk.mk Bool.true (Body.cells [At.nilsl, At.nilsl, At.nilsl]))])))
noncomputable def z83 : Nat → St → Option (Bool × LO) := lpT 4 (pSt [(pTm 0 (pV (pOne (pPtr 2 (liN 0) 3))))] [(pBlk Bool.false (pIl .u8)), (pBlk Bool.true (pCells [pNil, pNil, pNil])), (pBlk Bool.true (pCells [(pVw 0 (liN 0) 1), (pInt .i64), (pInt .u64)])), (pBlk Bool.true (pCells [pNil, pNil, pNil]))]) (fun hs => z7i (hvLi (hGet hs 0)) (hvN (hGet hs 1)) (hvI (hGet hs 2)) (hvI (hGet hs 3)))
def z5n (b0 : List Int) (q0g : Nat) (q0l : Int) (q0m : Int) : Option ((Int × Int × Int)) → Option (Ex × St)
  | none => none
  | some r => some (Ex.ret, (St.mk [(2, (AV.v (TV.one (At.int .i64 r.1))))] [(Blk.mk Bool.false (Body.il .u8 b0)), (Blk.mk Bool.true (Body.cells [At.nilsl, At.nilsl, At.nilsl])), (Blk.mk Bool.true (Body.cells [(At.vw 0 0 q0g 1), (At.int .i64 r.2.1), (At.int .u64 r.2.2)])), (Blk.mk Bool.true (Body.cells [At.nilsl, At.nilsl, At.nilsl]))]))
def zd1 (b0 : List Int) (q0g : Nat) (q0l : Int) (q0m : Int) (x : Option ((Int × Int × Int))) : LO := (LO.one Ex.ret (St.mk [(2, (AV.v (TV.one (At.int .i64 (x.getD default).1))))] [(Blk.mk Bool.false (Body.il .u8 b0)), (Blk.mk Bool.true (Body.cells [At.nilsl, At.nilsl, At.nilsl])), (Blk.mk Bool.true (Body.cells [(At.vw 0 0 q0g 1), (At.int .i64 (x.getD default).2.1), (At.int .u64 (x.getD default).2.2)])), (Blk.mk Bool.true (Body.cells [At.nilsl, At.nilsl, At.nilsl]))]))
theorem zdh (b0 : List Int) (q0g : Nat) (q0l : Int) (q0m : Int) : ∀ x : Option ((Int × Int × Int)), x.isSome = true → (z5n b0 q0g q0l q0m) x = some (pick (zd1 b0 q0g q0l q0m x))
  | none, h => by cases h
  | some r, _ => rfl
theorem zdf (b0 : List Int) (q0g : Nat) (q0l : Int) (q0m : Int) (K : Ex → St → Option (Ex × St)) : evC (R := Ex × St) Γ11 (evFn Γ11 8 8) 65 4 fi65.nt fi65.live fi65.nl 8 fi65.code (St.mk [(0, (AV.v (TV.one (At.ptr 2 0 3))))] [(Blk.mk Bool.false (Body.il .u8 b0)), (Blk.mk Bool.true (Body.cells [At.nilsl, At.nilsl, At.nilsl])), (Blk.mk Bool.true (Body.cells [(At.vw 0 0 q0g 1), (At.int .i64 q0l), (At.int .u64 q0m)])), (Blk.mk Bool.true (Body.cells [At.nilsl, At.nilsl, At.nilsl]))]) K = z2a b0 q0g q0l q0m (fun _ => K .normal (St.mk [(0, (AV.v (TV.one (At.ptr 2 0 3))))] [(Blk.mk Bool.false (Body.il .u8 b0)), (Blk.mk Bool.true (Body.cells [At.nilsl, At.nilsl, At.nilsl])), (Blk.mk Bool.true (Body.cells [(At.vw 0 0 q0g 1), (At.int .i64 q0l), (At.int .u64 q0m)])), (Blk.mk Bool.true (Body.cells [At.nilsl, At.nilsl, At.nilsl]))])) (fun c0_ c1_ c2_ => K Ex.ret (St.mk [(2, (AV.v (TV.one (At.int .i64 c0_))))] [(Blk.mk Bool.false (Body.il .u8 b0)), (Blk.mk Bool.true (Body.cells [At.nilsl, At.nilsl, At.nilsl])), (Blk.mk Bool.true (Body.cells [(At.vw 0 0 q0g 1), (At.int .i64 c1_), (At.int .u64 c2_)])), (Blk.mk Bool.true (Body.cells [At.nilsl, At.nilsl, At.nilsl]))])) := by kernel_rfl
theorem zdg (b0 : List Int) (q0g : Nat) (q0l : Int) (q0m : Int) : evC (R := Ex × St) Γ11 (evFn Γ11 8 8) 65 4 fi65.nt fi65.live fi65.nl 8 fi65.code (St.mk [(0, (AV.v (TV.one (At.ptr 2 0 3))))] [(Blk.mk Bool.false (Body.il .u8 b0)), (Blk.mk Bool.true (Body.cells [At.nilsl, At.nilsl, At.nilsl])), (Blk.mk Bool.true (Body.cells [(At.vw 0 0 q0g 1), (At.int .i64 q0l), (At.int .u64 q0m)])), (Blk.mk Bool.true (Body.cells [At.nilsl, At.nilsl, At.nilsl]))]) (fun e st => some (e, st)) = (z5n b0 q0g q0l q0m) (z0s b0 q0g q0l q0m big ) := by
  obtain ⟨n, hn⟩ := big_succ
  rw [hn]
  refine Eq.trans (zdf b0 q0g q0l q0m (fun e st => some (e, st))) (Eq.trans ?_ (zc1 b0 q0g q0l q0m (z5n b0 q0g q0l q0m) rfl (fun _ => z0s b0 q0g q0l q0m n ) (fun c0_ c1_ c2_ => some (c0_, c1_, c2_))))
  unfold z2a
  rfl
theorem zch : LoopOne Try.prog fnTab 65 bodyId z83 := bd_of (Γ := Γ11) tyTab_ok (FnL.ok fnTab_ok _ _) (LpL.ok lt11_ok) (SumL.ok tb11_ok _) mixed (fi := fi65) (by kernel_rfl) (by kernel_rfl) (by
  intro lo st out hp
  obtain ⟨hs, e1, e2, e3⟩ := lpT_inv hp
  clear hp
  obtain rfl : st = (St.mk [(0, (AV.v (TV.one (At.ptr 2 0 3))))] [(Blk.mk Bool.false (Body.il .u8 (hvLi (hGet hs 0)))), (Blk.mk Bool.true (Body.cells [At.nilsl, At.nilsl, At.nilsl])), (Blk.mk Bool.true (Body.cells [(At.vw 0 0 (hvN (hGet hs 1)) 1), (At.int .i64 (hvI (hGet hs 2))), (At.int .u64 (hvI (hGet hs 3)))])), (Blk.mk Bool.true (Body.cells [At.nilsl, At.nilsl, At.nilsl]))]) := e2.trans (by kernel_rfl)
  clear e2
  subst e1
  unfold z7i at e3
  injection e3 with h1 h2
  subst h2
  exact ⟨8, 8, Eq.trans (zdg (hvLi (hGet hs 0)) (hvN (hGet hs 1)) (hvI (hGet hs 2)) (hvI (hGet hs 3)) ) (zdh (hvLi (hGet hs 0)) (hvN (hGet hs 1)) (hvI (hGet hs 2)) (hvI (hGet hs 3)) (z0s (hvLi (hGet hs 0)) (hvN (hGet hs 1)) (hvI (hGet hs 2)) (hvI (hGet hs 3)) big ) h1)⟩)
noncomputable def tb12 : List (Nat × (List PT → Option (Bool × AV × List Blk))) := (13, zeq) :: (15, zdm) :: tb11
noncomputable def lt12 : List ((Nat × Nat) × (Nat → St → Option (Bool × LO))) := ((65, 1000000007), z83) :: lt11
noncomputable def Γ12 : Ctx := ⟨tyTab, fnTab, tblSum tb12, tblLp lt12⟩
theorem tb12_ok : SumL Try.prog tb12 := SumL.cons zlh (SumL.cons zjk (tb11_ok))
theorem lt12_ok : LpL Try.prog fnTab lt12 := LpL.cons zch (lt11_ok)
noncomputable def zd4 : List PT → Option (Bool × AV × List Blk)
  | [.agg [.row 1 q08 (.fl .f32 q0b), .row 1 q09 (.fl .f32 q0c), .row 1 q0a (.fl .f32 q0d)], .one (.s (.flt .f32 q0n)), .one (.s (.flt .f32 q19)), .one (.s (.bool q0p))] => some ((z34 q08 q0b q09 q0c q0a q0d q0n q19 q0p), ((AV.tup [(TV.one (At.flt .f32 (z2f q08 q0b q09 q0c q0a q0d q0n q19 q0p))), (TV.one (At.bool (z2d q08 q0b q09 q0c q0a q0d q0n q19 q0p)))]), []))
  | _ => none
def zf9 (q08 : Nat) (q0b : List Nat) (q09 : Nat) (q0c : List Nat) (q0a : Nat) (q0d : List Nat) (q0n : Nat) (q19 : Nat) (q0p : Bool) : Option (Nat × Bool) → Option (AV × List Blk)
  | some r => some ((AV.tup [(TV.one (At.flt .f32 r.1)), (TV.one (At.bool r.2))]), [])
  | none => none
theorem zlf (q08 : Nat) (q0b : List Nat) (q09 : Nat) (q0c : List Nat) (q0a : Nat) (q0d : List Nat) (q0n : Nat) (q19 : Nat) (q0p : Bool) : evFn Γ12 8 8 17 (impTs 0 [.agg [.row 1 q08 (.fl .f32 q0b), .row 1 q09 (.fl .f32 q0c), .row 1 q0a (.fl .f32 q0d)], .one (.s (.flt .f32 q0n)), .one (.s (.flt .f32 q19)), .one (.s (.bool q0p))]).1 (impTs 0 [.agg [.row 1 q08 (.fl .f32 q0b), .row 1 q09 (.fl .f32 q0c), .row 1 q0a (.fl .f32 q0d)], .one (.s (.flt .f32 q0n)), .one (.s (.flt .f32 q19)), .one (.s (.bool q0p))]).2 (expo (impTs 0 [.agg [.row 1 q08 (.fl .f32 q0b), .row 1 q09 (.fl .f32 q0c), .row 1 q0a (.fl .f32 q0d)], .one (.s (.flt .f32 q0n)), .one (.s (.flt .f32 q19)), .one (.s (.bool q0p))]).2.length) = z68 q08 q0b q09 q0c q0a q0d q0n q19 q0p (fun c0_ c1_ => some ((AV.tup [(TV.one (At.flt .f32 c0_)), (TV.one (At.bool c1_))]), [])) := by kernel_rfl
theorem zij : SumOne Try.prog 17 zd4 := sum_of (Γ := Γ12) (fuel := 8) (d := 8) tyTab_ok (FnL.ok fnTab_ok _ _) (LpL.ok lt12_ok) (SumL.ok tb12_ok _) mixed (by
  intro pts v news hp hc
  clear hc
  unfold zd4 at hp
  split at hp
  · rename_i q08 q0b q09 q0c q0a q0d q0n q19 q0p
    exact Eq.trans (Eq.trans (zlf q08 q0b q09 q0c q0a q0d q0n q19 q0p) (zhz q08 q0b q09 q0c q0a q0d q0n q19 q0p (zf9 q08 q0b q09 q0c q0a q0d q0n q19 q0p) rfl (fun c0_ c1_ => some (c0_, c1_)))) (fin_out (o := (zf9 q08 q0b q09 q0c q0a q0d q0n q19 q0p)) (x := z4h q08 q0b q09 q0c q0a q0d q0n q19 q0p) (d := default) (V := fun r => ((AV.tup [(TV.one (At.flt .f32 r.1)), (TV.one (At.bool r.2))]), [])) (fun r => rfl) hp)
  · cases hp)
noncomputable def ze6 (q10 : Int) (q0y : Nat) (t13 : Int) (t14 : Int) (b0 : List Nat) (b1 : List Nat) (b2 : List Nat) (q0i : Nat) (q0f : Nat) (q0h : Nat) : Bool × LO := ((z9p q0y t13 b1 q0f q10 t14), (LO.one (Ex.exit 0) (St.mk [(1, (AV.v (TV.one (At.ptr 3 0 3)))), (5, (AV.v (TV.one (At.int .i64 (z4k q0y t13 b1 q0f q10 t14))))), (12, (AV.v (TV.one (At.vw 1 0 q0y 1)))), (13, (AV.v (TV.one (At.int .i64 t13)))), (14, (AV.v (TV.one (At.int .i64 (zav q0y t13 b1 q0f q10 t14))))), (15, (AV.v (TV.one (At.bool (zar q0y t13 b1 q0f q10 t14)))))] [(Blk.mk Bool.false (Body.fl .f32 b0)), (Blk.mk Bool.false (Body.fl .f32 b1)), (Blk.mk Bool.false (Body.fl .f32 b2)), (Blk.mk Bool.true (Body.cells [(At.vw 0 0 q0i 1), (At.vw 1 0 q0f 1), (At.vw 2 0 q0h 1)]))])))
noncomputable def zf1 : Nat → St → Option (Bool × LO) := lpT 3 (pSt [(pTm 1 (pV (pOne (pPtr 3 (liN 0) 3)))), (pTm 5 (pV (pOne (pInt .i64)))), (pTm 12 (pV (pOne (pVw 1 (liN 0) 1)))), (pTm 13 (pV (pOne (pInt .i64)))), (pTm 14 (pV (pOne (pInt .i64))))] [(pBlk Bool.false (pFl .f32)), (pBlk Bool.false (pFl .f32)), (pBlk Bool.false (pFl .f32)), (pBlk Bool.true (pCells [(pVw 0 (liN 0) 1), (pVw 1 (liN 0) 1), (pVw 2 (liN 0) 1)]))]) (fun hs => ze6 (hvI (hGet hs 0)) (hvN (hGet hs 1)) (hvI (hGet hs 2)) (hvI (hGet hs 3)) (hvLn (hGet hs 4)) (hvLn (hGet hs 5)) (hvLn (hGet hs 6)) (hvN (hGet hs 7)) (hvN (hGet hs 8)) (hvN (hGet hs 9)))
def z9j (q0y : Nat) (t13 : Int) (b0 : List Nat) (b1 : List Nat) (b2 : List Nat) (q0i : Nat) (q0f : Nat) (q0h : Nat) : Option ((Int × Int × Bool)) → Option (Ex × St)
  | none => none
  | some r => some ((Ex.exit 0), (St.mk [(1, (AV.v (TV.one (At.ptr 3 0 3)))), (5, (AV.v (TV.one (At.int .i64 r.1)))), (12, (AV.v (TV.one (At.vw 1 0 q0y 1)))), (13, (AV.v (TV.one (At.int .i64 t13)))), (14, (AV.v (TV.one (At.int .i64 r.2.1)))), (15, (AV.v (TV.one (At.bool r.2.2))))] [(Blk.mk Bool.false (Body.fl .f32 b0)), (Blk.mk Bool.false (Body.fl .f32 b1)), (Blk.mk Bool.false (Body.fl .f32 b2)), (Blk.mk Bool.true (Body.cells [(At.vw 0 0 q0i 1), (At.vw 1 0 q0f 1), (At.vw 2 0 q0h 1)]))]))
def zke (q0y : Nat) (t13 : Int) (b0 : List Nat) (b1 : List Nat) (b2 : List Nat) (q0i : Nat) (q0f : Nat) (q0h : Nat) (x : Option ((Int × Int × Bool))) : LO := (LO.one (Ex.exit 0) (St.mk [(1, (AV.v (TV.one (At.ptr 3 0 3)))), (5, (AV.v (TV.one (At.int .i64 (x.getD default).1)))), (12, (AV.v (TV.one (At.vw 1 0 q0y 1)))), (13, (AV.v (TV.one (At.int .i64 t13)))), (14, (AV.v (TV.one (At.int .i64 (x.getD default).2.1)))), (15, (AV.v (TV.one (At.bool (x.getD default).2.2))))] [(Blk.mk Bool.false (Body.fl .f32 b0)), (Blk.mk Bool.false (Body.fl .f32 b1)), (Blk.mk Bool.false (Body.fl .f32 b2)), (Blk.mk Bool.true (Body.cells [(At.vw 0 0 q0i 1), (At.vw 1 0 q0f 1), (At.vw 2 0 q0h 1)]))]))
theorem zl1 (q0y : Nat) (t13 : Int) (b0 : List Nat) (b1 : List Nat) (b2 : List Nat) (q0i : Nat) (q0f : Nat) (q0h : Nat) : ∀ x : Option ((Int × Int × Bool)), x.isSome = true → (z9j q0y t13 b0 b1 b2 q0i q0f q0h) x = some (pick (zke q0y t13 b0 b1 b2 q0i q0f q0h x))
  | none, h => by cases h
  | some r, _ => rfl
theorem zkn (q10 : Int) (q0y : Nat) (t13 : Int) (t14 : Int) (b0 : List Nat) (b1 : List Nat) (b2 : List Nat) (q0i : Nat) (q0f : Nat) (q0h : Nat) (K : Ex → St → Option (Ex × St)) : evC (R := Ex × St) Γ12 (evFn Γ12 8 8) 7 3 fi7.nt fi7.live fi7.nl 8 (findL 5 (loopsIn fi7.code)) (St.mk [(1, (AV.v (TV.one (At.ptr 3 0 3)))), (5, (AV.v (TV.one (At.int .i64 q10)))), (12, (AV.v (TV.one (At.vw 1 0 q0y 1)))), (13, (AV.v (TV.one (At.int .i64 t13)))), (14, (AV.v (TV.one (At.int .i64 t14))))] [(Blk.mk Bool.false (Body.fl .f32 b0)), (Blk.mk Bool.false (Body.fl .f32 b1)), (Blk.mk Bool.false (Body.fl .f32 b2)), (Blk.mk Bool.true (Body.cells [(At.vw 0 0 q0i 1), (At.vw 1 0 q0f 1), (At.vw 2 0 q0h 1)]))]) K = z3q q0y t13 b1 q0f q10 t14 (fun q10' t14' => K .normal (St.mk [(1, (AV.v (TV.one (At.ptr 3 0 3)))), (5, (AV.v (TV.one (At.int .i64 q10')))), (12, (AV.v (TV.one (At.vw 1 0 q0y 1)))), (13, (AV.v (TV.one (At.int .i64 t13)))), (14, (AV.v (TV.one (At.int .i64 t14'))))] [(Blk.mk Bool.false (Body.fl .f32 b0)), (Blk.mk Bool.false (Body.fl .f32 b1)), (Blk.mk Bool.false (Body.fl .f32 b2)), (Blk.mk Bool.true (Body.cells [(At.vw 0 0 q0i 1), (At.vw 1 0 q0f 1), (At.vw 2 0 q0h 1)]))])) (fun c0_ c1_ c2_ => K (Ex.exit 0) (St.mk [(1, (AV.v (TV.one (At.ptr 3 0 3)))), (5, (AV.v (TV.one (At.int .i64 c0_)))), (12, (AV.v (TV.one (At.vw 1 0 q0y 1)))), (13, (AV.v (TV.one (At.int .i64 t13)))), (14, (AV.v (TV.one (At.int .i64 c1_)))), (15, (AV.v (TV.one (At.bool c2_))))] [(Blk.mk Bool.false (Body.fl .f32 b0)), (Blk.mk Bool.false (Body.fl .f32 b1)), (Blk.mk Bool.false (Body.fl .f32 b2)), (Blk.mk Bool.true (Body.cells [(At.vw 0 0 q0i 1), (At.vw 1 0 q0f 1), (At.vw 2 0 q0h 1)]))])) := by kernel_rfl
theorem zkw (q0y : Nat) (t13 : Int) (b0 : List Nat) (b1 : List Nat) (b2 : List Nat) (q0i : Nat) (q0f : Nat) (q0h : Nat) : ∀ (n : Nat) (q10 : Int) (t14 : Int), iter 7 5 3 (evC (R := Ex × St) Γ12 (evFn Γ12 8 8) 7 3 fi7.nt fi7.live fi7.nl 8 (findL 5 (loopsIn fi7.code))) n (St.mk [(1, (AV.v (TV.one (At.ptr 3 0 3)))), (5, (AV.v (TV.one (At.int .i64 q10)))), (12, (AV.v (TV.one (At.vw 1 0 q0y 1)))), (13, (AV.v (TV.one (At.int .i64 t13)))), (14, (AV.v (TV.one (At.int .i64 t14))))] [(Blk.mk Bool.false (Body.fl .f32 b0)), (Blk.mk Bool.false (Body.fl .f32 b1)), (Blk.mk Bool.false (Body.fl .f32 b2)), (Blk.mk Bool.true (Body.cells [(At.vw 0 0 q0i 1), (At.vw 1 0 q0f 1), (At.vw 2 0 q0h 1)]))]) (fun e st => some (e, st)) = (z9j q0y t13 b0 b1 b2 q0i q0f q0h) (z2e q0y t13 b1 q0f n q10 t14) := by
  intro n
  induction n with
  | zero => intros; rfl
  | succ n ih =>
    intro q10 t14
    refine Eq.trans (iter_succ ..) (Eq.trans (zkn q10 q0y t13 t14 b0 b1 b2 q0i q0f q0h (nextK 7 5 3 (evC (R := Ex × St) Γ12 (evFn Γ12 8 8) 7 3 fi7.nt fi7.live fi7.nl 8 (findL 5 (loopsIn fi7.code))) n (fun e st => some (e, st)))) (Eq.trans ?_ (zhf q0y t13 b1 q0f q10 t14 (z9j q0y t13 b0 b1 b2 q0i q0f q0h) rfl (fun q10' t14' => z2e q0y t13 b1 q0f n q10' t14') (fun c0_ c1_ c2_ => some (c0_, c1_, c2_)))))
    exact congrArg (fun kn_ => z3q q0y t13 b1 q0f q10 t14 kn_ (fun c0_ c1_ c2_ => (z9j q0y t13 b0 b1 b2 q0i q0f q0h) (some (c0_, c1_, c2_)))) (funext fun q10' => funext fun t14' => ih q10' t14')
theorem zhr : LoopOne Try.prog fnTab 7 5 zf1 := lp_of (Γ := Γ12) tyTab_ok (FnL.ok fnTab_ok _ _) (LpL.ok lt12_ok) (SumL.ok tb12_ok _) mixed (fi := fi7) (by kernel_rfl) (by kernel_rfl) (by
  intro lo st out hp
  obtain ⟨hs, e1, e2, e3⟩ := lpT_inv hp
  clear hp
  obtain rfl : st = (St.mk [(1, (AV.v (TV.one (At.ptr 3 0 3)))), (5, (AV.v (TV.one (At.int .i64 (hvI (hGet hs 0)))))), (12, (AV.v (TV.one (At.vw 1 0 (hvN (hGet hs 1)) 1)))), (13, (AV.v (TV.one (At.int .i64 (hvI (hGet hs 2)))))), (14, (AV.v (TV.one (At.int .i64 (hvI (hGet hs 3))))))] [(Blk.mk Bool.false (Body.fl .f32 (hvLn (hGet hs 4)))), (Blk.mk Bool.false (Body.fl .f32 (hvLn (hGet hs 5)))), (Blk.mk Bool.false (Body.fl .f32 (hvLn (hGet hs 6)))), (Blk.mk Bool.true (Body.cells [(At.vw 0 0 (hvN (hGet hs 7)) 1), (At.vw 1 0 (hvN (hGet hs 8)) 1), (At.vw 2 0 (hvN (hGet hs 9)) 1)]))]) := e2.trans (by kernel_rfl)
  clear e2
  subst e1
  unfold ze6 at e3
  injection e3 with h1 h2
  subst h2
  exact ⟨8, 8, big, Eq.trans (zkw (hvN (hGet hs 1)) (hvI (hGet hs 2)) (hvLn (hGet hs 4)) (hvLn (hGet hs 5)) (hvLn (hGet hs 6)) (hvN (hGet hs 7)) (hvN (hGet hs 8)) (hvN (hGet hs 9)) big (hvI (hGet hs 0)) (hvI (hGet hs 3))) (zl1 (hvN (hGet hs 1)) (hvI (hGet hs 2)) (hvLn (hGet hs 4)) (hvLn (hGet hs 5)) (hvLn (hGet hs 6)) (hvN (hGet hs 7)) (hvN (hGet hs 8)) (hvN (hGet hs 9)) (z2e (hvN (hGet hs 1)) (hvI (hGet hs 2)) (hvLn (hGet hs 5)) (hvN (hGet hs 8)) big (hvI (hGet hs 0)) (hvI (hGet hs 3))) h1)⟩)
noncomputable def ze4 (all : Nat) (i : Int) (b0 : List Nat) (b1 : List Nat) (b2 : List Nat) (q0i : Nat) (q0f : Nat) (q0h : Nat) : Bool × LO := ((z92 b0 b1 q0i q0f all i), (LO.one (Ex.exit 0) (St.mk [(1, (AV.v (TV.one (At.ptr 3 0 3)))), (4, (AV.v (TV.one (At.flt .f32 (z4e b0 b1 q0i q0f all i))))), (5, (AV.v (TV.one (At.int .i64 (z9x b0 b1 q0i q0f all i))))), (14, (AV.v (TV.one (At.bool (za6 b0 b1 q0i q0f all i)))))] [(Blk.mk Bool.false (Body.fl .f32 b0)), (Blk.mk Bool.false (Body.fl .f32 b1)), (Blk.mk Bool.false (Body.fl .f32 b2)), (Blk.mk Bool.true (Body.cells [(At.vw 0 0 q0i 1), (At.vw 1 0 q0f 1), (At.vw 2 0 q0h 1)]))])))
noncomputable def zed : Nat → St → Option (Bool × LO) := lpT 3 (pSt [(pTm 1 (pV (pOne (pPtr 3 (liN 0) 3)))), (pTm 4 (pV (pOne (pFlt .f32)))), (pTm 5 (pV (pOne (pInt .i64))))] [(pBlk Bool.false (pFl .f32)), (pBlk Bool.false (pFl .f32)), (pBlk Bool.false (pFl .f32)), (pBlk Bool.true (pCells [(pVw 0 (liN 0) 1), (pVw 1 (liN 0) 1), (pVw 2 (liN 0) 1)]))]) (fun hs => ze4 (hvN (hGet hs 0)) (hvI (hGet hs 1)) (hvLn (hGet hs 2)) (hvLn (hGet hs 3)) (hvLn (hGet hs 4)) (hvN (hGet hs 5)) (hvN (hGet hs 6)) (hvN (hGet hs 7)))
def z8s (b0 : List Nat) (b1 : List Nat) (b2 : List Nat) (q0i : Nat) (q0f : Nat) (q0h : Nat) : Option ((Nat × Int × Bool)) → Option (Ex × St)
  | none => none
  | some r => some ((Ex.exit 0), (St.mk [(1, (AV.v (TV.one (At.ptr 3 0 3)))), (4, (AV.v (TV.one (At.flt .f32 r.1)))), (5, (AV.v (TV.one (At.int .i64 r.2.1)))), (14, (AV.v (TV.one (At.bool r.2.2))))] [(Blk.mk Bool.false (Body.fl .f32 b0)), (Blk.mk Bool.false (Body.fl .f32 b1)), (Blk.mk Bool.false (Body.fl .f32 b2)), (Blk.mk Bool.true (Body.cells [(At.vw 0 0 q0i 1), (At.vw 1 0 q0f 1), (At.vw 2 0 q0h 1)]))]))
def zi8 (b0 : List Nat) (b1 : List Nat) (b2 : List Nat) (q0i : Nat) (q0f : Nat) (q0h : Nat) (x : Option ((Nat × Int × Bool))) : LO := (LO.one (Ex.exit 0) (St.mk [(1, (AV.v (TV.one (At.ptr 3 0 3)))), (4, (AV.v (TV.one (At.flt .f32 (x.getD default).1)))), (5, (AV.v (TV.one (At.int .i64 (x.getD default).2.1)))), (14, (AV.v (TV.one (At.bool (x.getD default).2.2))))] [(Blk.mk Bool.false (Body.fl .f32 b0)), (Blk.mk Bool.false (Body.fl .f32 b1)), (Blk.mk Bool.false (Body.fl .f32 b2)), (Blk.mk Bool.true (Body.cells [(At.vw 0 0 q0i 1), (At.vw 1 0 q0f 1), (At.vw 2 0 q0h 1)]))]))
theorem zjz (b0 : List Nat) (b1 : List Nat) (b2 : List Nat) (q0i : Nat) (q0f : Nat) (q0h : Nat) : ∀ x : Option ((Nat × Int × Bool)), x.isSome = true → (z8s b0 b1 b2 q0i q0f q0h) x = some (pick (zi8 b0 b1 b2 q0i q0f q0h x))
  | none, h => by cases h
  | some r, _ => rfl
theorem zka (all : Nat) (i : Int) (b0 : List Nat) (b1 : List Nat) (b2 : List Nat) (q0i : Nat) (q0f : Nat) (q0h : Nat) (K : Ex → St → Option (Ex × St)) : evC (R := Ex × St) Γ12 (evFn Γ12 8 8) 8 3 fi8.nt fi8.live fi8.nl 8 (findL 5 (loopsIn fi8.code)) (St.mk [(1, (AV.v (TV.one (At.ptr 3 0 3)))), (4, (AV.v (TV.one (At.flt .f32 all)))), (5, (AV.v (TV.one (At.int .i64 i))))] [(Blk.mk Bool.false (Body.fl .f32 b0)), (Blk.mk Bool.false (Body.fl .f32 b1)), (Blk.mk Bool.false (Body.fl .f32 b2)), (Blk.mk Bool.true (Body.cells [(At.vw 0 0 q0i 1), (At.vw 1 0 q0f 1), (At.vw 2 0 q0h 1)]))]) K = z2n b0 b1 q0i q0f all i (fun all' i' => K .normal (St.mk [(1, (AV.v (TV.one (At.ptr 3 0 3)))), (4, (AV.v (TV.one (At.flt .f32 all')))), (5, (AV.v (TV.one (At.int .i64 i'))))] [(Blk.mk Bool.false (Body.fl .f32 b0)), (Blk.mk Bool.false (Body.fl .f32 b1)), (Blk.mk Bool.false (Body.fl .f32 b2)), (Blk.mk Bool.true (Body.cells [(At.vw 0 0 q0i 1), (At.vw 1 0 q0f 1), (At.vw 2 0 q0h 1)]))])) (fun c0_ c1_ c2_ => K (Ex.exit 0) (St.mk [(1, (AV.v (TV.one (At.ptr 3 0 3)))), (4, (AV.v (TV.one (At.flt .f32 c0_)))), (5, (AV.v (TV.one (At.int .i64 c1_)))), (14, (AV.v (TV.one (At.bool c2_))))] [(Blk.mk Bool.false (Body.fl .f32 b0)), (Blk.mk Bool.false (Body.fl .f32 b1)), (Blk.mk Bool.false (Body.fl .f32 b2)), (Blk.mk Bool.true (Body.cells [(At.vw 0 0 q0i 1), (At.vw 1 0 q0f 1), (At.vw 2 0 q0h 1)]))])) := by kernel_rfl
theorem zjc (b0 : List Nat) (b1 : List Nat) (b2 : List Nat) (q0i : Nat) (q0f : Nat) (q0h : Nat) : ∀ (n : Nat) (all : Nat) (i : Int), iter 8 5 3 (evC (R := Ex × St) Γ12 (evFn Γ12 8 8) 8 3 fi8.nt fi8.live fi8.nl 8 (findL 5 (loopsIn fi8.code))) n (St.mk [(1, (AV.v (TV.one (At.ptr 3 0 3)))), (4, (AV.v (TV.one (At.flt .f32 all)))), (5, (AV.v (TV.one (At.int .i64 i))))] [(Blk.mk Bool.false (Body.fl .f32 b0)), (Blk.mk Bool.false (Body.fl .f32 b1)), (Blk.mk Bool.false (Body.fl .f32 b2)), (Blk.mk Bool.true (Body.cells [(At.vw 0 0 q0i 1), (At.vw 1 0 q0f 1), (At.vw 2 0 q0h 1)]))]) (fun e st => some (e, st)) = (z8s b0 b1 b2 q0i q0f q0h) (z1e b0 b1 q0i q0f n all i) := by
  intro n
  induction n with
  | zero => intros; rfl
  | succ n ih =>
    intro all i
    refine Eq.trans (iter_succ ..) (Eq.trans (zka all i b0 b1 b2 q0i q0f q0h (nextK 8 5 3 (evC (R := Ex × St) Γ12 (evFn Γ12 8 8) 8 3 fi8.nt fi8.live fi8.nl 8 (findL 5 (loopsIn fi8.code))) n (fun e st => some (e, st)))) (Eq.trans ?_ (zg9 b0 b1 q0i q0f all i (z8s b0 b1 b2 q0i q0f q0h) rfl (fun all' i' => z1e b0 b1 q0i q0f n all' i') (fun c0_ c1_ c2_ => some (c0_, c1_, c2_)))))
    exact congrArg (fun kn_ => z2n b0 b1 q0i q0f all i kn_ (fun c0_ c1_ c2_ => (z8s b0 b1 b2 q0i q0f q0h) (some (c0_, c1_, c2_)))) (funext fun all' => funext fun i' => ih all' i')
theorem zhc : LoopOne Try.prog fnTab 8 5 zed := lp_of (Γ := Γ12) tyTab_ok (FnL.ok fnTab_ok _ _) (LpL.ok lt12_ok) (SumL.ok tb12_ok _) mixed (fi := fi8) (by kernel_rfl) (by kernel_rfl) (by
  intro lo st out hp
  obtain ⟨hs, e1, e2, e3⟩ := lpT_inv hp
  clear hp
  obtain rfl : st = (St.mk [(1, (AV.v (TV.one (At.ptr 3 0 3)))), (4, (AV.v (TV.one (At.flt .f32 (hvN (hGet hs 0)))))), (5, (AV.v (TV.one (At.int .i64 (hvI (hGet hs 1))))))] [(Blk.mk Bool.false (Body.fl .f32 (hvLn (hGet hs 2)))), (Blk.mk Bool.false (Body.fl .f32 (hvLn (hGet hs 3)))), (Blk.mk Bool.false (Body.fl .f32 (hvLn (hGet hs 4)))), (Blk.mk Bool.true (Body.cells [(At.vw 0 0 (hvN (hGet hs 5)) 1), (At.vw 1 0 (hvN (hGet hs 6)) 1), (At.vw 2 0 (hvN (hGet hs 7)) 1)]))]) := e2.trans (by kernel_rfl)
  clear e2
  subst e1
  unfold ze4 at e3
  injection e3 with h1 h2
  subst h2
  exact ⟨8, 8, big, Eq.trans (zjc (hvLn (hGet hs 2)) (hvLn (hGet hs 3)) (hvLn (hGet hs 4)) (hvN (hGet hs 5)) (hvN (hGet hs 6)) (hvN (hGet hs 7)) big (hvN (hGet hs 0)) (hvI (hGet hs 1))) (zjz (hvLn (hGet hs 2)) (hvLn (hGet hs 3)) (hvLn (hGet hs 4)) (hvN (hGet hs 5)) (hvN (hGet hs 6)) (hvN (hGet hs 7)) (z1e (hvLn (hGet hs 2)) (hvLn (hGet hs 3)) (hvN (hGet hs 5)) (hvN (hGet hs 6)) big (hvN (hGet hs 0)) (hvI (hGet hs 1))) h1)⟩)
noncomputable def zdd (q10 : Int) (q1h : Nat) (q1g : Nat) (t15 : Int) (t16 : Int) (b0 : List Nat) (b1 : List Nat) (b2 : List Nat) (q0i : Nat) (q0f : Nat) (q0h : Nat) : Bool × LO := ((z7x q1g t15 b1 b2 q0h q10 q1h t16), (LO.one (Ex.exit 0) (St.mk [(1, (AV.v (TV.one (At.ptr 3 0 3)))), (5, (AV.v (TV.one (At.int .i64 (z52 q1g t15 b1 b2 q0h q10 q1h t16))))), (6, (AV.v (TV.one (At.flt .f32 (z46 q1g t15 b1 b2 q0h q10 q1h t16))))), (14, (AV.v (TV.one (At.vw 1 0 q1g 1)))), (15, (AV.v (TV.one (At.int .i64 t15)))), (16, (AV.v (TV.one (At.int .i64 (z9c q1g t15 b1 b2 q0h q10 q1h t16))))), (17, (AV.v (TV.one (At.bool (z98 q1g t15 b1 b2 q0h q10 q1h t16)))))] [(Blk.mk Bool.false (Body.fl .f32 b0)), (Blk.mk Bool.false (Body.fl .f32 b1)), (Blk.mk Bool.false (Body.fl .f32 b2)), (Blk.mk Bool.true (Body.cells [(At.vw 0 0 q0i 1), (At.vw 1 0 q0f 1), (At.vw 2 0 q0h 1)]))])))
noncomputable def ze5 : Nat → St → Option (Bool × LO) := lpT 3 (pSt [(pTm 1 (pV (pOne (pPtr 3 (liN 0) 3)))), (pTm 5 (pV (pOne (pInt .i64)))), (pTm 6 (pV (pOne (pFlt .f32)))), (pTm 14 (pV (pOne (pVw 1 (liN 0) 1)))), (pTm 15 (pV (pOne (pInt .i64)))), (pTm 16 (pV (pOne (pInt .i64))))] [(pBlk Bool.false (pFl .f32)), (pBlk Bool.false (pFl .f32)), (pBlk Bool.false (pFl .f32)), (pBlk Bool.true (pCells [(pVw 0 (liN 0) 1), (pVw 1 (liN 0) 1), (pVw 2 (liN 0) 1)]))]) (fun hs => zdd (hvI (hGet hs 0)) (hvN (hGet hs 1)) (hvN (hGet hs 2)) (hvI (hGet hs 3)) (hvI (hGet hs 4)) (hvLn (hGet hs 5)) (hvLn (hGet hs 6)) (hvLn (hGet hs 7)) (hvN (hGet hs 8)) (hvN (hGet hs 9)) (hvN (hGet hs 10)))
def z7z (q1g : Nat) (t15 : Int) (b0 : List Nat) (b1 : List Nat) (b2 : List Nat) (q0i : Nat) (q0f : Nat) (q0h : Nat) : Option ((Int × Nat × Int × Bool)) → Option (Ex × St)
  | none => none
  | some r => some ((Ex.exit 0), (St.mk [(1, (AV.v (TV.one (At.ptr 3 0 3)))), (5, (AV.v (TV.one (At.int .i64 r.1)))), (6, (AV.v (TV.one (At.flt .f32 r.2.1)))), (14, (AV.v (TV.one (At.vw 1 0 q1g 1)))), (15, (AV.v (TV.one (At.int .i64 t15)))), (16, (AV.v (TV.one (At.int .i64 r.2.2.1)))), (17, (AV.v (TV.one (At.bool r.2.2.2))))] [(Blk.mk Bool.false (Body.fl .f32 b0)), (Blk.mk Bool.false (Body.fl .f32 b1)), (Blk.mk Bool.false (Body.fl .f32 b2)), (Blk.mk Bool.true (Body.cells [(At.vw 0 0 q0i 1), (At.vw 1 0 q0f 1), (At.vw 2 0 q0h 1)]))]))
def zhu (q1g : Nat) (t15 : Int) (b0 : List Nat) (b1 : List Nat) (b2 : List Nat) (q0i : Nat) (q0f : Nat) (q0h : Nat) (x : Option ((Int × Nat × Int × Bool))) : LO := (LO.one (Ex.exit 0) (St.mk [(1, (AV.v (TV.one (At.ptr 3 0 3)))), (5, (AV.v (TV.one (At.int .i64 (x.getD default).1)))), (6, (AV.v (TV.one (At.flt .f32 (x.getD default).2.1)))), (14, (AV.v (TV.one (At.vw 1 0 q1g 1)))), (15, (AV.v (TV.one (At.int .i64 t15)))), (16, (AV.v (TV.one (At.int .i64 (x.getD default).2.2.1)))), (17, (AV.v (TV.one (At.bool (x.getD default).2.2.2))))] [(Blk.mk Bool.false (Body.fl .f32 b0)), (Blk.mk Bool.false (Body.fl .f32 b1)), (Blk.mk Bool.false (Body.fl .f32 b2)), (Blk.mk Bool.true (Body.cells [(At.vw 0 0 q0i 1), (At.vw 1 0 q0f 1), (At.vw 2 0 q0h 1)]))]))
theorem zie (q1g : Nat) (t15 : Int) (b0 : List Nat) (b1 : List Nat) (b2 : List Nat) (q0i : Nat) (q0f : Nat) (q0h : Nat) : ∀ x : Option ((Int × Nat × Int × Bool)), x.isSome = true → (z7z q1g t15 b0 b1 b2 q0i q0f q0h) x = some (pick (zhu q1g t15 b0 b1 b2 q0i q0f q0h x))
  | none, h => by cases h
  | some r, _ => rfl
theorem zih (q10 : Int) (q1h : Nat) (q1g : Nat) (t15 : Int) (t16 : Int) (b0 : List Nat) (b1 : List Nat) (b2 : List Nat) (q0i : Nat) (q0f : Nat) (q0h : Nat) (K : Ex → St → Option (Ex × St)) : evC (R := Ex × St) Γ12 (evFn Γ12 8 8) 11 3 fi11.nt fi11.live fi11.nl 8 (findL 5 (loopsIn fi11.code)) (St.mk [(1, (AV.v (TV.one (At.ptr 3 0 3)))), (5, (AV.v (TV.one (At.int .i64 q10)))), (6, (AV.v (TV.one (At.flt .f32 q1h)))), (14, (AV.v (TV.one (At.vw 1 0 q1g 1)))), (15, (AV.v (TV.one (At.int .i64 t15)))), (16, (AV.v (TV.one (At.int .i64 t16))))] [(Blk.mk Bool.false (Body.fl .f32 b0)), (Blk.mk Bool.false (Body.fl .f32 b1)), (Blk.mk Bool.false (Body.fl .f32 b2)), (Blk.mk Bool.true (Body.cells [(At.vw 0 0 q0i 1), (At.vw 1 0 q0f 1), (At.vw 2 0 q0h 1)]))]) K = z36 q1g t15 b1 b2 q0h q10 q1h t16 (fun q10' q1h' t16' => K .normal (St.mk [(1, (AV.v (TV.one (At.ptr 3 0 3)))), (5, (AV.v (TV.one (At.int .i64 q10')))), (6, (AV.v (TV.one (At.flt .f32 q1h')))), (14, (AV.v (TV.one (At.vw 1 0 q1g 1)))), (15, (AV.v (TV.one (At.int .i64 t15)))), (16, (AV.v (TV.one (At.int .i64 t16'))))] [(Blk.mk Bool.false (Body.fl .f32 b0)), (Blk.mk Bool.false (Body.fl .f32 b1)), (Blk.mk Bool.false (Body.fl .f32 b2)), (Blk.mk Bool.true (Body.cells [(At.vw 0 0 q0i 1), (At.vw 1 0 q0f 1), (At.vw 2 0 q0h 1)]))])) (fun c0_ c1_ c2_ c3_ => K (Ex.exit 0) (St.mk [(1, (AV.v (TV.one (At.ptr 3 0 3)))), (5, (AV.v (TV.one (At.int .i64 c0_)))), (6, (AV.v (TV.one (At.flt .f32 c1_)))), (14, (AV.v (TV.one (At.vw 1 0 q1g 1)))), (15, (AV.v (TV.one (At.int .i64 t15)))), (16, (AV.v (TV.one (At.int .i64 c2_)))), (17, (AV.v (TV.one (At.bool c3_))))] [(Blk.mk Bool.false (Body.fl .f32 b0)), (Blk.mk Bool.false (Body.fl .f32 b1)), (Blk.mk Bool.false (Body.fl .f32 b2)), (Blk.mk Bool.true (Body.cells [(At.vw 0 0 q0i 1), (At.vw 1 0 q0f 1), (At.vw 2 0 q0h 1)]))])) := by kernel_rfl
theorem zia (q1g : Nat) (t15 : Int) (b0 : List Nat) (b1 : List Nat) (b2 : List Nat) (q0i : Nat) (q0f : Nat) (q0h : Nat) : ∀ (n : Nat) (q10 : Int) (q1h : Nat) (t16 : Int), iter 11 5 3 (evC (R := Ex × St) Γ12 (evFn Γ12 8 8) 11 3 fi11.nt fi11.live fi11.nl 8 (findL 5 (loopsIn fi11.code))) n (St.mk [(1, (AV.v (TV.one (At.ptr 3 0 3)))), (5, (AV.v (TV.one (At.int .i64 q10)))), (6, (AV.v (TV.one (At.flt .f32 q1h)))), (14, (AV.v (TV.one (At.vw 1 0 q1g 1)))), (15, (AV.v (TV.one (At.int .i64 t15)))), (16, (AV.v (TV.one (At.int .i64 t16))))] [(Blk.mk Bool.false (Body.fl .f32 b0)), (Blk.mk Bool.false (Body.fl .f32 b1)), (Blk.mk Bool.false (Body.fl .f32 b2)), (Blk.mk Bool.true (Body.cells [(At.vw 0 0 q0i 1), (At.vw 1 0 q0f 1), (At.vw 2 0 q0h 1)]))]) (fun e st => some (e, st)) = (z7z q1g t15 b0 b1 b2 q0i q0f q0h) (z0w q1g t15 b1 b2 q0h n q10 q1h t16) := by
  intro n
  induction n with
  | zero => intros; rfl
  | succ n ih =>
    intro q10 q1h t16
    refine Eq.trans (iter_succ ..) (Eq.trans (zih q10 q1h q1g t15 t16 b0 b1 b2 q0i q0f q0h (nextK 11 5 3 (evC (R := Ex × St) Γ12 (evFn Γ12 8 8) 11 3 fi11.nt fi11.live fi11.nl 8 (findL 5 (loopsIn fi11.code))) n (fun e st => some (e, st)))) (Eq.trans ?_ (zfs q1g t15 b1 b2 q0h q10 q1h t16 (z7z q1g t15 b0 b1 b2 q0i q0f q0h) rfl (fun q10' q1h' t16' => z0w q1g t15 b1 b2 q0h n q10' q1h' t16') (fun c0_ c1_ c2_ c3_ => some (c0_, c1_, c2_, c3_)))))
    exact congrArg (fun kn_ => z36 q1g t15 b1 b2 q0h q10 q1h t16 kn_ (fun c0_ c1_ c2_ c3_ => (z7z q1g t15 b0 b1 b2 q0i q0f q0h) (some (c0_, c1_, c2_, c3_)))) (funext fun q10' => funext fun q1h' => funext fun t16' => ih q10' q1h' t16')
theorem zgg : LoopOne Try.prog fnTab 11 5 ze5 := lp_of (Γ := Γ12) tyTab_ok (FnL.ok fnTab_ok _ _) (LpL.ok lt12_ok) (SumL.ok tb12_ok _) mixed (fi := fi11) (by kernel_rfl) (by kernel_rfl) (by
  intro lo st out hp
  obtain ⟨hs, e1, e2, e3⟩ := lpT_inv hp
  clear hp
  obtain rfl : st = (St.mk [(1, (AV.v (TV.one (At.ptr 3 0 3)))), (5, (AV.v (TV.one (At.int .i64 (hvI (hGet hs 0)))))), (6, (AV.v (TV.one (At.flt .f32 (hvN (hGet hs 1)))))), (14, (AV.v (TV.one (At.vw 1 0 (hvN (hGet hs 2)) 1)))), (15, (AV.v (TV.one (At.int .i64 (hvI (hGet hs 3)))))), (16, (AV.v (TV.one (At.int .i64 (hvI (hGet hs 4))))))] [(Blk.mk Bool.false (Body.fl .f32 (hvLn (hGet hs 5)))), (Blk.mk Bool.false (Body.fl .f32 (hvLn (hGet hs 6)))), (Blk.mk Bool.false (Body.fl .f32 (hvLn (hGet hs 7)))), (Blk.mk Bool.true (Body.cells [(At.vw 0 0 (hvN (hGet hs 8)) 1), (At.vw 1 0 (hvN (hGet hs 9)) 1), (At.vw 2 0 (hvN (hGet hs 10)) 1)]))]) := e2.trans (by kernel_rfl)
  clear e2
  subst e1
  unfold zdd at e3
  injection e3 with h1 h2
  subst h2
  exact ⟨8, 8, big, Eq.trans (zia (hvN (hGet hs 2)) (hvI (hGet hs 3)) (hvLn (hGet hs 5)) (hvLn (hGet hs 6)) (hvLn (hGet hs 7)) (hvN (hGet hs 8)) (hvN (hGet hs 9)) (hvN (hGet hs 10)) big (hvI (hGet hs 0)) (hvN (hGet hs 1)) (hvI (hGet hs 4))) (zie (hvN (hGet hs 2)) (hvI (hGet hs 3)) (hvLn (hGet hs 5)) (hvLn (hGet hs 6)) (hvLn (hGet hs 7)) (hvN (hGet hs 8)) (hvN (hGet hs 9)) (hvN (hGet hs 10)) (z0w (hvN (hGet hs 2)) (hvI (hGet hs 3)) (hvLn (hGet hs 6)) (hvLn (hGet hs 7)) (hvN (hGet hs 10)) big (hvI (hGet hs 0)) (hvN (hGet hs 1)) (hvI (hGet hs 4))) h1)⟩)
noncomputable def zdv (i : Int) (b0 : List Nat) (b1 : List Nat) (b2 : List Nat) (q0i : Nat) (q0f : Nat) (q0h : Nat) : Bool × LO := ((z5g b0 b1 q0i q0f i), (LO.two (z4v b0 b1 q0i q0f i) (LO.one Ex.ret (St.mk [(2, (AV.v (TV.one (At.flt .f32 (z75 b0 b1 q0i q0f i))))), (3, (AV.v (TV.one (At.bool (z6q b0 b1 q0i q0f i)))))] [(Blk.mk Bool.false (Body.fl .f32 b0)), (Blk.mk Bool.false (Body.fl .f32 b1)), (Blk.mk Bool.false (Body.fl .f32 b2))])) (LO.one (Ex.exit 0) (St.mk [(1, (AV.v (TV.one (At.ptr 3 0 3)))), (4, (AV.v (TV.one (At.int .i64 (za0 b0 b1 q0i q0f i))))), (15, (AV.v (TV.one (At.bool (z9r b0 b1 q0i q0f i)))))] [(Blk.mk Bool.false (Body.fl .f32 b0)), (Blk.mk Bool.false (Body.fl .f32 b1)), (Blk.mk Bool.false (Body.fl .f32 b2)), (Blk.mk Bool.true (Body.cells [(At.vw 0 0 q0i 1), (At.vw 1 0 q0f 1), (At.vw 2 0 q0h 1)]))]))))
noncomputable def zef : Nat → St → Option (Bool × LO) := lpT 3 (pSt [(pTm 1 (pV (pOne (pPtr 3 (liN 0) 3)))), (pTm 4 (pV (pOne (pInt .i64))))] [(pBlk Bool.false (pFl .f32)), (pBlk Bool.false (pFl .f32)), (pBlk Bool.false (pFl .f32)), (pBlk Bool.true (pCells [(pVw 0 (liN 0) 1), (pVw 1 (liN 0) 1), (pVw 2 (liN 0) 1)]))]) (fun hs => zdv (hvI (hGet hs 0)) (hvLn (hGet hs 1)) (hvLn (hGet hs 2)) (hvLn (hGet hs 3)) (hvN (hGet hs 4)) (hvN (hGet hs 5)) (hvN (hGet hs 6)))
def z6m (b0 : List Nat) (b1 : List Nat) (b2 : List Nat) (q0i : Nat) (q0f : Nat) (q0h : Nat) : Option ((Nat × Bool) ⊕ (Int × Bool)) → Option (Ex × St)
  | none => none
  | some (Sum.inl r) => some (Ex.ret, (St.mk [(2, (AV.v (TV.one (At.flt .f32 r.1)))), (3, (AV.v (TV.one (At.bool r.2))))] [(Blk.mk Bool.false (Body.fl .f32 b0)), (Blk.mk Bool.false (Body.fl .f32 b1)), (Blk.mk Bool.false (Body.fl .f32 b2))]))
  | some (Sum.inr r) => some ((Ex.exit 0), (St.mk [(1, (AV.v (TV.one (At.ptr 3 0 3)))), (4, (AV.v (TV.one (At.int .i64 r.1)))), (15, (AV.v (TV.one (At.bool r.2))))] [(Blk.mk Bool.false (Body.fl .f32 b0)), (Blk.mk Bool.false (Body.fl .f32 b1)), (Blk.mk Bool.false (Body.fl .f32 b2)), (Blk.mk Bool.true (Body.cells [(At.vw 0 0 q0i 1), (At.vw 1 0 q0f 1), (At.vw 2 0 q0h 1)]))]))
def zic (b0 : List Nat) (b1 : List Nat) (b2 : List Nat) (q0i : Nat) (q0f : Nat) (q0h : Nat) (x : Option ((Nat × Bool) ⊕ (Int × Bool))) : LO := (LO.two (oL x) (LO.one Ex.ret (St.mk [(2, (AV.v (TV.one (At.flt .f32 ((tL x).getD default).1)))), (3, (AV.v (TV.one (At.bool ((tL x).getD default).2))))] [(Blk.mk Bool.false (Body.fl .f32 b0)), (Blk.mk Bool.false (Body.fl .f32 b1)), (Blk.mk Bool.false (Body.fl .f32 b2))])) (LO.one (Ex.exit 0) (St.mk [(1, (AV.v (TV.one (At.ptr 3 0 3)))), (4, (AV.v (TV.one (At.int .i64 ((tR x).getD default).1)))), (15, (AV.v (TV.one (At.bool ((tR x).getD default).2))))] [(Blk.mk Bool.false (Body.fl .f32 b0)), (Blk.mk Bool.false (Body.fl .f32 b1)), (Blk.mk Bool.false (Body.fl .f32 b2)), (Blk.mk Bool.true (Body.cells [(At.vw 0 0 q0i 1), (At.vw 1 0 q0f 1), (At.vw 2 0 q0h 1)]))])))
theorem zki (b0 : List Nat) (b1 : List Nat) (b2 : List Nat) (q0i : Nat) (q0f : Nat) (q0h : Nat) : ∀ x : Option ((Nat × Bool) ⊕ (Int × Bool)), x.isSome = true → (z6m b0 b1 b2 q0i q0f q0h) x = some (pick (zic b0 b1 b2 q0i q0f q0h x))
  | none, h => by cases h
  | some (Sum.inl r), _ => rfl
  | some (Sum.inr r), _ => rfl
theorem zkj (i : Int) (b0 : List Nat) (b1 : List Nat) (b2 : List Nat) (q0i : Nat) (q0f : Nat) (q0h : Nat) (K : Ex → St → Option (Ex × St)) : evC (R := Ex × St) Γ12 (evFn Γ12 8 8) 12 3 fi12.nt fi12.live fi12.nl 8 (findL 4 (loopsIn fi12.code)) (St.mk [(1, (AV.v (TV.one (At.ptr 3 0 3)))), (4, (AV.v (TV.one (At.int .i64 i))))] [(Blk.mk Bool.false (Body.fl .f32 b0)), (Blk.mk Bool.false (Body.fl .f32 b1)), (Blk.mk Bool.false (Body.fl .f32 b2)), (Blk.mk Bool.true (Body.cells [(At.vw 0 0 q0i 1), (At.vw 1 0 q0f 1), (At.vw 2 0 q0h 1)]))]) K = z3k b0 b1 q0i q0f i (fun i' => K .normal (St.mk [(1, (AV.v (TV.one (At.ptr 3 0 3)))), (4, (AV.v (TV.one (At.int .i64 i'))))] [(Blk.mk Bool.false (Body.fl .f32 b0)), (Blk.mk Bool.false (Body.fl .f32 b1)), (Blk.mk Bool.false (Body.fl .f32 b2)), (Blk.mk Bool.true (Body.cells [(At.vw 0 0 q0i 1), (At.vw 1 0 q0f 1), (At.vw 2 0 q0h 1)]))])) (fun c0_ c1_ => K Ex.ret (St.mk [(2, (AV.v (TV.one (At.flt .f32 c0_)))), (3, (AV.v (TV.one (At.bool c1_))))] [(Blk.mk Bool.false (Body.fl .f32 b0)), (Blk.mk Bool.false (Body.fl .f32 b1)), (Blk.mk Bool.false (Body.fl .f32 b2))])) (fun c0_ c1_ => K (Ex.exit 0) (St.mk [(1, (AV.v (TV.one (At.ptr 3 0 3)))), (4, (AV.v (TV.one (At.int .i64 c0_)))), (15, (AV.v (TV.one (At.bool c1_))))] [(Blk.mk Bool.false (Body.fl .f32 b0)), (Blk.mk Bool.false (Body.fl .f32 b1)), (Blk.mk Bool.false (Body.fl .f32 b2)), (Blk.mk Bool.true (Body.cells [(At.vw 0 0 q0i 1), (At.vw 1 0 q0f 1), (At.vw 2 0 q0h 1)]))])) := by kernel_rfl
theorem zjs (b0 : List Nat) (b1 : List Nat) (b2 : List Nat) (q0i : Nat) (q0f : Nat) (q0h : Nat) : ∀ (n : Nat) (i : Int), iter 12 4 3 (evC (R := Ex × St) Γ12 (evFn Γ12 8 8) 12 3 fi12.nt fi12.live fi12.nl 8 (findL 4 (loopsIn fi12.code))) n (St.mk [(1, (AV.v (TV.one (At.ptr 3 0 3)))), (4, (AV.v (TV.one (At.int .i64 i))))] [(Blk.mk Bool.false (Body.fl .f32 b0)), (Blk.mk Bool.false (Body.fl .f32 b1)), (Blk.mk Bool.false (Body.fl .f32 b2)), (Blk.mk Bool.true (Body.cells [(At.vw 0 0 q0i 1), (At.vw 1 0 q0f 1), (At.vw 2 0 q0h 1)]))]) (fun e st => some (e, st)) = (z6m b0 b1 b2 q0i q0f q0h) (z0u b0 b1 q0i q0f n i) := by
  intro n
  induction n with
  | zero => intros; rfl
  | succ n ih =>
    intro i
    refine Eq.trans (iter_succ ..) (Eq.trans (zkj i b0 b1 b2 q0i q0f q0h (nextK 12 4 3 (evC (R := Ex × St) Γ12 (evFn Γ12 8 8) 12 3 fi12.nt fi12.live fi12.nl 8 (findL 4 (loopsIn fi12.code))) n (fun e st => some (e, st)))) (Eq.trans ?_ (zga b0 b1 q0i q0f i (z6m b0 b1 b2 q0i q0f q0h) rfl (fun i' => z0u b0 b1 q0i q0f n i') (fun c0_ c1_ => some (Sum.inl (c0_, c1_))) (fun c0_ c1_ => some (Sum.inr (c0_, c1_))))))
    exact congrArg (fun kn_ => z3k b0 b1 q0i q0f i kn_ (fun c0_ c1_ => (z6m b0 b1 b2 q0i q0f q0h) (some (Sum.inl (c0_, c1_)))) (fun c0_ c1_ => (z6m b0 b1 b2 q0i q0f q0h) (some (Sum.inr (c0_, c1_))))) (funext fun i' => ih i')
theorem zh0 : LoopOne Try.prog fnTab 12 4 zef := lp_of (Γ := Γ12) tyTab_ok (FnL.ok fnTab_ok _ _) (LpL.ok lt12_ok) (SumL.ok tb12_ok _) mixed (fi := fi12) (by kernel_rfl) (by kernel_rfl) (by
  intro lo st out hp
  obtain ⟨hs, e1, e2, e3⟩ := lpT_inv hp
  clear hp
  obtain rfl : st = (St.mk [(1, (AV.v (TV.one (At.ptr 3 0 3)))), (4, (AV.v (TV.one (At.int .i64 (hvI (hGet hs 0))))))] [(Blk.mk Bool.false (Body.fl .f32 (hvLn (hGet hs 1)))), (Blk.mk Bool.false (Body.fl .f32 (hvLn (hGet hs 2)))), (Blk.mk Bool.false (Body.fl .f32 (hvLn (hGet hs 3)))), (Blk.mk Bool.true (Body.cells [(At.vw 0 0 (hvN (hGet hs 4)) 1), (At.vw 1 0 (hvN (hGet hs 5)) 1), (At.vw 2 0 (hvN (hGet hs 6)) 1)]))]) := e2.trans (by kernel_rfl)
  clear e2
  subst e1
  unfold zdv at e3
  injection e3 with h1 h2
  subst h2
  exact ⟨8, 8, big, Eq.trans (zjs (hvLn (hGet hs 1)) (hvLn (hGet hs 2)) (hvLn (hGet hs 3)) (hvN (hGet hs 4)) (hvN (hGet hs 5)) (hvN (hGet hs 6)) big (hvI (hGet hs 0))) (zki (hvLn (hGet hs 1)) (hvLn (hGet hs 2)) (hvLn (hGet hs 3)) (hvN (hGet hs 4)) (hvN (hGet hs 5)) (hvN (hGet hs 6)) (z0u (hvLn (hGet hs 1)) (hvLn (hGet hs 2)) (hvN (hGet hs 4)) (hvN (hGet hs 5)) big (hvI (hGet hs 0))) h1)⟩)
noncomputable def zdj (t10 : Nat) (t11 : Nat) (t12 : Nat) (t13 : Nat) (t14 : Nat) (q1b : Nat) (t34 : Int) (t35 : Int) (b0 : List Nat) (b1 : List Nat) (b2 : List Nat) (q0i : Nat) (q0f : Nat) (q0h : Nat) (b4 : List Nat) (b5 : List Nat) (b6 : List Nat) : Bool × LO := ((z91 q1b t34 q0h b5 b6 t11 t12 t13 t14 t35), (LO.one (Ex.exit 0) (St.mk [(9, (AV.v (TV.one (At.ptr 3 0 3)))), (10, (AV.v (TV.one (At.flt .f64 t10)))), (11, (AV.v (TV.one (At.flt .f64 (z0c q1b t34 q0h b5 b6 t11 t12 t13 t14 t35))))), (12, (AV.v (TV.one (At.flt .f64 (z0t q1b t34 q0h b5 b6 t11 t12 t13 t14 t35))))), (13, (AV.v (TV.one (At.flt .f64 (z11 q1b t34 q0h b5 b6 t11 t12 t13 t14 t35))))), (14, (AV.v (TV.one (At.flt .f64 (z1d q1b t34 q0h b5 b6 t11 t12 t13 t14 t35))))), (33, (AV.v (TV.one (At.sl 5 0 q1b 1)))), (34, (AV.v (TV.one (At.int .i64 t34)))), (35, (AV.v (TV.one (At.int .i64 (zab q1b t34 q0h b5 b6 t11 t12 t13 t14 t35))))), (36, (AV.v (TV.one (At.bool (za9 q1b t34 q0h b5 b6 t11 t12 t13 t14 t35)))))] [(Blk.mk Bool.false (Body.fl .f32 b0)), (Blk.mk Bool.false (Body.fl .f32 b1)), (Blk.mk Bool.false (Body.fl .f32 b2)), (Blk.mk Bool.true (Body.cells [(At.sl 4 0 q0i 1), (At.sl 5 0 q0f 1), (At.sl 6 0 q0h 1)])), (Blk.mk Bool.true (Body.fl .f32 b4)), (Blk.mk Bool.true (Body.fl .f32 b5)), (Blk.mk Bool.true (Body.fl .f32 b6))])))
noncomputable def zel : Nat → St → Option (Bool × LO) := lpT 3 (pSt [(pTm 9 (pV (pOne (pPtr 3 (liN 0) 3)))), (pTm 10 (pV (pOne (pFlt .f64)))), (pTm 11 (pV (pOne (pFlt .f64)))), (pTm 12 (pV (pOne (pFlt .f64)))), (pTm 13 (pV (pOne (pFlt .f64)))), (pTm 14 (pV (pOne (pFlt .f64)))), (pTm 33 (pV (pOne (pSl 5 (liN 0) 1)))), (pTm 34 (pV (pOne (pInt .i64)))), (pTm 35 (pV (pOne (pInt .i64))))] [(pBlk Bool.false (pFl .f32)), (pBlk Bool.false (pFl .f32)), (pBlk Bool.false (pFl .f32)), (pBlk Bool.true (pCells [(pSl 4 (liN 0) 1), (pSl 5 (liN 0) 1), (pSl 6 (liN 0) 1)])), (pBlk Bool.true (pFl .f32)), (pBlk Bool.true (pFl .f32)), (pBlk Bool.true (pFl .f32))]) (fun hs => zdj (hvN (hGet hs 0)) (hvN (hGet hs 1)) (hvN (hGet hs 2)) (hvN (hGet hs 3)) (hvN (hGet hs 4)) (hvN (hGet hs 5)) (hvI (hGet hs 6)) (hvI (hGet hs 7)) (hvLn (hGet hs 8)) (hvLn (hGet hs 9)) (hvLn (hGet hs 10)) (hvN (hGet hs 11)) (hvN (hGet hs 12)) (hvN (hGet hs 13)) (hvLn (hGet hs 14)) (hvLn (hGet hs 15)) (hvLn (hGet hs 16)))
def z8q (t10 : Nat) (q1b : Nat) (t34 : Int) (b0 : List Nat) (b1 : List Nat) (b2 : List Nat) (q0i : Nat) (q0f : Nat) (q0h : Nat) (b4 : List Nat) (b5 : List Nat) (b6 : List Nat) : Option ((Nat × Nat × Nat × Nat × Int × Bool)) → Option (Ex × St)
  | none => none
  | some r => some ((Ex.exit 0), (St.mk [(9, (AV.v (TV.one (At.ptr 3 0 3)))), (10, (AV.v (TV.one (At.flt .f64 t10)))), (11, (AV.v (TV.one (At.flt .f64 r.1)))), (12, (AV.v (TV.one (At.flt .f64 r.2.1)))), (13, (AV.v (TV.one (At.flt .f64 r.2.2.1)))), (14, (AV.v (TV.one (At.flt .f64 r.2.2.2.1)))), (33, (AV.v (TV.one (At.sl 5 0 q1b 1)))), (34, (AV.v (TV.one (At.int .i64 t34)))), (35, (AV.v (TV.one (At.int .i64 r.2.2.2.2.1)))), (36, (AV.v (TV.one (At.bool r.2.2.2.2.2))))] [(Blk.mk Bool.false (Body.fl .f32 b0)), (Blk.mk Bool.false (Body.fl .f32 b1)), (Blk.mk Bool.false (Body.fl .f32 b2)), (Blk.mk Bool.true (Body.cells [(At.sl 4 0 q0i 1), (At.sl 5 0 q0f 1), (At.sl 6 0 q0h 1)])), (Blk.mk Bool.true (Body.fl .f32 b4)), (Blk.mk Bool.true (Body.fl .f32 b5)), (Blk.mk Bool.true (Body.fl .f32 b6))]))
def zik (t10 : Nat) (q1b : Nat) (t34 : Int) (b0 : List Nat) (b1 : List Nat) (b2 : List Nat) (q0i : Nat) (q0f : Nat) (q0h : Nat) (b4 : List Nat) (b5 : List Nat) (b6 : List Nat) (x : Option ((Nat × Nat × Nat × Nat × Int × Bool))) : LO := (LO.one (Ex.exit 0) (St.mk [(9, (AV.v (TV.one (At.ptr 3 0 3)))), (10, (AV.v (TV.one (At.flt .f64 t10)))), (11, (AV.v (TV.one (At.flt .f64 (x.getD default).1)))), (12, (AV.v (TV.one (At.flt .f64 (x.getD default).2.1)))), (13, (AV.v (TV.one (At.flt .f64 (x.getD default).2.2.1)))), (14, (AV.v (TV.one (At.flt .f64 (x.getD default).2.2.2.1)))), (33, (AV.v (TV.one (At.sl 5 0 q1b 1)))), (34, (AV.v (TV.one (At.int .i64 t34)))), (35, (AV.v (TV.one (At.int .i64 (x.getD default).2.2.2.2.1)))), (36, (AV.v (TV.one (At.bool (x.getD default).2.2.2.2.2))))] [(Blk.mk Bool.false (Body.fl .f32 b0)), (Blk.mk Bool.false (Body.fl .f32 b1)), (Blk.mk Bool.false (Body.fl .f32 b2)), (Blk.mk Bool.true (Body.cells [(At.sl 4 0 q0i 1), (At.sl 5 0 q0f 1), (At.sl 6 0 q0h 1)])), (Blk.mk Bool.true (Body.fl .f32 b4)), (Blk.mk Bool.true (Body.fl .f32 b5)), (Blk.mk Bool.true (Body.fl .f32 b6))]))
theorem zk3 (t10 : Nat) (q1b : Nat) (t34 : Int) (b0 : List Nat) (b1 : List Nat) (b2 : List Nat) (q0i : Nat) (q0f : Nat) (q0h : Nat) (b4 : List Nat) (b5 : List Nat) (b6 : List Nat) : ∀ x : Option ((Nat × Nat × Nat × Nat × Int × Bool)), x.isSome = true → (z8q t10 q1b t34 b0 b1 b2 q0i q0f q0h b4 b5 b6) x = some (pick (zik t10 q1b t34 b0 b1 b2 q0i q0f q0h b4 b5 b6 x))
  | none, h => by cases h
  | some r, _ => rfl
theorem zjx (t10 : Nat) (t11 : Nat) (t12 : Nat) (t13 : Nat) (t14 : Nat) (q1b : Nat) (t34 : Int) (t35 : Int) (b0 : List Nat) (b1 : List Nat) (b2 : List Nat) (q0i : Nat) (q0f : Nat) (q0h : Nat) (b4 : List Nat) (b5 : List Nat) (b6 : List Nat) (K : Ex → St → Option (Ex × St)) : evC (R := Ex × St) Γ12 (evFn Γ12 8 8) 18 3 fi18.nt fi18.live fi18.nl 8 (findL 6 (loopsIn fi18.code)) (St.mk [(9, (AV.v (TV.one (At.ptr 3 0 3)))), (10, (AV.v (TV.one (At.flt .f64 t10)))), (11, (AV.v (TV.one (At.flt .f64 t11)))), (12, (AV.v (TV.one (At.flt .f64 t12)))), (13, (AV.v (TV.one (At.flt .f64 t13)))), (14, (AV.v (TV.one (At.flt .f64 t14)))), (33, (AV.v (TV.one (At.sl 5 0 q1b 1)))), (34, (AV.v (TV.one (At.int .i64 t34)))), (35, (AV.v (TV.one (At.int .i64 t35))))] [(Blk.mk Bool.false (Body.fl .f32 b0)), (Blk.mk Bool.false (Body.fl .f32 b1)), (Blk.mk Bool.false (Body.fl .f32 b2)), (Blk.mk Bool.true (Body.cells [(At.sl 4 0 q0i 1), (At.sl 5 0 q0f 1), (At.sl 6 0 q0h 1)])), (Blk.mk Bool.true (Body.fl .f32 b4)), (Blk.mk Bool.true (Body.fl .f32 b5)), (Blk.mk Bool.true (Body.fl .f32 b6))]) K = z3d q1b t34 q0h b5 b6 t11 t12 t13 t14 t35 (fun t11' t12' t13' t14' t35' => K .normal (St.mk [(9, (AV.v (TV.one (At.ptr 3 0 3)))), (10, (AV.v (TV.one (At.flt .f64 t10)))), (11, (AV.v (TV.one (At.flt .f64 t11')))), (12, (AV.v (TV.one (At.flt .f64 t12')))), (13, (AV.v (TV.one (At.flt .f64 t13')))), (14, (AV.v (TV.one (At.flt .f64 t14')))), (33, (AV.v (TV.one (At.sl 5 0 q1b 1)))), (34, (AV.v (TV.one (At.int .i64 t34)))), (35, (AV.v (TV.one (At.int .i64 t35'))))] [(Blk.mk Bool.false (Body.fl .f32 b0)), (Blk.mk Bool.false (Body.fl .f32 b1)), (Blk.mk Bool.false (Body.fl .f32 b2)), (Blk.mk Bool.true (Body.cells [(At.sl 4 0 q0i 1), (At.sl 5 0 q0f 1), (At.sl 6 0 q0h 1)])), (Blk.mk Bool.true (Body.fl .f32 b4)), (Blk.mk Bool.true (Body.fl .f32 b5)), (Blk.mk Bool.true (Body.fl .f32 b6))])) (fun c0_ c1_ c2_ c3_ c4_ c5_ => K (Ex.exit 0) (St.mk [(9, (AV.v (TV.one (At.ptr 3 0 3)))), (10, (AV.v (TV.one (At.flt .f64 t10)))), (11, (AV.v (TV.one (At.flt .f64 c0_)))), (12, (AV.v (TV.one (At.flt .f64 c1_)))), (13, (AV.v (TV.one (At.flt .f64 c2_)))), (14, (AV.v (TV.one (At.flt .f64 c3_)))), (33, (AV.v (TV.one (At.sl 5 0 q1b 1)))), (34, (AV.v (TV.one (At.int .i64 t34)))), (35, (AV.v (TV.one (At.int .i64 c4_)))), (36, (AV.v (TV.one (At.bool c5_))))] [(Blk.mk Bool.false (Body.fl .f32 b0)), (Blk.mk Bool.false (Body.fl .f32 b1)), (Blk.mk Bool.false (Body.fl .f32 b2)), (Blk.mk Bool.true (Body.cells [(At.sl 4 0 q0i 1), (At.sl 5 0 q0f 1), (At.sl 6 0 q0h 1)])), (Blk.mk Bool.true (Body.fl .f32 b4)), (Blk.mk Bool.true (Body.fl .f32 b5)), (Blk.mk Bool.true (Body.fl .f32 b6))])) := by kernel_rfl
theorem zk5 (t10 : Nat) (q1b : Nat) (t34 : Int) (b0 : List Nat) (b1 : List Nat) (b2 : List Nat) (q0i : Nat) (q0f : Nat) (q0h : Nat) (b4 : List Nat) (b5 : List Nat) (b6 : List Nat) : ∀ (n : Nat) (t11 : Nat) (t12 : Nat) (t13 : Nat) (t14 : Nat) (t35 : Int), iter 18 6 3 (evC (R := Ex × St) Γ12 (evFn Γ12 8 8) 18 3 fi18.nt fi18.live fi18.nl 8 (findL 6 (loopsIn fi18.code))) n (St.mk [(9, (AV.v (TV.one (At.ptr 3 0 3)))), (10, (AV.v (TV.one (At.flt .f64 t10)))), (11, (AV.v (TV.one (At.flt .f64 t11)))), (12, (AV.v (TV.one (At.flt .f64 t12)))), (13, (AV.v (TV.one (At.flt .f64 t13)))), (14, (AV.v (TV.one (At.flt .f64 t14)))), (33, (AV.v (TV.one (At.sl 5 0 q1b 1)))), (34, (AV.v (TV.one (At.int .i64 t34)))), (35, (AV.v (TV.one (At.int .i64 t35))))] [(Blk.mk Bool.false (Body.fl .f32 b0)), (Blk.mk Bool.false (Body.fl .f32 b1)), (Blk.mk Bool.false (Body.fl .f32 b2)), (Blk.mk Bool.true (Body.cells [(At.sl 4 0 q0i 1), (At.sl 5 0 q0f 1), (At.sl 6 0 q0h 1)])), (Blk.mk Bool.true (Body.fl .f32 b4)), (Blk.mk Bool.true (Body.fl .f32 b5)), (Blk.mk Bool.true (Body.fl .f32 b6))]) (fun e st => some (e, st)) = (z8q t10 q1b t34 b0 b1 b2 q0i q0f q0h b4 b5 b6) (z0v q1b t34 q0h b5 b6 n t11 t12 t13 t14 t35) := by
  intro n
  induction n with
  | zero => intros; rfl
  | succ n ih =>
    intro t11 t12 t13 t14 t35
    refine Eq.trans (iter_succ ..) (Eq.trans (zjx t10 t11 t12 t13 t14 q1b t34 t35 b0 b1 b2 q0i q0f q0h b4 b5 b6 (nextK 18 6 3 (evC (R := Ex × St) Γ12 (evFn Γ12 8 8) 18 3 fi18.nt fi18.live fi18.nl 8 (findL 6 (loopsIn fi18.code))) n (fun e st => some (e, st)))) (Eq.trans ?_ (zgk q1b t34 q0h b5 b6 t11 t12 t13 t14 t35 (z8q t10 q1b t34 b0 b1 b2 q0i q0f q0h b4 b5 b6) rfl (fun t11' t12' t13' t14' t35' => z0v q1b t34 q0h b5 b6 n t11' t12' t13' t14' t35') (fun c0_ c1_ c2_ c3_ c4_ c5_ => some (c0_, c1_, c2_, c3_, c4_, c5_)))))
    exact congrArg (fun kn_ => z3d q1b t34 q0h b5 b6 t11 t12 t13 t14 t35 kn_ (fun c0_ c1_ c2_ c3_ c4_ c5_ => (z8q t10 q1b t34 b0 b1 b2 q0i q0f q0h b4 b5 b6) (some (c0_, c1_, c2_, c3_, c4_, c5_)))) (funext fun t11' => funext fun t12' => funext fun t13' => funext fun t14' => funext fun t35' => ih t11' t12' t13' t14' t35')
theorem zgs : LoopOne Try.prog fnTab 18 6 zel := lp_of (Γ := Γ12) tyTab_ok (FnL.ok fnTab_ok _ _) (LpL.ok lt12_ok) (SumL.ok tb12_ok _) mixed (fi := fi18) (by kernel_rfl) (by kernel_rfl) (by
  intro lo st out hp
  obtain ⟨hs, e1, e2, e3⟩ := lpT_inv hp
  clear hp
  obtain rfl : st = (St.mk [(9, (AV.v (TV.one (At.ptr 3 0 3)))), (10, (AV.v (TV.one (At.flt .f64 (hvN (hGet hs 0)))))), (11, (AV.v (TV.one (At.flt .f64 (hvN (hGet hs 1)))))), (12, (AV.v (TV.one (At.flt .f64 (hvN (hGet hs 2)))))), (13, (AV.v (TV.one (At.flt .f64 (hvN (hGet hs 3)))))), (14, (AV.v (TV.one (At.flt .f64 (hvN (hGet hs 4)))))), (33, (AV.v (TV.one (At.sl 5 0 (hvN (hGet hs 5)) 1)))), (34, (AV.v (TV.one (At.int .i64 (hvI (hGet hs 6)))))), (35, (AV.v (TV.one (At.int .i64 (hvI (hGet hs 7))))))] [(Blk.mk Bool.false (Body.fl .f32 (hvLn (hGet hs 8)))), (Blk.mk Bool.false (Body.fl .f32 (hvLn (hGet hs 9)))), (Blk.mk Bool.false (Body.fl .f32 (hvLn (hGet hs 10)))), (Blk.mk Bool.true (Body.cells [(At.sl 4 0 (hvN (hGet hs 11)) 1), (At.sl 5 0 (hvN (hGet hs 12)) 1), (At.sl 6 0 (hvN (hGet hs 13)) 1)])), (Blk.mk Bool.true (Body.fl .f32 (hvLn (hGet hs 14)))), (Blk.mk Bool.true (Body.fl .f32 (hvLn (hGet hs 15)))), (Blk.mk Bool.true (Body.fl .f32 (hvLn (hGet hs 16))))]) := e2.trans (by kernel_rfl)
  clear e2
  subst e1
  unfold zdj at e3
  injection e3 with h1 h2
  subst h2
  exact ⟨8, 8, big, Eq.trans (zk5 (hvN (hGet hs 0)) (hvN (hGet hs 5)) (hvI (hGet hs 6)) (hvLn (hGet hs 8)) (hvLn (hGet hs 9)) (hvLn (hGet hs 10)) (hvN (hGet hs 11)) (hvN (hGet hs 12)) (hvN (hGet hs 13)) (hvLn (hGet hs 14)) (hvLn (hGet hs 15)) (hvLn (hGet hs 16)) big (hvN (hGet hs 1)) (hvN (hGet hs 2)) (hvN (hGet hs 3)) (hvN (hGet hs 4)) (hvI (hGet hs 7))) (zk3 (hvN (hGet hs 0)) (hvN (hGet hs 5)) (hvI (hGet hs 6)) (hvLn (hGet hs 8)) (hvLn (hGet hs 9)) (hvLn (hGet hs 10)) (hvN (hGet hs 11)) (hvN (hGet hs 12)) (hvN (hGet hs 13)) (hvLn (hGet hs 14)) (hvLn (hGet hs 15)) (hvLn (hGet hs 16)) (z0v (hvN (hGet hs 5)) (hvI (hGet hs 6)) (hvN (hGet hs 13)) (hvLn (hGet hs 15)) (hvLn (hGet hs 16)) big (hvN (hGet hs 1)) (hvN (hGet hs 2)) (hvN (hGet hs 3)) (hvN (hGet hs 4)) (hvI (hGet hs 7))) h1)⟩)
noncomputable def tb13 : List (Nat × (List PT → Option (Bool × AV × List Blk))) := (17, zd4) :: tb12
noncomputable def lt13 : List ((Nat × Nat) × (Nat → St → Option (Bool × LO))) := ((7, 5), zf1) :: ((8, 5), zed) :: ((11, 5), ze5) :: ((12, 4), zef) :: ((18, 6), zel) :: lt12
noncomputable def Γ13 : Ctx := ⟨tyTab, fnTab, tblSum tb13, tblLp lt13⟩
theorem tb13_ok : SumL Try.prog tb13 := SumL.cons zij (tb12_ok)
theorem lt13_ok : LpL Try.prog fnTab lt13 := LpL.cons zhr (LpL.cons zhc (LpL.cons zgg (LpL.cons zh0 (LpL.cons zgs (lt12_ok)))))
noncomputable def zea : List PT → Option (Bool × AV × List Blk)
  | [.agg [.row 1 q08 (.fl .f32 q0b), .row 1 q09 (.fl .f32 q0c), .row 1 q0a (.fl .f32 q0d)]] => some ((zc3 q08 q0b q09 q0c q0a q0d), ((AV.tup [(TV.one (At.int .i64 (z4c q08 q0b q09 q0c q0a q0d))), (TV.one (At.flt .f32 (zbh q08 q0b q09 q0c q0a q0d))), (TV.one (At.bool (zbi q08 q0b q09 q0c q0a q0d)))]), []))
  | _ => none
def zhg (q08 : Nat) (q0b : List Nat) (q09 : Nat) (q0c : List Nat) (q0a : Nat) (q0d : List Nat) : Option (Int × Nat × Bool) → Option (AV × List Blk)
  | some r => some ((AV.tup [(TV.one (At.int .i64 r.1)), (TV.one (At.flt .f32 r.2.1)), (TV.one (At.bool r.2.2))]), [])
  | none => none
theorem zm6 (q08 : Nat) (q0b : List Nat) (q09 : Nat) (q0c : List Nat) (q0a : Nat) (q0d : List Nat) : evFn Γ13 8 8 7 (impTs 0 [.agg [.row 1 q08 (.fl .f32 q0b), .row 1 q09 (.fl .f32 q0c), .row 1 q0a (.fl .f32 q0d)]]).1 (impTs 0 [.agg [.row 1 q08 (.fl .f32 q0b), .row 1 q09 (.fl .f32 q0c), .row 1 q0a (.fl .f32 q0d)]]).2 (expo (impTs 0 [.agg [.row 1 q08 (.fl .f32 q0b), .row 1 q09 (.fl .f32 q0c), .row 1 q0a (.fl .f32 q0d)]]).2.length) = z7k q08 q0b q09 q0c q0a q0d (fun c0_ c1_ c2_ => some ((AV.tup [(TV.one (At.int .i64 c0_)), (TV.one (At.flt .f32 c1_)), (TV.one (At.bool c2_))]), [])) := by kernel_rfl
theorem zkv : SumOne Try.prog 7 zea := sum_of (Γ := Γ13) (fuel := 8) (d := 8) tyTab_ok (FnL.ok fnTab_ok _ _) (LpL.ok lt13_ok) (SumL.ok tb13_ok _) mixed (by
  intro pts v news hp hc
  clear hc
  unfold zea at hp
  split at hp
  · rename_i q08 q0b q09 q0c q0a q0d
    exact Eq.trans (Eq.trans (zm6 q08 q0b q09 q0c q0a q0d) (zje q08 q0b q09 q0c q0a q0d (zhg q08 q0b q09 q0c q0a q0d) rfl (fun c0_ c1_ c2_ => some (c0_, c1_, c2_)))) (fin_out (o := (zhg q08 q0b q09 q0c q0a q0d)) (x := z5l q08 q0b q09 q0c q0a q0d) (d := default) (V := fun r => ((AV.tup [(TV.one (At.int .i64 r.1)), (TV.one (At.flt .f32 r.2.1)), (TV.one (At.bool r.2.2))]), [])) (fun r => rfl) hp)
  · cases hp)
noncomputable def zdk : List PT → Option (Bool × AV × List Blk)
  | [.agg [.row 1 q08 (.fl .f32 q0b), .row 1 q09 (.fl .f32 q0c), .row 1 q0a (.fl .f32 q0d)]] => some ((z8l q08 q0b q09 q0c q0a q0d), ((AV.tup [(TV.one (At.flt .f32 (z5a q08 q0b q09 q0c q0a q0d))), (TV.one (At.bool (z7w q08 q0b q09 q0c q0a q0d)))]), []))
  | _ => none
def zg1 (q08 : Nat) (q0b : List Nat) (q09 : Nat) (q0c : List Nat) (q0a : Nat) (q0d : List Nat) : Option (Nat × Bool) → Option (AV × List Blk)
  | some r => some ((AV.tup [(TV.one (At.flt .f32 r.1)), (TV.one (At.bool r.2))]), [])
  | none => none
theorem zlx (q08 : Nat) (q0b : List Nat) (q09 : Nat) (q0c : List Nat) (q0a : Nat) (q0d : List Nat) : evFn Γ13 8 8 8 (impTs 0 [.agg [.row 1 q08 (.fl .f32 q0b), .row 1 q09 (.fl .f32 q0c), .row 1 q0a (.fl .f32 q0d)]]).1 (impTs 0 [.agg [.row 1 q08 (.fl .f32 q0b), .row 1 q09 (.fl .f32 q0c), .row 1 q0a (.fl .f32 q0d)]]).2 (expo (impTs 0 [.agg [.row 1 q08 (.fl .f32 q0b), .row 1 q09 (.fl .f32 q0c), .row 1 q0a (.fl .f32 q0d)]]).2.length) = z5q q08 q0b q09 q0c q0a q0d (fun c0_ c1_ => some ((AV.tup [(TV.one (At.flt .f32 c0_)), (TV.one (At.bool c1_))]), [])) := by kernel_rfl
theorem zjw : SumOne Try.prog 8 zdk := sum_of (Γ := Γ13) (fuel := 8) (d := 8) tyTab_ok (FnL.ok fnTab_ok _ _) (LpL.ok lt13_ok) (SumL.ok tb13_ok _) mixed (by
  intro pts v news hp hc
  clear hc
  unfold zdk at hp
  split at hp
  · rename_i q08 q0b q09 q0c q0a q0d
    exact Eq.trans (Eq.trans (zlx q08 q0b q09 q0c q0a q0d) (zj0 q08 q0b q09 q0c q0a q0d (zg1 q08 q0b q09 q0c q0a q0d) rfl (fun c0_ c1_ => some (c0_, c1_)))) (fin_out (o := (zg1 q08 q0b q09 q0c q0a q0d)) (x := z2p q08 q0b q09 q0c q0a q0d) (d := default) (V := fun r => ((AV.tup [(TV.one (At.flt .f32 r.1)), (TV.one (At.bool r.2))]), [])) (fun r => rfl) hp)
  · cases hp)
noncomputable def zd6 : List PT → Option (Bool × AV × List Blk)
  | [.agg [.row 1 q08 (.fl .f32 q0b), .row 1 q09 (.fl .f32 q0c), .row 1 q0a (.fl .f32 q0d)]] => some ((zap q08 q0b q09 q0c q0a q0d), ((AV.tup [(TV.one (At.int .i64 (z3s q08 q0b q09 q0c q0a q0d))), (TV.one (At.flt .f32 (z5y q08 q0b q09 q0c q0a q0d))), (TV.one (At.bool (z9o q08 q0b q09 q0c q0a q0d)))]), []))
  | _ => none
def zfk (q08 : Nat) (q0b : List Nat) (q09 : Nat) (q0c : List Nat) (q0a : Nat) (q0d : List Nat) : Option (Int × Nat × Bool) → Option (AV × List Blk)
  | some r => some ((AV.tup [(TV.one (At.int .i64 r.1)), (TV.one (At.flt .f32 r.2.1)), (TV.one (At.bool r.2.2))]), [])
  | none => none
theorem zl7 (q08 : Nat) (q0b : List Nat) (q09 : Nat) (q0c : List Nat) (q0a : Nat) (q0d : List Nat) : evFn Γ13 8 8 11 (impTs 0 [.agg [.row 1 q08 (.fl .f32 q0b), .row 1 q09 (.fl .f32 q0c), .row 1 q0a (.fl .f32 q0d)]]).1 (impTs 0 [.agg [.row 1 q08 (.fl .f32 q0b), .row 1 q09 (.fl .f32 q0c), .row 1 q0a (.fl .f32 q0d)]]).2 (expo (impTs 0 [.agg [.row 1 q08 (.fl .f32 q0b), .row 1 q09 (.fl .f32 q0c), .row 1 q0a (.fl .f32 q0d)]]).2.length) = z6a q08 q0b q09 q0c q0a q0d (fun c0_ c1_ c2_ => some ((AV.tup [(TV.one (At.int .i64 c0_)), (TV.one (At.flt .f32 c1_)), (TV.one (At.bool c2_))]), [])) := by kernel_rfl
theorem ziv : SumOne Try.prog 11 zd6 := sum_of (Γ := Γ13) (fuel := 8) (d := 8) tyTab_ok (FnL.ok fnTab_ok _ _) (LpL.ok lt13_ok) (SumL.ok tb13_ok _) mixed (by
  intro pts v news hp hc
  clear hc
  unfold zd6 at hp
  split at hp
  · rename_i q08 q0b q09 q0c q0a q0d
    exact Eq.trans (Eq.trans (zl7 q08 q0b q09 q0c q0a q0d) (zhx q08 q0b q09 q0c q0a q0d (zfk q08 q0b q09 q0c q0a q0d) rfl (fun c0_ c1_ c2_ => some (c0_, c1_, c2_)))) (fin_out (o := (zfk q08 q0b q09 q0c q0a q0d)) (x := z4f q08 q0b q09 q0c q0a q0d) (d := default) (V := fun r => ((AV.tup [(TV.one (At.int .i64 r.1)), (TV.one (At.flt .f32 r.2.1)), (TV.one (At.bool r.2.2))]), [])) (fun r => rfl) hp)
  · cases hp)
noncomputable def zdx : List PT → Option (Bool × AV × List Blk)
  | [.agg [.row 1 q08 (.fl .f32 q0b), .row 1 q09 (.fl .f32 q0c), .row 1 q0a (.fl .f32 q0d)]] => some ((z8t q08 q0b q09 q0c q0a q0d), ((AV.tup [(TV.one (At.flt .f32 (z1z q08 q0b q09 q0c q0a q0d))), (TV.one (At.bool (z5d q08 q0b q09 q0c q0a q0d)))]), []))
  | _ => none
def zg4 (q08 : Nat) (q0b : List Nat) (q09 : Nat) (q0c : List Nat) (q0a : Nat) (q0d : List Nat) : Option (Nat × Bool) → Option (AV × List Blk)
  | some r => some ((AV.tup [(TV.one (At.flt .f32 r.1)), (TV.one (At.bool r.2))]), [])
  | none => none
theorem zlr (q08 : Nat) (q0b : List Nat) (q09 : Nat) (q0c : List Nat) (q0a : Nat) (q0d : List Nat) : evFn Γ13 8 8 12 (impTs 0 [.agg [.row 1 q08 (.fl .f32 q0b), .row 1 q09 (.fl .f32 q0c), .row 1 q0a (.fl .f32 q0d)]]).1 (impTs 0 [.agg [.row 1 q08 (.fl .f32 q0b), .row 1 q09 (.fl .f32 q0c), .row 1 q0a (.fl .f32 q0d)]]).2 (expo (impTs 0 [.agg [.row 1 q08 (.fl .f32 q0b), .row 1 q09 (.fl .f32 q0c), .row 1 q0a (.fl .f32 q0d)]]).2.length) = z5r q08 q0b q09 q0c q0a q0d (fun c0_ c1_ => some ((AV.tup [(TV.one (At.flt .f32 c0_)), (TV.one (At.bool c1_))]), [])) := by kernel_rfl
theorem zjn : SumOne Try.prog 12 zdx := sum_of (Γ := Γ13) (fuel := 8) (d := 8) tyTab_ok (FnL.ok fnTab_ok _ _) (LpL.ok lt13_ok) (SumL.ok tb13_ok _) mixed (by
  intro pts v news hp hc
  clear hc
  unfold zdx at hp
  split at hp
  · rename_i q08 q0b q09 q0c q0a q0d
    exact Eq.trans (Eq.trans (zlr q08 q0b q09 q0c q0a q0d) (zi7 q08 q0b q09 q0c q0a q0d (zg4 q08 q0b q09 q0c q0a q0d) rfl (fun c0_ c1_ => some (c0_, c1_)))) (fin_out (o := (zg4 q08 q0b q09 q0c q0a q0d)) (x := z4a q08 q0b q09 q0c q0a q0d) (d := default) (V := fun r => ((AV.tup [(TV.one (At.flt .f32 r.1)), (TV.one (At.bool r.2))]), [])) (fun r => rfl) hp)
  · cases hp)
noncomputable def zdu : List PT → Option (Bool × AV × List Blk)
  | [.agg [.row 1 q01 (.fl .f32 q05), .row 1 q02 (.fl .f32 q06), .row 1 q03 (.fl .f32 q07)], .one (.s (.flt .f32 x1)), .one (.s (.flt .f32 x2))] => some ((z5t q01 q05 q02 q06 q03 q07 x1 x2), ((AV.tup [(TV.one (At.flt .f32 (z33 q01 q05 q02 q06 q03 q07 x1 x2))), (TV.one (At.flt .f32 (z30 q01 q05 q02 q06 q03 q07 x1 x2))), (TV.one (At.bool (z59 q01 q05 q02 q06 q03 q07 x1 x2)))]), []))
  | _ => none
def zfy (q01 : Nat) (q05 : List Nat) (q02 : Nat) (q06 : List Nat) (q03 : Nat) (q07 : List Nat) (x1 : Nat) (x2 : Nat) : Option (Nat × Nat × Bool) → Option (AV × List Blk)
  | some r => some ((AV.tup [(TV.one (At.flt .f32 r.1)), (TV.one (At.flt .f32 r.2.1)), (TV.one (At.bool r.2.2))]), [])
  | none => none
theorem zln (q01 : Nat) (q05 : List Nat) (q02 : Nat) (q06 : List Nat) (q03 : Nat) (q07 : List Nat) (x1 : Nat) (x2 : Nat) : evFn Γ13 8 8 18 (impTs 0 [.agg [.row 1 q01 (.fl .f32 q05), .row 1 q02 (.fl .f32 q06), .row 1 q03 (.fl .f32 q07)], .one (.s (.flt .f32 x1)), .one (.s (.flt .f32 x2))]).1 (impTs 0 [.agg [.row 1 q01 (.fl .f32 q05), .row 1 q02 (.fl .f32 q06), .row 1 q03 (.fl .f32 q07)], .one (.s (.flt .f32 x1)), .one (.s (.flt .f32 x2))]).2 (expo (impTs 0 [.agg [.row 1 q01 (.fl .f32 q05), .row 1 q02 (.fl .f32 q06), .row 1 q03 (.fl .f32 q07)], .one (.s (.flt .f32 x1)), .one (.s (.flt .f32 x2))]).2.length) = z78 q01 q05 q02 q06 q03 q07 x1 x2 (fun c0_ c1_ c2_ => some ((AV.tup [(TV.one (At.flt .f32 c0_)), (TV.one (At.flt .f32 c1_)), (TV.one (At.bool c2_))]), [])) := by kernel_rfl
theorem zj6 : SumOne Try.prog 18 zdu := sum_of (Γ := Γ13) (fuel := 8) (d := 8) tyTab_ok (FnL.ok fnTab_ok _ _) (LpL.ok lt13_ok) (SumL.ok tb13_ok _) mixed (by
  intro pts v news hp hc
  clear hc
  unfold zdu at hp
  split at hp
  · rename_i q01 q05 q02 q06 q03 q07 x1 x2
    exact Eq.trans (Eq.trans (zln q01 q05 q02 q06 q03 q07 x1 x2) (zif q01 q05 q02 q06 q03 q07 x1 x2 (zfy q01 q05 q02 q06 q03 q07 x1 x2) rfl (fun c0_ c1_ c2_ => some (c0_, c1_, c2_)))) (fin_out (o := (zfy q01 q05 q02 q06 q03 q07 x1 x2)) (x := z4s q01 q05 q02 q06 q03 q07 x1 x2) (d := default) (V := fun r => ((AV.tup [(TV.one (At.flt .f32 r.1)), (TV.one (At.flt .f32 r.2.1)), (TV.one (At.bool r.2.2))]), [])) (fun r => rfl) hp)
  · cases hp)
noncomputable def z74 (b0 : List Int) (q0g : Nat) (q0l : Int) (q0m : Int) (q0u : Nat) (q0v : Nat) (q0t : Nat) (b5 : List Nat) (b6 : List Nat) (b7 : List Nat) : Bool × LO := ((z0z b0 q0g q0l q0m), (LO.one Ex.ret (St.mk [(2, (AV.v (TV.one (At.int .i64 (z0b b0 q0g q0l q0m)))))] [(Blk.mk Bool.false (Body.il .u8 b0)), (Blk.mk Bool.true (Body.cells [At.nilsl, At.nilsl, At.nilsl])), (Blk.mk Bool.true (Body.cells [(At.vw 0 0 q0g 1), (At.int .i64 (z08 b0 q0g q0l q0m)), (At.int .u64 (z09 b0 q0g q0l q0m))])), (Blk.mk Bool.true (Body.cells [At.nilsl, At.nilsl, At.nilsl])), (Blk.mk Bool.true (Body.cells [(At.sl 5 0 q0u 1), (At.sl 6 0 q0v 1), (At.sl 7 0 q0t 1)])), (Blk.mk Bool.true (Body.fl .f32 b5)), (Blk.mk Bool.true (Body.fl .f32 b6)), (Blk.mk Bool.true (Body.fl .f32 b7))])))
noncomputable def z7h : Nat → St → Option (Bool × LO) := lpT 8 (pSt [(pTm 0 (pV (pOne (pPtr 2 (liN 0) 3))))] [(pBlk Bool.false (pIl .u8)), (pBlk Bool.true (pCells [pNil, pNil, pNil])), (pBlk Bool.true (pCells [(pVw 0 (liN 0) 1), (pInt .i64), (pInt .u64)])), (pBlk Bool.true (pCells [pNil, pNil, pNil])), (pBlk Bool.true (pCells [(pSl 5 (liN 0) 1), (pSl 6 (liN 0) 1), (pSl 7 (liN 0) 1)])), (pBlk Bool.true (pFl .f32)), (pBlk Bool.true (pFl .f32)), (pBlk Bool.true (pFl .f32))]) (fun hs => z74 (hvLi (hGet hs 0)) (hvN (hGet hs 1)) (hvI (hGet hs 2)) (hvI (hGet hs 3)) (hvN (hGet hs 4)) (hvN (hGet hs 5)) (hvN (hGet hs 6)) (hvLn (hGet hs 7)) (hvLn (hGet hs 8)) (hvLn (hGet hs 9)))
def z53 (b0 : List Int) (q0g : Nat) (q0l : Int) (q0m : Int) (q0u : Nat) (q0v : Nat) (q0t : Nat) (b5 : List Nat) (b6 : List Nat) (b7 : List Nat) : Option ((Int × Int × Int)) → Option (Ex × St)
  | none => none
  | some r => some (Ex.ret, (St.mk [(2, (AV.v (TV.one (At.int .i64 r.1))))] [(Blk.mk Bool.false (Body.il .u8 b0)), (Blk.mk Bool.true (Body.cells [At.nilsl, At.nilsl, At.nilsl])), (Blk.mk Bool.true (Body.cells [(At.vw 0 0 q0g 1), (At.int .i64 r.2.1), (At.int .u64 r.2.2)])), (Blk.mk Bool.true (Body.cells [At.nilsl, At.nilsl, At.nilsl])), (Blk.mk Bool.true (Body.cells [(At.sl 5 0 q0u 1), (At.sl 6 0 q0v 1), (At.sl 7 0 q0t 1)])), (Blk.mk Bool.true (Body.fl .f32 b5)), (Blk.mk Bool.true (Body.fl .f32 b6)), (Blk.mk Bool.true (Body.fl .f32 b7))]))
def zcg (b0 : List Int) (q0g : Nat) (q0l : Int) (q0m : Int) (q0u : Nat) (q0v : Nat) (q0t : Nat) (b5 : List Nat) (b6 : List Nat) (b7 : List Nat) (x : Option ((Int × Int × Int))) : LO := (LO.one Ex.ret (St.mk [(2, (AV.v (TV.one (At.int .i64 (x.getD default).1))))] [(Blk.mk Bool.false (Body.il .u8 b0)), (Blk.mk Bool.true (Body.cells [At.nilsl, At.nilsl, At.nilsl])), (Blk.mk Bool.true (Body.cells [(At.vw 0 0 q0g 1), (At.int .i64 (x.getD default).2.1), (At.int .u64 (x.getD default).2.2)])), (Blk.mk Bool.true (Body.cells [At.nilsl, At.nilsl, At.nilsl])), (Blk.mk Bool.true (Body.cells [(At.sl 5 0 q0u 1), (At.sl 6 0 q0v 1), (At.sl 7 0 q0t 1)])), (Blk.mk Bool.true (Body.fl .f32 b5)), (Blk.mk Bool.true (Body.fl .f32 b6)), (Blk.mk Bool.true (Body.fl .f32 b7))]))
theorem zcv (b0 : List Int) (q0g : Nat) (q0l : Int) (q0m : Int) (q0u : Nat) (q0v : Nat) (q0t : Nat) (b5 : List Nat) (b6 : List Nat) (b7 : List Nat) : ∀ x : Option ((Int × Int × Int)), x.isSome = true → (z53 b0 q0g q0l q0m q0u q0v q0t b5 b6 b7) x = some (pick (zcg b0 q0g q0l q0m q0u q0v q0t b5 b6 b7 x))
  | none, h => by cases h
  | some r, _ => rfl
theorem zcr (b0 : List Int) (q0g : Nat) (q0l : Int) (q0m : Int) (q0u : Nat) (q0v : Nat) (q0t : Nat) (b5 : List Nat) (b6 : List Nat) (b7 : List Nat) (K : Ex → St → Option (Ex × St)) : evC (R := Ex × St) Γ13 (evFn Γ13 8 8) 65 8 fi65.nt fi65.live fi65.nl 8 fi65.code (St.mk [(0, (AV.v (TV.one (At.ptr 2 0 3))))] [(Blk.mk Bool.false (Body.il .u8 b0)), (Blk.mk Bool.true (Body.cells [At.nilsl, At.nilsl, At.nilsl])), (Blk.mk Bool.true (Body.cells [(At.vw 0 0 q0g 1), (At.int .i64 q0l), (At.int .u64 q0m)])), (Blk.mk Bool.true (Body.cells [At.nilsl, At.nilsl, At.nilsl])), (Blk.mk Bool.true (Body.cells [(At.sl 5 0 q0u 1), (At.sl 6 0 q0v 1), (At.sl 7 0 q0t 1)])), (Blk.mk Bool.true (Body.fl .f32 b5)), (Blk.mk Bool.true (Body.fl .f32 b6)), (Blk.mk Bool.true (Body.fl .f32 b7))]) K = z1w b0 q0g q0l q0m (fun _ => K .normal (St.mk [(0, (AV.v (TV.one (At.ptr 2 0 3))))] [(Blk.mk Bool.false (Body.il .u8 b0)), (Blk.mk Bool.true (Body.cells [At.nilsl, At.nilsl, At.nilsl])), (Blk.mk Bool.true (Body.cells [(At.vw 0 0 q0g 1), (At.int .i64 q0l), (At.int .u64 q0m)])), (Blk.mk Bool.true (Body.cells [At.nilsl, At.nilsl, At.nilsl])), (Blk.mk Bool.true (Body.cells [(At.sl 5 0 q0u 1), (At.sl 6 0 q0v 1), (At.sl 7 0 q0t 1)])), (Blk.mk Bool.true (Body.fl .f32 b5)), (Blk.mk Bool.true (Body.fl .f32 b6)), (Blk.mk Bool.true (Body.fl .f32 b7))])) (fun c0_ c1_ c2_ => K Ex.ret (St.mk [(2, (AV.v (TV.one (At.int .i64 c0_))))] [(Blk.mk Bool.false (Body.il .u8 b0)), (Blk.mk Bool.true (Body.cells [At.nilsl, At.nilsl, At.nilsl])), (Blk.mk Bool.true (Body.cells [(At.vw 0 0 q0g 1), (At.int .i64 c1_), (At.int .u64 c2_)])), (Blk.mk Bool.true (Body.cells [At.nilsl, At.nilsl, At.nilsl])), (Blk.mk Bool.true (Body.cells [(At.sl 5 0 q0u 1), (At.sl 6 0 q0v 1), (At.sl 7 0 q0t 1)])), (Blk.mk Bool.true (Body.fl .f32 b5)), (Blk.mk Bool.true (Body.fl .f32 b6)), (Blk.mk Bool.true (Body.fl .f32 b7))])) := by kernel_rfl
theorem zcs (b0 : List Int) (q0g : Nat) (q0l : Int) (q0m : Int) (q0u : Nat) (q0v : Nat) (q0t : Nat) (b5 : List Nat) (b6 : List Nat) (b7 : List Nat) : evC (R := Ex × St) Γ13 (evFn Γ13 8 8) 65 8 fi65.nt fi65.live fi65.nl 8 fi65.code (St.mk [(0, (AV.v (TV.one (At.ptr 2 0 3))))] [(Blk.mk Bool.false (Body.il .u8 b0)), (Blk.mk Bool.true (Body.cells [At.nilsl, At.nilsl, At.nilsl])), (Blk.mk Bool.true (Body.cells [(At.vw 0 0 q0g 1), (At.int .i64 q0l), (At.int .u64 q0m)])), (Blk.mk Bool.true (Body.cells [At.nilsl, At.nilsl, At.nilsl])), (Blk.mk Bool.true (Body.cells [(At.sl 5 0 q0u 1), (At.sl 6 0 q0v 1), (At.sl 7 0 q0t 1)])), (Blk.mk Bool.true (Body.fl .f32 b5)), (Blk.mk Bool.true (Body.fl .f32 b6)), (Blk.mk Bool.true (Body.fl .f32 b7))]) (fun e st => some (e, st)) = (z53 b0 q0g q0l q0m q0u q0v q0t b5 b6 b7) (z0o b0 q0g q0l q0m big ) := by
  obtain ⟨n, hn⟩ := big_succ
  rw [hn]
  refine Eq.trans (zcr b0 q0g q0l q0m q0u q0v q0t b5 b6 b7 (fun e st => some (e, st))) (Eq.trans ?_ (zbk b0 q0g q0l q0m (z53 b0 q0g q0l q0m q0u q0v q0t b5 b6 b7) rfl (fun _ => z0o b0 q0g q0l q0m n ) (fun c0_ c1_ c2_ => some (c0_, c1_, c2_))))
  unfold z1w
  rfl
theorem zbv : LoopOne Try.prog fnTab 65 bodyId z7h := bd_of (Γ := Γ13) tyTab_ok (FnL.ok fnTab_ok _ _) (LpL.ok lt13_ok) (SumL.ok tb13_ok _) mixed (fi := fi65) (by kernel_rfl) (by kernel_rfl) (by
  intro lo st out hp
  obtain ⟨hs, e1, e2, e3⟩ := lpT_inv hp
  clear hp
  obtain rfl : st = (St.mk [(0, (AV.v (TV.one (At.ptr 2 0 3))))] [(Blk.mk Bool.false (Body.il .u8 (hvLi (hGet hs 0)))), (Blk.mk Bool.true (Body.cells [At.nilsl, At.nilsl, At.nilsl])), (Blk.mk Bool.true (Body.cells [(At.vw 0 0 (hvN (hGet hs 1)) 1), (At.int .i64 (hvI (hGet hs 2))), (At.int .u64 (hvI (hGet hs 3)))])), (Blk.mk Bool.true (Body.cells [At.nilsl, At.nilsl, At.nilsl])), (Blk.mk Bool.true (Body.cells [(At.sl 5 0 (hvN (hGet hs 4)) 1), (At.sl 6 0 (hvN (hGet hs 5)) 1), (At.sl 7 0 (hvN (hGet hs 6)) 1)])), (Blk.mk Bool.true (Body.fl .f32 (hvLn (hGet hs 7)))), (Blk.mk Bool.true (Body.fl .f32 (hvLn (hGet hs 8)))), (Blk.mk Bool.true (Body.fl .f32 (hvLn (hGet hs 9))))]) := e2.trans (by kernel_rfl)
  clear e2
  subst e1
  unfold z74 at e3
  injection e3 with h1 h2
  subst h2
  exact ⟨8, 8, Eq.trans (zcs (hvLi (hGet hs 0)) (hvN (hGet hs 1)) (hvI (hGet hs 2)) (hvI (hGet hs 3)) (hvN (hGet hs 4)) (hvN (hGet hs 5)) (hvN (hGet hs 6)) (hvLn (hGet hs 7)) (hvLn (hGet hs 8)) (hvLn (hGet hs 9)) ) (zcv (hvLi (hGet hs 0)) (hvN (hGet hs 1)) (hvI (hGet hs 2)) (hvI (hGet hs 3)) (hvN (hGet hs 4)) (hvN (hGet hs 5)) (hvN (hGet hs 6)) (hvLn (hGet hs 7)) (hvLn (hGet hs 8)) (hvLn (hGet hs 9)) (z0o (hvLi (hGet hs 0)) (hvN (hGet hs 1)) (hvI (hGet hs 2)) (hvI (hGet hs 3)) big ) h1)⟩)
noncomputable def tb14 : List (Nat × (List PT → Option (Bool × AV × List Blk))) := (7, zea) :: (8, zdk) :: (11, zd6) :: (12, zdx) :: (18, zdu) :: tb13
noncomputable def lt14 : List ((Nat × Nat) × (Nat → St → Option (Bool × LO))) := ((65, 1000000007), z7h) :: lt13
noncomputable def Γ14 : Ctx := ⟨tyTab, fnTab, tblSum tb14, tblLp lt14⟩
theorem tb14_ok : SumL Try.prog tb14 := SumL.cons zkv (SumL.cons zjw (SumL.cons ziv (SumL.cons zjn (SumL.cons zj6 (tb13_ok)))))
theorem lt14_ok : LpL Try.prog fnTab lt14 := LpL.cons zbv (lt13_ok)
noncomputable def tb15 : List (Nat × (List PT → Option (Bool × AV × List Blk))) := tb14
noncomputable def lt15 : List ((Nat × Nat) × (Nat → St → Option (Bool × LO))) := lt14
noncomputable def Γ15 : Ctx := ⟨tyTab, fnTab, tblSum tb15, tblLp lt15⟩
theorem tb15_ok : SumL Try.prog tb15 := tb14_ok
theorem lt15_ok : LpL Try.prog fnTab lt15 := lt14_ok
noncomputable def z7t (x : Nat) (n_ : Int) (b0 : List Int) (q0g : Nat) (q0l : Int) (q0m : Int) (q0u : Nat) (q0v : Nat) (q0t : Nat) (b5 : List Nat) (b6 : List Nat) (b7 : List Nat) : Bool × LO := ((z49 b0 q0g x n_ q0l q0m q0u q0v q0t b5 b6 b7), (LO.one (Ex.exit 0) (St.mk [(0, (AV.v (TV.one (At.ptr 2 0 3)))), (2, (AV.v (TV.one (At.ptr 3 0 3)))), (3, (AV.v (TV.one (At.ptr 4 0 3)))), (4, (AV.v (TV.one (At.flt .f32 (z51 b0 q0g x n_ q0l q0m q0u q0v q0t b5 b6 b7))))), (5, (AV.v (TV.one (At.int .i64 (z4y b0 q0g x n_ q0l q0m q0u q0v q0t b5 b6 b7))))), (23, (AV.v (TV.one (At.bool (z54 b0 q0g x n_ q0l q0m q0u q0v q0t b5 b6 b7)))))] [(Blk.mk Bool.false (Body.il .u8 b0)), (Blk.mk Bool.true (Body.cells [At.nilsl, At.nilsl, At.nilsl])), (Blk.mk Bool.true (Body.cells [(At.vw 0 0 q0g 1), (At.int .i64 (z4w b0 q0g x n_ q0l q0m q0u q0v q0t b5 b6 b7)), (At.int .u64 (z50 b0 q0g x n_ q0l q0m q0u q0v q0t b5 b6 b7))])), (Blk.mk Bool.true (Body.cells [At.nilsl, At.nilsl, At.nilsl])), (Blk.mk Bool.true (Body.cells [(At.sl 5 0 (z41 b0 q0g x n_ q0l q0m q0u q0v q0t b5 b6 b7) 1), (At.sl 6 0 (z3z b0 q0g x n_ q0l q0m q0u q0v q0t b5 b6 b7) 1), (At.sl 7 0 (z3y b0 q0g x n_ q0l q0m q0u q0v q0t b5 b6 b7) 1)])), (Blk.mk Bool.true (Body.fl .f32 (z3x b0 q0g x n_ q0l q0m q0u q0v q0t b5 b6 b7))), (Blk.mk Bool.true (Body.fl .f32 (z40 b0 q0g x n_ q0l q0m q0u q0v q0t b5 b6 b7))), (Blk.mk Bool.true (Body.fl .f32 (z3r b0 q0g x n_ q0l q0m q0u q0v q0t b5 b6 b7)))])))
noncomputable def z94 : Nat → St → Option (Bool × LO) := lpT 3 (pSt [(pTm 0 (pV (pOne (pPtr 2 (liN 0) 3)))), (pTm 2 (pV (pOne (pPtr 3 (liN 0) 3)))), (pTm 3 (pV (pOne (pPtr 4 (liN 0) 3)))), (pTm 4 (pV (pOne (pFlt .f32)))), (pTm 5 (pV (pOne (pInt .i64))))] [(pBlk Bool.false (pIl .u8)), (pBlk Bool.true (pCells [pNil, pNil, pNil])), (pBlk Bool.true (pCells [(pVw 0 (liN 0) 1), (pInt .i64), (pInt .u64)])), (pBlk Bool.true (pCells [pNil, pNil, pNil])), (pBlk Bool.true (pCells [(pSl 5 (liN 0) 1), (pSl 6 (liN 0) 1), (pSl 7 (liN 0) 1)])), (pBlk Bool.true (pFl .f32)), (pBlk Bool.true (pFl .f32)), (pBlk Bool.true (pFl .f32))]) (fun hs => z7t (hvN (hGet hs 0)) (hvI (hGet hs 1)) (hvLi (hGet hs 2)) (hvN (hGet hs 3)) (hvI (hGet hs 4)) (hvI (hGet hs 5)) (hvN (hGet hs 6)) (hvN (hGet hs 7)) (hvN (hGet hs 8)) (hvLn (hGet hs 9)) (hvLn (hGet hs 10)) (hvLn (hGet hs 11)))
def z4d (b0 : List Int) (q0g : Nat) : Option ((Nat × Int × Bool × Int × Int × Nat × Nat × Nat × (List Nat) × (List Nat) × (List Nat))) → Option (Ex × St)
  | none => none
  | some r => some ((Ex.exit 0), (St.mk [(0, (AV.v (TV.one (At.ptr 2 0 3)))), (2, (AV.v (TV.one (At.ptr 3 0 3)))), (3, (AV.v (TV.one (At.ptr 4 0 3)))), (4, (AV.v (TV.one (At.flt .f32 r.1)))), (5, (AV.v (TV.one (At.int .i64 r.2.1)))), (23, (AV.v (TV.one (At.bool r.2.2.1))))] [(Blk.mk Bool.false (Body.il .u8 b0)), (Blk.mk Bool.true (Body.cells [At.nilsl, At.nilsl, At.nilsl])), (Blk.mk Bool.true (Body.cells [(At.vw 0 0 q0g 1), (At.int .i64 r.2.2.2.1), (At.int .u64 r.2.2.2.2.1)])), (Blk.mk Bool.true (Body.cells [At.nilsl, At.nilsl, At.nilsl])), (Blk.mk Bool.true (Body.cells [(At.sl 5 0 r.2.2.2.2.2.1 1), (At.sl 6 0 r.2.2.2.2.2.2.1 1), (At.sl 7 0 r.2.2.2.2.2.2.2.1 1)])), (Blk.mk Bool.true (Body.fl .f32 r.2.2.2.2.2.2.2.2.1)), (Blk.mk Bool.true (Body.fl .f32 r.2.2.2.2.2.2.2.2.2.1)), (Blk.mk Bool.true (Body.fl .f32 r.2.2.2.2.2.2.2.2.2.2))]))
def zde (b0 : List Int) (q0g : Nat) (x : Option ((Nat × Int × Bool × Int × Int × Nat × Nat × Nat × (List Nat) × (List Nat) × (List Nat)))) : LO := (LO.one (Ex.exit 0) (St.mk [(0, (AV.v (TV.one (At.ptr 2 0 3)))), (2, (AV.v (TV.one (At.ptr 3 0 3)))), (3, (AV.v (TV.one (At.ptr 4 0 3)))), (4, (AV.v (TV.one (At.flt .f32 (x.getD default).1)))), (5, (AV.v (TV.one (At.int .i64 (x.getD default).2.1)))), (23, (AV.v (TV.one (At.bool (x.getD default).2.2.1))))] [(Blk.mk Bool.false (Body.il .u8 b0)), (Blk.mk Bool.true (Body.cells [At.nilsl, At.nilsl, At.nilsl])), (Blk.mk Bool.true (Body.cells [(At.vw 0 0 q0g 1), (At.int .i64 (x.getD default).2.2.2.1), (At.int .u64 (x.getD default).2.2.2.2.1)])), (Blk.mk Bool.true (Body.cells [At.nilsl, At.nilsl, At.nilsl])), (Blk.mk Bool.true (Body.cells [(At.sl 5 0 (x.getD default).2.2.2.2.2.1 1), (At.sl 6 0 (x.getD default).2.2.2.2.2.2.1 1), (At.sl 7 0 (x.getD default).2.2.2.2.2.2.2.1 1)])), (Blk.mk Bool.true (Body.fl .f32 (x.getD default).2.2.2.2.2.2.2.2.1)), (Blk.mk Bool.true (Body.fl .f32 (x.getD default).2.2.2.2.2.2.2.2.2.1)), (Blk.mk Bool.true (Body.fl .f32 (x.getD default).2.2.2.2.2.2.2.2.2.2))]))
theorem zdp (b0 : List Int) (q0g : Nat) : ∀ x : Option ((Nat × Int × Bool × Int × Int × Nat × Nat × Nat × (List Nat) × (List Nat) × (List Nat))), x.isSome = true → (z4d b0 q0g) x = some (pick (zde b0 q0g x))
  | none, h => by cases h
  | some r, _ => rfl
theorem zdw (x : Nat) (n_ : Int) (b0 : List Int) (q0g : Nat) (q0l : Int) (q0m : Int) (q0u : Nat) (q0v : Nat) (q0t : Nat) (b5 : List Nat) (b6 : List Nat) (b7 : List Nat) (K : Ex → St → Option (Ex × St)) : evC (R := Ex × St) Γ15 (evFn Γ15 8 8) 29 3 fi29.nt fi29.live fi29.nl 8 (findL 6 (loopsIn fi29.code)) (St.mk [(0, (AV.v (TV.one (At.ptr 2 0 3)))), (2, (AV.v (TV.one (At.ptr 3 0 3)))), (3, (AV.v (TV.one (At.ptr 4 0 3)))), (4, (AV.v (TV.one (At.flt .f32 x)))), (5, (AV.v (TV.one (At.int .i64 n_))))] [(Blk.mk Bool.false (Body.il .u8 b0)), (Blk.mk Bool.true (Body.cells [At.nilsl, At.nilsl, At.nilsl])), (Blk.mk Bool.true (Body.cells [(At.vw 0 0 q0g 1), (At.int .i64 q0l), (At.int .u64 q0m)])), (Blk.mk Bool.true (Body.cells [At.nilsl, At.nilsl, At.nilsl])), (Blk.mk Bool.true (Body.cells [(At.sl 5 0 q0u 1), (At.sl 6 0 q0v 1), (At.sl 7 0 q0t 1)])), (Blk.mk Bool.true (Body.fl .f32 b5)), (Blk.mk Bool.true (Body.fl .f32 b6)), (Blk.mk Bool.true (Body.fl .f32 b7))]) K = z17 b0 q0g x n_ q0l q0m q0u q0v q0t b5 b6 b7 (fun x' n_' q0l' q0m' q0u' q0v' q0t' b5' b6' b7' => K .normal (St.mk [(0, (AV.v (TV.one (At.ptr 2 0 3)))), (2, (AV.v (TV.one (At.ptr 3 0 3)))), (3, (AV.v (TV.one (At.ptr 4 0 3)))), (4, (AV.v (TV.one (At.flt .f32 x')))), (5, (AV.v (TV.one (At.int .i64 n_'))))] [(Blk.mk Bool.false (Body.il .u8 b0)), (Blk.mk Bool.true (Body.cells [At.nilsl, At.nilsl, At.nilsl])), (Blk.mk Bool.true (Body.cells [(At.vw 0 0 q0g 1), (At.int .i64 q0l'), (At.int .u64 q0m')])), (Blk.mk Bool.true (Body.cells [At.nilsl, At.nilsl, At.nilsl])), (Blk.mk Bool.true (Body.cells [(At.sl 5 0 q0u' 1), (At.sl 6 0 q0v' 1), (At.sl 7 0 q0t' 1)])), (Blk.mk Bool.true (Body.fl .f32 b5')), (Blk.mk Bool.true (Body.fl .f32 b6')), (Blk.mk Bool.true (Body.fl .f32 b7'))])) (fun c0_ c1_ c2_ c3_ c4_ c5_ c6_ c7_ c8_ c9_ c10_ => K (Ex.exit 0) (St.mk [(0, (AV.v (TV.one (At.ptr 2 0 3)))), (2, (AV.v (TV.one (At.ptr 3 0 3)))), (3, (AV.v (TV.one (At.ptr 4 0 3)))), (4, (AV.v (TV.one (At.flt .f32 c0_)))), (5, (AV.v (TV.one (At.int .i64 c1_)))), (23, (AV.v (TV.one (At.bool c2_))))] [(Blk.mk Bool.false (Body.il .u8 b0)), (Blk.mk Bool.true (Body.cells [At.nilsl, At.nilsl, At.nilsl])), (Blk.mk Bool.true (Body.cells [(At.vw 0 0 q0g 1), (At.int .i64 c3_), (At.int .u64 c4_)])), (Blk.mk Bool.true (Body.cells [At.nilsl, At.nilsl, At.nilsl])), (Blk.mk Bool.true (Body.cells [(At.sl 5 0 c5_ 1), (At.sl 6 0 c6_ 1), (At.sl 7 0 c7_ 1)])), (Blk.mk Bool.true (Body.fl .f32 c8_)), (Blk.mk Bool.true (Body.fl .f32 c9_)), (Blk.mk Bool.true (Body.fl .f32 c10_))])) := by kernel_rfl
theorem zdo (b0 : List Int) (q0g : Nat) : ∀ (n : Nat) (x : Nat) (n_ : Int) (q0l : Int) (q0m : Int) (q0u : Nat) (q0v : Nat) (q0t : Nat) (b5 : List Nat) (b6 : List Nat) (b7 : List Nat), iter 29 6 3 (evC (R := Ex × St) Γ15 (evFn Γ15 8 8) 29 3 fi29.nt fi29.live fi29.nl 8 (findL 6 (loopsIn fi29.code))) n (St.mk [(0, (AV.v (TV.one (At.ptr 2 0 3)))), (2, (AV.v (TV.one (At.ptr 3 0 3)))), (3, (AV.v (TV.one (At.ptr 4 0 3)))), (4, (AV.v (TV.one (At.flt .f32 x)))), (5, (AV.v (TV.one (At.int .i64 n_))))] [(Blk.mk Bool.false (Body.il .u8 b0)), (Blk.mk Bool.true (Body.cells [At.nilsl, At.nilsl, At.nilsl])), (Blk.mk Bool.true (Body.cells [(At.vw 0 0 q0g 1), (At.int .i64 q0l), (At.int .u64 q0m)])), (Blk.mk Bool.true (Body.cells [At.nilsl, At.nilsl, At.nilsl])), (Blk.mk Bool.true (Body.cells [(At.sl 5 0 q0u 1), (At.sl 6 0 q0v 1), (At.sl 7 0 q0t 1)])), (Blk.mk Bool.true (Body.fl .f32 b5)), (Blk.mk Bool.true (Body.fl .f32 b6)), (Blk.mk Bool.true (Body.fl .f32 b7))]) (fun e st => some (e, st)) = (z4d b0 q0g) (z0h b0 q0g n x n_ q0l q0m q0u q0v q0t b5 b6 b7) := by
  intro n
  induction n with
  | zero => intros; rfl
  | succ n ih =>
    intro x n_ q0l q0m q0u q0v q0t b5 b6 b7
    refine Eq.trans (iter_succ ..) (Eq.trans (zdw x n_ b0 q0g q0l q0m q0u q0v q0t b5 b6 b7 (nextK 29 6 3 (evC (R := Ex × St) Γ15 (evFn Γ15 8 8) 29 3 fi29.nt fi29.live fi29.nl 8 (findL 6 (loopsIn fi29.code))) n (fun e st => some (e, st)))) (Eq.trans ?_ (zcl b0 q0g x n_ q0l q0m q0u q0v q0t b5 b6 b7 (z4d b0 q0g) rfl (fun x' n_' q0l' q0m' q0u' q0v' q0t' b5' b6' b7' => z0h b0 q0g n x' n_' q0l' q0m' q0u' q0v' q0t' b5' b6' b7') (fun c0_ c1_ c2_ c3_ c4_ c5_ c6_ c7_ c8_ c9_ c10_ => some (c0_, c1_, c2_, c3_, c4_, c5_, c6_, c7_, c8_, c9_, c10_)))))
    exact congrArg (fun kn_ => z17 b0 q0g x n_ q0l q0m q0u q0v q0t b5 b6 b7 kn_ (fun c0_ c1_ c2_ c3_ c4_ c5_ c6_ c7_ c8_ c9_ c10_ => (z4d b0 q0g) (some (c0_, c1_, c2_, c3_, c4_, c5_, c6_, c7_, c8_, c9_, c10_)))) (funext fun x' => funext fun n_' => funext fun q0l' => funext fun q0m' => funext fun q0u' => funext fun q0v' => funext fun q0t' => funext fun b5' => funext fun b6' => funext fun b7' => ih x' n_' q0l' q0m' q0u' q0v' q0t' b5' b6' b7')
theorem zct : LoopOne Try.prog fnTab 29 6 z94 := lp_of (Γ := Γ15) tyTab_ok (FnL.ok fnTab_ok _ _) (LpL.ok lt15_ok) (SumL.ok tb15_ok _) mixed (fi := fi29) (by kernel_rfl) (by kernel_rfl) (by
  intro lo st out hp
  obtain ⟨hs, e1, e2, e3⟩ := lpT_inv hp
  clear hp
  obtain rfl : st = (St.mk [(0, (AV.v (TV.one (At.ptr 2 0 3)))), (2, (AV.v (TV.one (At.ptr 3 0 3)))), (3, (AV.v (TV.one (At.ptr 4 0 3)))), (4, (AV.v (TV.one (At.flt .f32 (hvN (hGet hs 0)))))), (5, (AV.v (TV.one (At.int .i64 (hvI (hGet hs 1))))))] [(Blk.mk Bool.false (Body.il .u8 (hvLi (hGet hs 2)))), (Blk.mk Bool.true (Body.cells [At.nilsl, At.nilsl, At.nilsl])), (Blk.mk Bool.true (Body.cells [(At.vw 0 0 (hvN (hGet hs 3)) 1), (At.int .i64 (hvI (hGet hs 4))), (At.int .u64 (hvI (hGet hs 5)))])), (Blk.mk Bool.true (Body.cells [At.nilsl, At.nilsl, At.nilsl])), (Blk.mk Bool.true (Body.cells [(At.sl 5 0 (hvN (hGet hs 6)) 1), (At.sl 6 0 (hvN (hGet hs 7)) 1), (At.sl 7 0 (hvN (hGet hs 8)) 1)])), (Blk.mk Bool.true (Body.fl .f32 (hvLn (hGet hs 9)))), (Blk.mk Bool.true (Body.fl .f32 (hvLn (hGet hs 10)))), (Blk.mk Bool.true (Body.fl .f32 (hvLn (hGet hs 11))))]) := e2.trans (by kernel_rfl)
  clear e2
  subst e1
  unfold z7t at e3
  injection e3 with h1 h2
  subst h2
  exact ⟨8, 8, big, Eq.trans (zdo (hvLi (hGet hs 2)) (hvN (hGet hs 3)) big (hvN (hGet hs 0)) (hvI (hGet hs 1)) (hvI (hGet hs 4)) (hvI (hGet hs 5)) (hvN (hGet hs 6)) (hvN (hGet hs 7)) (hvN (hGet hs 8)) (hvLn (hGet hs 9)) (hvLn (hGet hs 10)) (hvLn (hGet hs 11))) (zdp (hvLi (hGet hs 2)) (hvN (hGet hs 3)) (z0h (hvLi (hGet hs 2)) (hvN (hGet hs 3)) big (hvN (hGet hs 0)) (hvI (hGet hs 1)) (hvI (hGet hs 4)) (hvI (hGet hs 5)) (hvN (hGet hs 6)) (hvN (hGet hs 7)) (hvN (hGet hs 8)) (hvLn (hGet hs 9)) (hvLn (hGet hs 10)) (hvLn (hGet hs 11))) h1)⟩)
noncomputable def tb16 : List (Nat × (List PT → Option (Bool × AV × List Blk))) := tb15
noncomputable def lt16 : List ((Nat × Nat) × (Nat → St → Option (Bool × LO))) := ((29, 6), z94) :: lt15
noncomputable def Γ16 : Ctx := ⟨tyTab, fnTab, tblSum tb16, tblLp lt16⟩
theorem tb16_ok : SumL Try.prog tb16 := tb15_ok
theorem lt16_ok : LpL Try.prog fnTab lt16 := LpL.cons zct (lt15_ok)
noncomputable def zd9 : List PT → Option (Bool × AV × List Blk)
  | [.one (.row 1 q0e (.il .u8 q0j))] => some ((zb3 q0e q0j), ((AV.v (TV.agg [(At.sl 0 0 (z00 q0e q0j) 1), (At.sl 1 0 (z01 q0e q0j) 1), (At.sl 2 0 (z02 q0e q0j) 1)])), [(Blk.mk Bool.true (Body.fl .f32 (z04 q0e q0j))), (Blk.mk Bool.true (Body.fl .f32 (z03 q0e q0j))), (Blk.mk Bool.true (Body.fl .f32 (z05 q0e q0j)))]))
  | _ => none
def zfo (q0e : Nat) (q0j : List Int) : Option (Nat × Nat × Nat × (List Nat) × (List Nat) × (List Nat)) → Option (AV × List Blk)
  | some r => some ((AV.v (TV.agg [(At.sl 0 0 r.1 1), (At.sl 1 0 r.2.1 1), (At.sl 2 0 r.2.2.1 1)])), [(Blk.mk Bool.true (Body.fl .f32 r.2.2.2.1)), (Blk.mk Bool.true (Body.fl .f32 r.2.2.2.2.1)), (Blk.mk Bool.true (Body.fl .f32 r.2.2.2.2.2))])
  | none => none
theorem zlk (q0e : Nat) (q0j : List Int) : evFn Γ16 8 8 6 (impTs 0 [.one (.row 1 q0e (.il .u8 q0j))]).1 (impTs 0 [.one (.row 1 q0e (.il .u8 q0j))]).2 (expo (impTs 0 [.one (.row 1 q0e (.il .u8 q0j))]).2.length) = z57 q0e q0j (fun c0_ c1_ c2_ c3_ c4_ c5_ => some ((AV.v (TV.agg [(At.sl 0 0 c0_ 1), (At.sl 1 0 c1_ 1), (At.sl 2 0 c2_ 1)])), [(Blk.mk Bool.true (Body.fl .f32 c3_)), (Blk.mk Bool.true (Body.fl .f32 c4_)), (Blk.mk Bool.true (Body.fl .f32 c5_))])) := by kernel_rfl
theorem ziz : SumOne Try.prog 6 zd9 := sum_of (Γ := Γ16) (fuel := 8) (d := 8) tyTab_ok (FnL.ok fnTab_ok _ _) (LpL.ok lt16_ok) (SumL.ok tb16_ok _) mixed (by
  intro pts v news hp hc
  clear hc
  unfold zd9 at hp
  split at hp
  · rename_i q0e q0j
    exact Eq.trans (Eq.trans (zlk q0e q0j) (zhy q0e q0j (zfo q0e q0j) rfl (fun c0_ c1_ c2_ c3_ c4_ c5_ => some (c0_, c1_, c2_, c3_, c4_, c5_)))) (fin_out (o := (zfo q0e q0j)) (x := z2s q0e q0j) (d := default) (V := fun r => ((AV.v (TV.agg [(At.sl 0 0 r.1 1), (At.sl 1 0 r.2.1 1), (At.sl 2 0 r.2.2.1 1)])), [(Blk.mk Bool.true (Body.fl .f32 r.2.2.2.1)), (Blk.mk Bool.true (Body.fl .f32 r.2.2.2.2.1)), (Blk.mk Bool.true (Body.fl .f32 r.2.2.2.2.2))])) (fun r => rfl) hp)
  · cases hp)
noncomputable def tb17 : List (Nat × (List PT → Option (Bool × AV × List Blk))) := (6, zd9) :: tb16
noncomputable def lt17 : List ((Nat × Nat) × (Nat → St → Option (Bool × LO))) := lt16
noncomputable def Γ17 : Ctx := ⟨tyTab, fnTab, tblSum tb17, tblLp lt17⟩
theorem tb17_ok : SumL Try.prog tb17 := SumL.cons ziz (tb16_ok)
theorem lt17_ok : LpL Try.prog fnTab lt17 := lt16_ok
noncomputable def tb18 : List (Nat × (List PT → Option (Bool × AV × List Blk))) := tb17
noncomputable def lt18 : List ((Nat × Nat) × (Nat → St → Option (Bool × LO))) := lt17
noncomputable def Γ18 : Ctx := ⟨tyTab, fnTab, tblSum tb18, tblLp lt18⟩
theorem tb18_ok : SumL Try.prog tb18 := tb17_ok
theorem lt18_ok : LpL Try.prog fnTab lt18 := lt17_ok
noncomputable def zdl (t1n : Nat) (t6 : Int) (t7 : Int) (t16 : Int) (b0 : List Int) (b1 : List Int) (q0g : Nat) (q0k : Nat) (q0r : Nat) (b3 : List Nat) (b4 : List Nat) (b5 : List Nat) : Bool × LO := ((laws_FnBests_l12_p t6 t7 q0k b4 t16), (LO.two (laws_FnBests_l12_w0 t6 t7 q0k b4 t16) (LO.one Ex.ret (St.mk [(4, (AV.v (TV.one (At.bool Bool.false))))] [(Blk.mk Bool.false (Body.il .u8 b0)), (Blk.mk Bool.false (Body.il .u8 b1))])) (LO.one (Ex.exit 0) (St.mk [(1, (AV.v (TV.one (At.vw 1 0 t1n 1)))), (5, (AV.v (TV.one (At.ptr 2 0 3)))), (6, (AV.v (TV.one (At.int .i64 t6)))), (7, (AV.v (TV.one (At.int .i64 t7)))), (16, (AV.v (TV.one (At.int .i64 (laws_FnBests_l12_a1_0 t6 t7 q0k b4 t16))))), (114, (AV.v (TV.one (At.bool (laws_FnBests_l12_a1_1 t6 t7 q0k b4 t16)))))] [(Blk.mk Bool.false (Body.il .u8 b0)), (Blk.mk Bool.false (Body.il .u8 b1)), (Blk.mk Bool.true (Body.cells [(At.sl 3 0 q0g 1), (At.sl 4 0 q0k 1), (At.sl 5 0 q0r 1)])), (Blk.mk Bool.true (Body.fl .f32 b3)), (Blk.mk Bool.true (Body.fl .f32 b4)), (Blk.mk Bool.true (Body.fl .f32 b5))]))))
noncomputable def zek : Nat → St → Option (Bool × LO) := lpT 2 (pSt [(pTm 1 (pV (pOne (pVw 1 (liN 0) 1)))), (pTm 5 (pV (pOne (pPtr 2 (liN 0) 3)))), (pTm 6 (pV (pOne (pInt .i64)))), (pTm 7 (pV (pOne (pInt .i64)))), (pTm 16 (pV (pOne (pInt .i64))))] [(pBlk Bool.false (pIl .u8)), (pBlk Bool.false (pIl .u8)), (pBlk Bool.true (pCells [(pSl 3 (liN 0) 1), (pSl 4 (liN 0) 1), (pSl 5 (liN 0) 1)])), (pBlk Bool.true (pFl .f32)), (pBlk Bool.true (pFl .f32)), (pBlk Bool.true (pFl .f32))]) (fun hs => zdl (hvN (hGet hs 0)) (hvI (hGet hs 1)) (hvI (hGet hs 2)) (hvI (hGet hs 3)) (hvLi (hGet hs 4)) (hvLi (hGet hs 5)) (hvN (hGet hs 6)) (hvN (hGet hs 7)) (hvN (hGet hs 8)) (hvLn (hGet hs 9)) (hvLn (hGet hs 10)) (hvLn (hGet hs 11)))
def z6n (t1n : Nat) (t6 : Int) (t7 : Int) (b0 : List Int) (b1 : List Int) (q0g : Nat) (q0k : Nat) (q0r : Nat) (b3 : List Nat) (b4 : List Nat) (b5 : List Nat) : Option ((Unit) ⊕ (Int × Bool)) → Option (Ex × St)
  | none => none
  | some (Sum.inl r) => some (Ex.ret, (St.mk [(4, (AV.v (TV.one (At.bool Bool.false))))] [(Blk.mk Bool.false (Body.il .u8 b0)), (Blk.mk Bool.false (Body.il .u8 b1))]))
  | some (Sum.inr r) => some ((Ex.exit 0), (St.mk [(1, (AV.v (TV.one (At.vw 1 0 t1n 1)))), (5, (AV.v (TV.one (At.ptr 2 0 3)))), (6, (AV.v (TV.one (At.int .i64 t6)))), (7, (AV.v (TV.one (At.int .i64 t7)))), (16, (AV.v (TV.one (At.int .i64 r.1)))), (114, (AV.v (TV.one (At.bool r.2))))] [(Blk.mk Bool.false (Body.il .u8 b0)), (Blk.mk Bool.false (Body.il .u8 b1)), (Blk.mk Bool.true (Body.cells [(At.sl 3 0 q0g 1), (At.sl 4 0 q0k 1), (At.sl 5 0 q0r 1)])), (Blk.mk Bool.true (Body.fl .f32 b3)), (Blk.mk Bool.true (Body.fl .f32 b4)), (Blk.mk Bool.true (Body.fl .f32 b5))]))
def zim (t1n : Nat) (t6 : Int) (t7 : Int) (b0 : List Int) (b1 : List Int) (q0g : Nat) (q0k : Nat) (q0r : Nat) (b3 : List Nat) (b4 : List Nat) (b5 : List Nat) (x : Option ((Unit) ⊕ (Int × Bool))) : LO := (LO.two (oL x) (LO.one Ex.ret (St.mk [(4, (AV.v (TV.one (At.bool Bool.false))))] [(Blk.mk Bool.false (Body.il .u8 b0)), (Blk.mk Bool.false (Body.il .u8 b1))])) (LO.one (Ex.exit 0) (St.mk [(1, (AV.v (TV.one (At.vw 1 0 t1n 1)))), (5, (AV.v (TV.one (At.ptr 2 0 3)))), (6, (AV.v (TV.one (At.int .i64 t6)))), (7, (AV.v (TV.one (At.int .i64 t7)))), (16, (AV.v (TV.one (At.int .i64 ((tR x).getD default).1)))), (114, (AV.v (TV.one (At.bool ((tR x).getD default).2))))] [(Blk.mk Bool.false (Body.il .u8 b0)), (Blk.mk Bool.false (Body.il .u8 b1)), (Blk.mk Bool.true (Body.cells [(At.sl 3 0 q0g 1), (At.sl 4 0 q0k 1), (At.sl 5 0 q0r 1)])), (Blk.mk Bool.true (Body.fl .f32 b3)), (Blk.mk Bool.true (Body.fl .f32 b4)), (Blk.mk Bool.true (Body.fl .f32 b5))])))
theorem zjd (t1n : Nat) (t6 : Int) (t7 : Int) (b0 : List Int) (b1 : List Int) (q0g : Nat) (q0k : Nat) (q0r : Nat) (b3 : List Nat) (b4 : List Nat) (b5 : List Nat) : ∀ x : Option ((Unit) ⊕ (Int × Bool)), x.isSome = true → (z6n t1n t6 t7 b0 b1 q0g q0k q0r b3 b4 b5) x = some (pick (zim t1n t6 t7 b0 b1 q0g q0k q0r b3 b4 b5 x))
  | none, h => by cases h
  | some (Sum.inl r), _ => rfl
  | some (Sum.inr r), _ => rfl
theorem zjb (t1n : Nat) (t6 : Int) (t7 : Int) (t16 : Int) (b0 : List Int) (b1 : List Int) (q0g : Nat) (q0k : Nat) (q0r : Nat) (b3 : List Nat) (b4 : List Nat) (b5 : List Nat) (K : Ex → St → Option (Ex × St)) : evC (R := Ex × St) Γ18 (evFn Γ18 8 8) 3 2 fi3.nt fi3.live fi3.nl 8 (findL 12 (loopsIn fi3.code)) (St.mk [(1, (AV.v (TV.one (At.vw 1 0 t1n 1)))), (5, (AV.v (TV.one (At.ptr 2 0 3)))), (6, (AV.v (TV.one (At.int .i64 t6)))), (7, (AV.v (TV.one (At.int .i64 t7)))), (16, (AV.v (TV.one (At.int .i64 t16))))] [(Blk.mk Bool.false (Body.il .u8 b0)), (Blk.mk Bool.false (Body.il .u8 b1)), (Blk.mk Bool.true (Body.cells [(At.sl 3 0 q0g 1), (At.sl 4 0 q0k 1), (At.sl 5 0 q0r 1)])), (Blk.mk Bool.true (Body.fl .f32 b3)), (Blk.mk Bool.true (Body.fl .f32 b4)), (Blk.mk Bool.true (Body.fl .f32 b5))]) K = z3i t6 t7 q0k b4 t16 (fun t16' => K .normal (St.mk [(1, (AV.v (TV.one (At.vw 1 0 t1n 1)))), (5, (AV.v (TV.one (At.ptr 2 0 3)))), (6, (AV.v (TV.one (At.int .i64 t6)))), (7, (AV.v (TV.one (At.int .i64 t7)))), (16, (AV.v (TV.one (At.int .i64 t16'))))] [(Blk.mk Bool.false (Body.il .u8 b0)), (Blk.mk Bool.false (Body.il .u8 b1)), (Blk.mk Bool.true (Body.cells [(At.sl 3 0 q0g 1), (At.sl 4 0 q0k 1), (At.sl 5 0 q0r 1)])), (Blk.mk Bool.true (Body.fl .f32 b3)), (Blk.mk Bool.true (Body.fl .f32 b4)), (Blk.mk Bool.true (Body.fl .f32 b5))])) (fun _ => K Ex.ret (St.mk [(4, (AV.v (TV.one (At.bool Bool.false))))] [(Blk.mk Bool.false (Body.il .u8 b0)), (Blk.mk Bool.false (Body.il .u8 b1))])) (fun c0_ c1_ => K (Ex.exit 0) (St.mk [(1, (AV.v (TV.one (At.vw 1 0 t1n 1)))), (5, (AV.v (TV.one (At.ptr 2 0 3)))), (6, (AV.v (TV.one (At.int .i64 t6)))), (7, (AV.v (TV.one (At.int .i64 t7)))), (16, (AV.v (TV.one (At.int .i64 c0_)))), (114, (AV.v (TV.one (At.bool c1_))))] [(Blk.mk Bool.false (Body.il .u8 b0)), (Blk.mk Bool.false (Body.il .u8 b1)), (Blk.mk Bool.true (Body.cells [(At.sl 3 0 q0g 1), (At.sl 4 0 q0k 1), (At.sl 5 0 q0r 1)])), (Blk.mk Bool.true (Body.fl .f32 b3)), (Blk.mk Bool.true (Body.fl .f32 b4)), (Blk.mk Bool.true (Body.fl .f32 b5))])) := by kernel_rfl
theorem zjg (t1n : Nat) (t6 : Int) (t7 : Int) (b0 : List Int) (b1 : List Int) (q0g : Nat) (q0k : Nat) (q0r : Nat) (b3 : List Nat) (b4 : List Nat) (b5 : List Nat) : ∀ (n : Nat) (t16 : Int), iter 3 12 2 (evC (R := Ex × St) Γ18 (evFn Γ18 8 8) 3 2 fi3.nt fi3.live fi3.nl 8 (findL 12 (loopsIn fi3.code))) n (St.mk [(1, (AV.v (TV.one (At.vw 1 0 t1n 1)))), (5, (AV.v (TV.one (At.ptr 2 0 3)))), (6, (AV.v (TV.one (At.int .i64 t6)))), (7, (AV.v (TV.one (At.int .i64 t7)))), (16, (AV.v (TV.one (At.int .i64 t16))))] [(Blk.mk Bool.false (Body.il .u8 b0)), (Blk.mk Bool.false (Body.il .u8 b1)), (Blk.mk Bool.true (Body.cells [(At.sl 3 0 q0g 1), (At.sl 4 0 q0k 1), (At.sl 5 0 q0r 1)])), (Blk.mk Bool.true (Body.fl .f32 b3)), (Blk.mk Bool.true (Body.fl .f32 b4)), (Blk.mk Bool.true (Body.fl .f32 b5))]) (fun e st => some (e, st)) = (z6n t1n t6 t7 b0 b1 q0g q0k q0r b3 b4 b5) (z1f t6 t7 q0k b4 n t16) := by
  intro n
  induction n with
  | zero => intros; rfl
  | succ n ih =>
    intro t16
    refine Eq.trans (iter_succ ..) (Eq.trans (zjb t1n t6 t7 t16 b0 b1 q0g q0k q0r b3 b4 b5 (nextK 3 12 2 (evC (R := Ex × St) Γ18 (evFn Γ18 8 8) 3 2 fi3.nt fi3.live fi3.nl 8 (findL 12 (loopsIn fi3.code))) n (fun e st => some (e, st)))) (Eq.trans ?_ (zgi t6 t7 q0k b4 t16 (z6n t1n t6 t7 b0 b1 q0g q0k q0r b3 b4 b5) rfl (fun t16' => z1f t6 t7 q0k b4 n t16') (fun _ => some (Sum.inl ())) (fun c0_ c1_ => some (Sum.inr (c0_, c1_))))))
    exact congrArg (fun kn_ => z3i t6 t7 q0k b4 t16 kn_ (fun _ => (z6n t1n t6 t7 b0 b1 q0g q0k q0r b3 b4 b5) (some (Sum.inl ()))) (fun c0_ c1_ => (z6n t1n t6 t7 b0 b1 q0g q0k q0r b3 b4 b5) (some (Sum.inr (c0_, c1_))))) (funext fun t16' => ih t16')
theorem zgu : LoopOne Try.prog fnTab 3 12 zek := lp_of (Γ := Γ18) tyTab_ok (FnL.ok fnTab_ok _ _) (LpL.ok lt18_ok) (SumL.ok tb18_ok _) mixed (fi := fi3) (by kernel_rfl) (by kernel_rfl) (by
  intro lo st out hp
  obtain ⟨hs, e1, e2, e3⟩ := lpT_inv hp
  clear hp
  obtain rfl : st = (St.mk [(1, (AV.v (TV.one (At.vw 1 0 (hvN (hGet hs 0)) 1)))), (5, (AV.v (TV.one (At.ptr 2 0 3)))), (6, (AV.v (TV.one (At.int .i64 (hvI (hGet hs 1)))))), (7, (AV.v (TV.one (At.int .i64 (hvI (hGet hs 2)))))), (16, (AV.v (TV.one (At.int .i64 (hvI (hGet hs 3))))))] [(Blk.mk Bool.false (Body.il .u8 (hvLi (hGet hs 4)))), (Blk.mk Bool.false (Body.il .u8 (hvLi (hGet hs 5)))), (Blk.mk Bool.true (Body.cells [(At.sl 3 0 (hvN (hGet hs 6)) 1), (At.sl 4 0 (hvN (hGet hs 7)) 1), (At.sl 5 0 (hvN (hGet hs 8)) 1)])), (Blk.mk Bool.true (Body.fl .f32 (hvLn (hGet hs 9)))), (Blk.mk Bool.true (Body.fl .f32 (hvLn (hGet hs 10)))), (Blk.mk Bool.true (Body.fl .f32 (hvLn (hGet hs 11))))]) := e2.trans (by kernel_rfl)
  clear e2
  subst e1
  unfold zdl at e3
  injection e3 with h1 h2
  subst h2
  exact ⟨8, 8, big, Eq.trans (zjg (hvN (hGet hs 0)) (hvI (hGet hs 1)) (hvI (hGet hs 2)) (hvLi (hGet hs 4)) (hvLi (hGet hs 5)) (hvN (hGet hs 6)) (hvN (hGet hs 7)) (hvN (hGet hs 8)) (hvLn (hGet hs 9)) (hvLn (hGet hs 10)) (hvLn (hGet hs 11)) big (hvI (hGet hs 3))) (zjd (hvN (hGet hs 0)) (hvI (hGet hs 1)) (hvI (hGet hs 2)) (hvLi (hGet hs 4)) (hvLi (hGet hs 5)) (hvN (hGet hs 6)) (hvN (hGet hs 7)) (hvN (hGet hs 8)) (hvLn (hGet hs 9)) (hvLn (hGet hs 10)) (hvLn (hGet hs 11)) (z1f (hvI (hGet hs 1)) (hvI (hGet hs 2)) (hvN (hGet hs 7)) (hvLn (hGet hs 10)) big (hvI (hGet hs 3))) h1)⟩)
noncomputable def tb19 : List (Nat × (List PT → Option (Bool × AV × List Blk))) := tb18
noncomputable def lt19 : List ((Nat × Nat) × (Nat → St → Option (Bool × LO))) := ((3, 12), zek) :: lt18
noncomputable def Γ19 : Ctx := ⟨tyTab, fnTab, tblSum tb19, tblLp lt19⟩
theorem tb19_ok : SumL Try.prog tb19 := tb18_ok
theorem lt19_ok : LpL Try.prog fnTab lt19 := LpL.cons zgu (lt18_ok)
noncomputable def tb20 : List (Nat × (List PT → Option (Bool × AV × List Blk))) := tb19
noncomputable def lt20 : List ((Nat × Nat) × (Nat → St → Option (Bool × LO))) := lt19
noncomputable def Γ20 : Ctx := ⟨tyTab, fnTab, tblSum tb20, tblLp lt20⟩
theorem tb20_ok : SumL Try.prog tb20 := tb19_ok
theorem lt20_ok : LpL Try.prog fnTab lt20 := lt19_ok
noncomputable def ze1 (t1n : Nat) (t6 : Int) (t18 : Nat) (t20 : Int) (b0 : List Int) (b1 : List Int) (q0g : Nat) (q0k : Nat) (q0r : Nat) (b3 : List Nat) (b4 : List Nat) (b5 : List Nat) : Bool × LO := ((laws_FnBests_l21_p t6 t18 q0k q0r b4 b5 t20), (LO.two (laws_FnBests_l21_w0 t6 t18 q0k q0r b4 b5 t20) (LO.one Ex.ret (St.mk [(4, (AV.v (TV.one (At.bool Bool.false))))] [(Blk.mk Bool.false (Body.il .u8 b0)), (Blk.mk Bool.false (Body.il .u8 b1))])) (LO.one (Ex.exit 2) (St.mk [(1, (AV.v (TV.one (At.vw 1 0 t1n 1)))), (5, (AV.v (TV.one (At.ptr 2 0 3)))), (6, (AV.v (TV.one (At.int .i64 t6)))), (18, (AV.v (TV.one (At.flt .f32 t18)))), (20, (AV.v (TV.one (At.int .i64 (laws_FnBests_l21_a1_0 t6 t18 q0k q0r b4 b5 t20))))), (159, (AV.v (TV.one (At.bool (laws_FnBests_l21_a1_1 t6 t18 q0k q0r b4 b5 t20)))))] [(Blk.mk Bool.false (Body.il .u8 b0)), (Blk.mk Bool.false (Body.il .u8 b1)), (Blk.mk Bool.true (Body.cells [(At.sl 3 0 q0g 1), (At.sl 4 0 q0k 1), (At.sl 5 0 q0r 1)])), (Blk.mk Bool.true (Body.fl .f32 b3)), (Blk.mk Bool.true (Body.fl .f32 b4)), (Blk.mk Bool.true (Body.fl .f32 b5))]))))
noncomputable def zej : Nat → St → Option (Bool × LO) := lpT 2 (pSt [(pTm 1 (pV (pOne (pVw 1 (liN 0) 1)))), (pTm 5 (pV (pOne (pPtr 2 (liN 0) 3)))), (pTm 6 (pV (pOne (pInt .i64)))), (pTm 18 (pV (pOne (pFlt .f32)))), (pTm 20 (pV (pOne (pInt .i64))))] [(pBlk Bool.false (pIl .u8)), (pBlk Bool.false (pIl .u8)), (pBlk Bool.true (pCells [(pSl 3 (liN 0) 1), (pSl 4 (liN 0) 1), (pSl 5 (liN 0) 1)])), (pBlk Bool.true (pFl .f32)), (pBlk Bool.true (pFl .f32)), (pBlk Bool.true (pFl .f32))]) (fun hs => ze1 (hvN (hGet hs 0)) (hvI (hGet hs 1)) (hvN (hGet hs 2)) (hvI (hGet hs 3)) (hvLi (hGet hs 4)) (hvLi (hGet hs 5)) (hvN (hGet hs 6)) (hvN (hGet hs 7)) (hvN (hGet hs 8)) (hvLn (hGet hs 9)) (hvLn (hGet hs 10)) (hvLn (hGet hs 11)))
def z6o (t1n : Nat) (t6 : Int) (t18 : Nat) (b0 : List Int) (b1 : List Int) (q0g : Nat) (q0k : Nat) (q0r : Nat) (b3 : List Nat) (b4 : List Nat) (b5 : List Nat) : Option ((Unit) ⊕ (Int × Bool)) → Option (Ex × St)
  | none => none
  | some (Sum.inl r) => some (Ex.ret, (St.mk [(4, (AV.v (TV.one (At.bool Bool.false))))] [(Blk.mk Bool.false (Body.il .u8 b0)), (Blk.mk Bool.false (Body.il .u8 b1))]))
  | some (Sum.inr r) => some ((Ex.exit 2), (St.mk [(1, (AV.v (TV.one (At.vw 1 0 t1n 1)))), (5, (AV.v (TV.one (At.ptr 2 0 3)))), (6, (AV.v (TV.one (At.int .i64 t6)))), (18, (AV.v (TV.one (At.flt .f32 t18)))), (20, (AV.v (TV.one (At.int .i64 r.1)))), (159, (AV.v (TV.one (At.bool r.2))))] [(Blk.mk Bool.false (Body.il .u8 b0)), (Blk.mk Bool.false (Body.il .u8 b1)), (Blk.mk Bool.true (Body.cells [(At.sl 3 0 q0g 1), (At.sl 4 0 q0k 1), (At.sl 5 0 q0r 1)])), (Blk.mk Bool.true (Body.fl .f32 b3)), (Blk.mk Bool.true (Body.fl .f32 b4)), (Blk.mk Bool.true (Body.fl .f32 b5))]))
def zj1 (t1n : Nat) (t6 : Int) (t18 : Nat) (b0 : List Int) (b1 : List Int) (q0g : Nat) (q0k : Nat) (q0r : Nat) (b3 : List Nat) (b4 : List Nat) (b5 : List Nat) (x : Option ((Unit) ⊕ (Int × Bool))) : LO := (LO.two (oL x) (LO.one Ex.ret (St.mk [(4, (AV.v (TV.one (At.bool Bool.false))))] [(Blk.mk Bool.false (Body.il .u8 b0)), (Blk.mk Bool.false (Body.il .u8 b1))])) (LO.one (Ex.exit 2) (St.mk [(1, (AV.v (TV.one (At.vw 1 0 t1n 1)))), (5, (AV.v (TV.one (At.ptr 2 0 3)))), (6, (AV.v (TV.one (At.int .i64 t6)))), (18, (AV.v (TV.one (At.flt .f32 t18)))), (20, (AV.v (TV.one (At.int .i64 ((tR x).getD default).1)))), (159, (AV.v (TV.one (At.bool ((tR x).getD default).2))))] [(Blk.mk Bool.false (Body.il .u8 b0)), (Blk.mk Bool.false (Body.il .u8 b1)), (Blk.mk Bool.true (Body.cells [(At.sl 3 0 q0g 1), (At.sl 4 0 q0k 1), (At.sl 5 0 q0r 1)])), (Blk.mk Bool.true (Body.fl .f32 b3)), (Blk.mk Bool.true (Body.fl .f32 b4)), (Blk.mk Bool.true (Body.fl .f32 b5))])))
theorem zkd (t1n : Nat) (t6 : Int) (t18 : Nat) (b0 : List Int) (b1 : List Int) (q0g : Nat) (q0k : Nat) (q0r : Nat) (b3 : List Nat) (b4 : List Nat) (b5 : List Nat) : ∀ x : Option ((Unit) ⊕ (Int × Bool)), x.isSome = true → (z6o t1n t6 t18 b0 b1 q0g q0k q0r b3 b4 b5) x = some (pick (zj1 t1n t6 t18 b0 b1 q0g q0k q0r b3 b4 b5 x))
  | none, h => by cases h
  | some (Sum.inl r), _ => rfl
  | some (Sum.inr r), _ => rfl
theorem zj4 (t1n : Nat) (t6 : Int) (t18 : Nat) (t20 : Int) (b0 : List Int) (b1 : List Int) (q0g : Nat) (q0k : Nat) (q0r : Nat) (b3 : List Nat) (b4 : List Nat) (b5 : List Nat) (K : Ex → St → Option (Ex × St)) : evC (R := Ex × St) Γ20 (evFn Γ20 8 8) 3 2 fi3.nt fi3.live fi3.nl 8 (findL 21 (loopsIn fi3.code)) (St.mk [(1, (AV.v (TV.one (At.vw 1 0 t1n 1)))), (5, (AV.v (TV.one (At.ptr 2 0 3)))), (6, (AV.v (TV.one (At.int .i64 t6)))), (18, (AV.v (TV.one (At.flt .f32 t18)))), (20, (AV.v (TV.one (At.int .i64 t20))))] [(Blk.mk Bool.false (Body.il .u8 b0)), (Blk.mk Bool.false (Body.il .u8 b1)), (Blk.mk Bool.true (Body.cells [(At.sl 3 0 q0g 1), (At.sl 4 0 q0k 1), (At.sl 5 0 q0r 1)])), (Blk.mk Bool.true (Body.fl .f32 b3)), (Blk.mk Bool.true (Body.fl .f32 b4)), (Blk.mk Bool.true (Body.fl .f32 b5))]) K = z3h t6 t18 q0k q0r b4 b5 t20 (fun t20' => K .normal (St.mk [(1, (AV.v (TV.one (At.vw 1 0 t1n 1)))), (5, (AV.v (TV.one (At.ptr 2 0 3)))), (6, (AV.v (TV.one (At.int .i64 t6)))), (18, (AV.v (TV.one (At.flt .f32 t18)))), (20, (AV.v (TV.one (At.int .i64 t20'))))] [(Blk.mk Bool.false (Body.il .u8 b0)), (Blk.mk Bool.false (Body.il .u8 b1)), (Blk.mk Bool.true (Body.cells [(At.sl 3 0 q0g 1), (At.sl 4 0 q0k 1), (At.sl 5 0 q0r 1)])), (Blk.mk Bool.true (Body.fl .f32 b3)), (Blk.mk Bool.true (Body.fl .f32 b4)), (Blk.mk Bool.true (Body.fl .f32 b5))])) (fun _ => K Ex.ret (St.mk [(4, (AV.v (TV.one (At.bool Bool.false))))] [(Blk.mk Bool.false (Body.il .u8 b0)), (Blk.mk Bool.false (Body.il .u8 b1))])) (fun c0_ c1_ => K (Ex.exit 2) (St.mk [(1, (AV.v (TV.one (At.vw 1 0 t1n 1)))), (5, (AV.v (TV.one (At.ptr 2 0 3)))), (6, (AV.v (TV.one (At.int .i64 t6)))), (18, (AV.v (TV.one (At.flt .f32 t18)))), (20, (AV.v (TV.one (At.int .i64 c0_)))), (159, (AV.v (TV.one (At.bool c1_))))] [(Blk.mk Bool.false (Body.il .u8 b0)), (Blk.mk Bool.false (Body.il .u8 b1)), (Blk.mk Bool.true (Body.cells [(At.sl 3 0 q0g 1), (At.sl 4 0 q0k 1), (At.sl 5 0 q0r 1)])), (Blk.mk Bool.true (Body.fl .f32 b3)), (Blk.mk Bool.true (Body.fl .f32 b4)), (Blk.mk Bool.true (Body.fl .f32 b5))])) := by kernel_rfl
theorem zkg (t1n : Nat) (t6 : Int) (t18 : Nat) (b0 : List Int) (b1 : List Int) (q0g : Nat) (q0k : Nat) (q0r : Nat) (b3 : List Nat) (b4 : List Nat) (b5 : List Nat) : ∀ (n : Nat) (t20 : Int), iter 3 21 2 (evC (R := Ex × St) Γ20 (evFn Γ20 8 8) 3 2 fi3.nt fi3.live fi3.nl 8 (findL 21 (loopsIn fi3.code))) n (St.mk [(1, (AV.v (TV.one (At.vw 1 0 t1n 1)))), (5, (AV.v (TV.one (At.ptr 2 0 3)))), (6, (AV.v (TV.one (At.int .i64 t6)))), (18, (AV.v (TV.one (At.flt .f32 t18)))), (20, (AV.v (TV.one (At.int .i64 t20))))] [(Blk.mk Bool.false (Body.il .u8 b0)), (Blk.mk Bool.false (Body.il .u8 b1)), (Blk.mk Bool.true (Body.cells [(At.sl 3 0 q0g 1), (At.sl 4 0 q0k 1), (At.sl 5 0 q0r 1)])), (Blk.mk Bool.true (Body.fl .f32 b3)), (Blk.mk Bool.true (Body.fl .f32 b4)), (Blk.mk Bool.true (Body.fl .f32 b5))]) (fun e st => some (e, st)) = (z6o t1n t6 t18 b0 b1 q0g q0k q0r b3 b4 b5) (z1g t6 t18 q0k q0r b4 b5 n t20) := by
  intro n
  induction n with
  | zero => intros; rfl
  | succ n ih =>
    intro t20
    refine Eq.trans (iter_succ ..) (Eq.trans (zj4 t1n t6 t18 t20 b0 b1 q0g q0k q0r b3 b4 b5 (nextK 3 21 2 (evC (R := Ex × St) Γ20 (evFn Γ20 8 8) 3 2 fi3.nt fi3.live fi3.nl 8 (findL 21 (loopsIn fi3.code))) n (fun e st => some (e, st)))) (Eq.trans ?_ (zgn t6 t18 q0k q0r b4 b5 t20 (z6o t1n t6 t18 b0 b1 q0g q0k q0r b3 b4 b5) rfl (fun t20' => z1g t6 t18 q0k q0r b4 b5 n t20') (fun _ => some (Sum.inl ())) (fun c0_ c1_ => some (Sum.inr (c0_, c1_))))))
    exact congrArg (fun kn_ => z3h t6 t18 q0k q0r b4 b5 t20 kn_ (fun _ => (z6o t1n t6 t18 b0 b1 q0g q0k q0r b3 b4 b5) (some (Sum.inl ()))) (fun c0_ c1_ => (z6o t1n t6 t18 b0 b1 q0g q0k q0r b3 b4 b5) (some (Sum.inr (c0_, c1_))))) (funext fun t20' => ih t20')
theorem zha : LoopOne Try.prog fnTab 3 21 zej := lp_of (Γ := Γ20) tyTab_ok (FnL.ok fnTab_ok _ _) (LpL.ok lt20_ok) (SumL.ok tb20_ok _) mixed (fi := fi3) (by kernel_rfl) (by kernel_rfl) (by
  intro lo st out hp
  obtain ⟨hs, e1, e2, e3⟩ := lpT_inv hp
  clear hp
  obtain rfl : st = (St.mk [(1, (AV.v (TV.one (At.vw 1 0 (hvN (hGet hs 0)) 1)))), (5, (AV.v (TV.one (At.ptr 2 0 3)))), (6, (AV.v (TV.one (At.int .i64 (hvI (hGet hs 1)))))), (18, (AV.v (TV.one (At.flt .f32 (hvN (hGet hs 2)))))), (20, (AV.v (TV.one (At.int .i64 (hvI (hGet hs 3))))))] [(Blk.mk Bool.false (Body.il .u8 (hvLi (hGet hs 4)))), (Blk.mk Bool.false (Body.il .u8 (hvLi (hGet hs 5)))), (Blk.mk Bool.true (Body.cells [(At.sl 3 0 (hvN (hGet hs 6)) 1), (At.sl 4 0 (hvN (hGet hs 7)) 1), (At.sl 5 0 (hvN (hGet hs 8)) 1)])), (Blk.mk Bool.true (Body.fl .f32 (hvLn (hGet hs 9)))), (Blk.mk Bool.true (Body.fl .f32 (hvLn (hGet hs 10)))), (Blk.mk Bool.true (Body.fl .f32 (hvLn (hGet hs 11))))]) := e2.trans (by kernel_rfl)
  clear e2
  subst e1
  unfold ze1 at e3
  injection e3 with h1 h2
  subst h2
  exact ⟨8, 8, big, Eq.trans (zkg (hvN (hGet hs 0)) (hvI (hGet hs 1)) (hvN (hGet hs 2)) (hvLi (hGet hs 4)) (hvLi (hGet hs 5)) (hvN (hGet hs 6)) (hvN (hGet hs 7)) (hvN (hGet hs 8)) (hvLn (hGet hs 9)) (hvLn (hGet hs 10)) (hvLn (hGet hs 11)) big (hvI (hGet hs 3))) (zkd (hvN (hGet hs 0)) (hvI (hGet hs 1)) (hvN (hGet hs 2)) (hvLi (hGet hs 4)) (hvLi (hGet hs 5)) (hvN (hGet hs 6)) (hvN (hGet hs 7)) (hvN (hGet hs 8)) (hvLn (hGet hs 9)) (hvLn (hGet hs 10)) (hvLn (hGet hs 11)) (z1g (hvI (hGet hs 1)) (hvN (hGet hs 2)) (hvN (hGet hs 7)) (hvN (hGet hs 8)) (hvLn (hGet hs 10)) (hvLn (hGet hs 11)) big (hvI (hGet hs 3))) h1)⟩)
noncomputable def zdq (t1n : Nat) (t6 : Int) (t21 : Nat) (t22 : Bool) (t23 : Bool) (t24 : Int) (b0 : List Int) (b1 : List Int) (q0g : Nat) (q0k : Nat) (q0r : Nat) (b3 : List Nat) (b4 : List Nat) (b5 : List Nat) : Bool × LO := ((laws_FnBests_l28_p t6 q0k b4 t23 t24), (LO.one (Ex.exit 4) (St.mk [(1, (AV.v (TV.one (At.vw 1 0 t1n 1)))), (5, (AV.v (TV.one (At.ptr 2 0 3)))), (6, (AV.v (TV.one (At.int .i64 t6)))), (21, (AV.v (TV.one (At.flt .f32 t21)))), (22, (AV.v (TV.one (At.bool t22)))), (23, (AV.v (TV.one (At.bool (laws_FnBests_l28_a0_0 t6 q0k b4 t23 t24))))), (24, (AV.v (TV.one (At.int .i64 (laws_FnBests_l28_a0_1 t6 q0k b4 t23 t24))))), (182, (AV.v (TV.one (At.bool (laws_FnBests_l28_a0_2 t6 q0k b4 t23 t24)))))] [(Blk.mk Bool.false (Body.il .u8 b0)), (Blk.mk Bool.false (Body.il .u8 b1)), (Blk.mk Bool.true (Body.cells [(At.sl 3 0 q0g 1), (At.sl 4 0 q0k 1), (At.sl 5 0 q0r 1)])), (Blk.mk Bool.true (Body.fl .f32 b3)), (Blk.mk Bool.true (Body.fl .f32 b4)), (Blk.mk Bool.true (Body.fl .f32 b5))])))
noncomputable def zep : Nat → St → Option (Bool × LO) := lpT 2 (pSt [(pTm 1 (pV (pOne (pVw 1 (liN 0) 1)))), (pTm 5 (pV (pOne (pPtr 2 (liN 0) 3)))), (pTm 6 (pV (pOne (pInt .i64)))), (pTm 21 (pV (pOne (pFlt .f32)))), (pTm 22 (pV (pOne pBool))), (pTm 23 (pV (pOne pBool))), (pTm 24 (pV (pOne (pInt .i64))))] [(pBlk Bool.false (pIl .u8)), (pBlk Bool.false (pIl .u8)), (pBlk Bool.true (pCells [(pSl 3 (liN 0) 1), (pSl 4 (liN 0) 1), (pSl 5 (liN 0) 1)])), (pBlk Bool.true (pFl .f32)), (pBlk Bool.true (pFl .f32)), (pBlk Bool.true (pFl .f32))]) (fun hs => zdq (hvN (hGet hs 0)) (hvI (hGet hs 1)) (hvN (hGet hs 2)) (hvB (hGet hs 3)) (hvB (hGet hs 4)) (hvI (hGet hs 5)) (hvLi (hGet hs 6)) (hvLi (hGet hs 7)) (hvN (hGet hs 8)) (hvN (hGet hs 9)) (hvN (hGet hs 10)) (hvLn (hGet hs 11)) (hvLn (hGet hs 12)) (hvLn (hGet hs 13)))
def z8u (t1n : Nat) (t6 : Int) (t21 : Nat) (t22 : Bool) (b0 : List Int) (b1 : List Int) (q0g : Nat) (q0k : Nat) (q0r : Nat) (b3 : List Nat) (b4 : List Nat) (b5 : List Nat) : Option ((Bool × Int × Bool)) → Option (Ex × St)
  | none => none
  | some r => some ((Ex.exit 4), (St.mk [(1, (AV.v (TV.one (At.vw 1 0 t1n 1)))), (5, (AV.v (TV.one (At.ptr 2 0 3)))), (6, (AV.v (TV.one (At.int .i64 t6)))), (21, (AV.v (TV.one (At.flt .f32 t21)))), (22, (AV.v (TV.one (At.bool t22)))), (23, (AV.v (TV.one (At.bool r.1)))), (24, (AV.v (TV.one (At.int .i64 r.2.1)))), (182, (AV.v (TV.one (At.bool r.2.2))))] [(Blk.mk Bool.false (Body.il .u8 b0)), (Blk.mk Bool.false (Body.il .u8 b1)), (Blk.mk Bool.true (Body.cells [(At.sl 3 0 q0g 1), (At.sl 4 0 q0k 1), (At.sl 5 0 q0r 1)])), (Blk.mk Bool.true (Body.fl .f32 b3)), (Blk.mk Bool.true (Body.fl .f32 b4)), (Blk.mk Bool.true (Body.fl .f32 b5))]))
def zib (t1n : Nat) (t6 : Int) (t21 : Nat) (t22 : Bool) (b0 : List Int) (b1 : List Int) (q0g : Nat) (q0k : Nat) (q0r : Nat) (b3 : List Nat) (b4 : List Nat) (b5 : List Nat) (x : Option ((Bool × Int × Bool))) : LO := (LO.one (Ex.exit 4) (St.mk [(1, (AV.v (TV.one (At.vw 1 0 t1n 1)))), (5, (AV.v (TV.one (At.ptr 2 0 3)))), (6, (AV.v (TV.one (At.int .i64 t6)))), (21, (AV.v (TV.one (At.flt .f32 t21)))), (22, (AV.v (TV.one (At.bool t22)))), (23, (AV.v (TV.one (At.bool (x.getD default).1)))), (24, (AV.v (TV.one (At.int .i64 (x.getD default).2.1)))), (182, (AV.v (TV.one (At.bool (x.getD default).2.2))))] [(Blk.mk Bool.false (Body.il .u8 b0)), (Blk.mk Bool.false (Body.il .u8 b1)), (Blk.mk Bool.true (Body.cells [(At.sl 3 0 q0g 1), (At.sl 4 0 q0k 1), (At.sl 5 0 q0r 1)])), (Blk.mk Bool.true (Body.fl .f32 b3)), (Blk.mk Bool.true (Body.fl .f32 b4)), (Blk.mk Bool.true (Body.fl .f32 b5))]))
theorem zkh (t1n : Nat) (t6 : Int) (t21 : Nat) (t22 : Bool) (b0 : List Int) (b1 : List Int) (q0g : Nat) (q0k : Nat) (q0r : Nat) (b3 : List Nat) (b4 : List Nat) (b5 : List Nat) : ∀ x : Option ((Bool × Int × Bool)), x.isSome = true → (z8u t1n t6 t21 t22 b0 b1 q0g q0k q0r b3 b4 b5) x = some (pick (zib t1n t6 t21 t22 b0 b1 q0g q0k q0r b3 b4 b5 x))
  | none, h => by cases h
  | some r, _ => rfl
theorem zjf (t1n : Nat) (t6 : Int) (t21 : Nat) (t22 : Bool) (t23 : Bool) (t24 : Int) (b0 : List Int) (b1 : List Int) (q0g : Nat) (q0k : Nat) (q0r : Nat) (b3 : List Nat) (b4 : List Nat) (b5 : List Nat) (K : Ex → St → Option (Ex × St)) : evC (R := Ex × St) Γ20 (evFn Γ20 8 8) 3 2 fi3.nt fi3.live fi3.nl 8 (findL 28 (loopsIn fi3.code)) (St.mk [(1, (AV.v (TV.one (At.vw 1 0 t1n 1)))), (5, (AV.v (TV.one (At.ptr 2 0 3)))), (6, (AV.v (TV.one (At.int .i64 t6)))), (21, (AV.v (TV.one (At.flt .f32 t21)))), (22, (AV.v (TV.one (At.bool t22)))), (23, (AV.v (TV.one (At.bool t23)))), (24, (AV.v (TV.one (At.int .i64 t24))))] [(Blk.mk Bool.false (Body.il .u8 b0)), (Blk.mk Bool.false (Body.il .u8 b1)), (Blk.mk Bool.true (Body.cells [(At.sl 3 0 q0g 1), (At.sl 4 0 q0k 1), (At.sl 5 0 q0r 1)])), (Blk.mk Bool.true (Body.fl .f32 b3)), (Blk.mk Bool.true (Body.fl .f32 b4)), (Blk.mk Bool.true (Body.fl .f32 b5))]) K = z3j t6 q0k b4 t23 t24 (fun t23' t24' => K .normal (St.mk [(1, (AV.v (TV.one (At.vw 1 0 t1n 1)))), (5, (AV.v (TV.one (At.ptr 2 0 3)))), (6, (AV.v (TV.one (At.int .i64 t6)))), (21, (AV.v (TV.one (At.flt .f32 t21)))), (22, (AV.v (TV.one (At.bool t22)))), (23, (AV.v (TV.one (At.bool t23')))), (24, (AV.v (TV.one (At.int .i64 t24'))))] [(Blk.mk Bool.false (Body.il .u8 b0)), (Blk.mk Bool.false (Body.il .u8 b1)), (Blk.mk Bool.true (Body.cells [(At.sl 3 0 q0g 1), (At.sl 4 0 q0k 1), (At.sl 5 0 q0r 1)])), (Blk.mk Bool.true (Body.fl .f32 b3)), (Blk.mk Bool.true (Body.fl .f32 b4)), (Blk.mk Bool.true (Body.fl .f32 b5))])) (fun c0_ c1_ c2_ => K (Ex.exit 4) (St.mk [(1, (AV.v (TV.one (At.vw 1 0 t1n 1)))), (5, (AV.v (TV.one (At.ptr 2 0 3)))), (6, (AV.v (TV.one (At.int .i64 t6)))), (21, (AV.v (TV.one (At.flt .f32 t21)))), (22, (AV.v (TV.one (At.bool t22)))), (23, (AV.v (TV.one (At.bool c0_)))), (24, (AV.v (TV.one (At.int .i64 c1_)))), (182, (AV.v (TV.one (At.bool c2_))))] [(Blk.mk Bool.false (Body.il .u8 b0)), (Blk.mk Bool.false (Body.il .u8 b1)), (Blk.mk Bool.true (Body.cells [(At.sl 3 0 q0g 1), (At.sl 4 0 q0k 1), (At.sl 5 0 q0r 1)])), (Blk.mk Bool.true (Body.fl .f32 b3)), (Blk.mk Bool.true (Body.fl .f32 b4)), (Blk.mk Bool.true (Body.fl .f32 b5))])) := by kernel_rfl
theorem zjy (t1n : Nat) (t6 : Int) (t21 : Nat) (t22 : Bool) (b0 : List Int) (b1 : List Int) (q0g : Nat) (q0k : Nat) (q0r : Nat) (b3 : List Nat) (b4 : List Nat) (b5 : List Nat) : ∀ (n : Nat) (t23 : Bool) (t24 : Int), iter 3 28 2 (evC (R := Ex × St) Γ20 (evFn Γ20 8 8) 3 2 fi3.nt fi3.live fi3.nl 8 (findL 28 (loopsIn fi3.code))) n (St.mk [(1, (AV.v (TV.one (At.vw 1 0 t1n 1)))), (5, (AV.v (TV.one (At.ptr 2 0 3)))), (6, (AV.v (TV.one (At.int .i64 t6)))), (21, (AV.v (TV.one (At.flt .f32 t21)))), (22, (AV.v (TV.one (At.bool t22)))), (23, (AV.v (TV.one (At.bool t23)))), (24, (AV.v (TV.one (At.int .i64 t24))))] [(Blk.mk Bool.false (Body.il .u8 b0)), (Blk.mk Bool.false (Body.il .u8 b1)), (Blk.mk Bool.true (Body.cells [(At.sl 3 0 q0g 1), (At.sl 4 0 q0k 1), (At.sl 5 0 q0r 1)])), (Blk.mk Bool.true (Body.fl .f32 b3)), (Blk.mk Bool.true (Body.fl .f32 b4)), (Blk.mk Bool.true (Body.fl .f32 b5))]) (fun e st => some (e, st)) = (z8u t1n t6 t21 t22 b0 b1 q0g q0k q0r b3 b4 b5) (z28 t6 q0k b4 n t23 t24) := by
  intro n
  induction n with
  | zero => intros; rfl
  | succ n ih =>
    intro t23 t24
    refine Eq.trans (iter_succ ..) (Eq.trans (zjf t1n t6 t21 t22 t23 t24 b0 b1 q0g q0k q0r b3 b4 b5 (nextK 3 28 2 (evC (R := Ex × St) Γ20 (evFn Γ20 8 8) 3 2 fi3.nt fi3.live fi3.nl 8 (findL 28 (loopsIn fi3.code))) n (fun e st => some (e, st)))) (Eq.trans ?_ (zgm t6 q0k b4 t23 t24 (z8u t1n t6 t21 t22 b0 b1 q0g q0k q0r b3 b4 b5) rfl (fun t23' t24' => z28 t6 q0k b4 n t23' t24') (fun c0_ c1_ c2_ => some (c0_, c1_, c2_)))))
    exact congrArg (fun kn_ => z3j t6 q0k b4 t23 t24 kn_ (fun c0_ c1_ c2_ => (z8u t1n t6 t21 t22 b0 b1 q0g q0k q0r b3 b4 b5) (some (c0_, c1_, c2_)))) (funext fun t23' => funext fun t24' => ih t23' t24')
theorem zh7 : LoopOne Try.prog fnTab 3 28 zep := lp_of (Γ := Γ20) tyTab_ok (FnL.ok fnTab_ok _ _) (LpL.ok lt20_ok) (SumL.ok tb20_ok _) mixed (fi := fi3) (by kernel_rfl) (by kernel_rfl) (by
  intro lo st out hp
  obtain ⟨hs, e1, e2, e3⟩ := lpT_inv hp
  clear hp
  obtain rfl : st = (St.mk [(1, (AV.v (TV.one (At.vw 1 0 (hvN (hGet hs 0)) 1)))), (5, (AV.v (TV.one (At.ptr 2 0 3)))), (6, (AV.v (TV.one (At.int .i64 (hvI (hGet hs 1)))))), (21, (AV.v (TV.one (At.flt .f32 (hvN (hGet hs 2)))))), (22, (AV.v (TV.one (At.bool (hvB (hGet hs 3)))))), (23, (AV.v (TV.one (At.bool (hvB (hGet hs 4)))))), (24, (AV.v (TV.one (At.int .i64 (hvI (hGet hs 5))))))] [(Blk.mk Bool.false (Body.il .u8 (hvLi (hGet hs 6)))), (Blk.mk Bool.false (Body.il .u8 (hvLi (hGet hs 7)))), (Blk.mk Bool.true (Body.cells [(At.sl 3 0 (hvN (hGet hs 8)) 1), (At.sl 4 0 (hvN (hGet hs 9)) 1), (At.sl 5 0 (hvN (hGet hs 10)) 1)])), (Blk.mk Bool.true (Body.fl .f32 (hvLn (hGet hs 11)))), (Blk.mk Bool.true (Body.fl .f32 (hvLn (hGet hs 12)))), (Blk.mk Bool.true (Body.fl .f32 (hvLn (hGet hs 13))))]) := e2.trans (by kernel_rfl)
  clear e2
  subst e1
  unfold zdq at e3
  injection e3 with h1 h2
  subst h2
  exact ⟨8, 8, big, Eq.trans (zjy (hvN (hGet hs 0)) (hvI (hGet hs 1)) (hvN (hGet hs 2)) (hvB (hGet hs 3)) (hvLi (hGet hs 6)) (hvLi (hGet hs 7)) (hvN (hGet hs 8)) (hvN (hGet hs 9)) (hvN (hGet hs 10)) (hvLn (hGet hs 11)) (hvLn (hGet hs 12)) (hvLn (hGet hs 13)) big (hvB (hGet hs 4)) (hvI (hGet hs 5))) (zkh (hvN (hGet hs 0)) (hvI (hGet hs 1)) (hvN (hGet hs 2)) (hvB (hGet hs 3)) (hvLi (hGet hs 6)) (hvLi (hGet hs 7)) (hvN (hGet hs 8)) (hvN (hGet hs 9)) (hvN (hGet hs 10)) (hvLn (hGet hs 11)) (hvLn (hGet hs 12)) (hvLn (hGet hs 13)) (z28 (hvI (hGet hs 1)) (hvN (hGet hs 9)) (hvLn (hGet hs 12)) big (hvB (hGet hs 4)) (hvI (hGet hs 5))) h1)⟩)
noncomputable def tb21 : List (Nat × (List PT → Option (Bool × AV × List Blk))) := tb20
noncomputable def lt21 : List ((Nat × Nat) × (Nat → St → Option (Bool × LO))) := ((3, 21), zej) :: ((3, 28), zep) :: lt20
noncomputable def Γ21 : Ctx := ⟨tyTab, fnTab, tblSum tb21, tblLp lt21⟩
theorem tb21_ok : SumL Try.prog tb21 := tb20_ok
theorem lt21_ok : LpL Try.prog fnTab lt21 := LpL.cons zha (LpL.cons zh7 (lt20_ok))
noncomputable def tb22 : List (Nat × (List PT → Option (Bool × AV × List Blk))) := tb21
noncomputable def lt22 : List ((Nat × Nat) × (Nat → St → Option (Bool × LO))) := lt21
noncomputable def Γ22 : Ctx := ⟨tyTab, fnTab, tblSum tb22, tblLp lt22⟩
theorem tb22_ok : SumL Try.prog tb22 := tb21_ok
theorem lt22_ok : LpL Try.prog fnTab lt22 := lt21_ok
end Go.Proofs.Ythaiinndikpmcaa
