/-
  What functions answer: that the evaluator answers so. Printed by a program.
-/
import Derived.Test.YtcbldlfdjabeaaaAddKnotC
set_option linter.unusedVariables false
set_option linter.unusedSimpArgs false
set_option maxRecDepth 100000
set_option maxHeartbeats 4000000
namespace Go.Proofs.Ytcbldlfdjabeaaa
open Go Go.Rf
def zag : List PT → Option (Bool × AV × List Blk)
  | [.one (.s (.flt .f32 x))] => some (bnot (nanQ .f32 x), A1 (.int .u32 x), [])
  | _ => none
theorem zdn : SumOne Try.prog 90 zag := by
  intro pts v news hp w vals hv
  unfold zag at hp
  split at hp
  · rename_i x
    injection hp with hp
    injection hp with h1 hp
    injection hp with h2 h3
    subst h2
    subst h3
    obtain ⟨l, hl⟩ : ∃ l, l = vals.toList := ⟨_, rfl⟩
    rw [← hl] at hv
    cases hv with
    | cons a1 a2 =>
      cases a2
      obtain ⟨b, hb1, hb2, hb3⟩ := a1
      subst hb1
      rename_i hx
      have hvals : vals = #[.float .f32 b] := by rw [← Array.toList_inj, ← hl]
      subst hvals
      have hn : nanB .f32 b = false := by rw [← nanB_cn, hb3]; simpa [bnot, nanQ] using h1
      rw [cn_of_not hn] at hb3
      subst hb3
      refine .inl ⟨_, w, by (simp only [callFunc, Sem.run_bind, run_program, Result.andThen_ok, Try.func90]; rfl), NoB, ⟨⟨(fun t b' h => by cases t <;> cases h), (fun t t' b1 b2 x x' _ h => by cases t <;> cases h)⟩, (fun t x h => by cases h), Fr.refl _ w⟩, rfl⟩
  · cases hp
def z6z : List PT → Option (Bool × AV × List Blk)
  | [.one (.s (.int .u64 x))] => some (okU .f64 x, A1 (.flt .f64 (cnI .f64 x)), [])
  | _ => none
theorem zcg : SumOne Try.prog 103 z6z := by
  intro pts v news hp w vals hv
  unfold z6z at hp
  split at hp
  · rename_i x
    injection hp with hp
    injection hp with h1 hp
    injection hp with h2 h3
    subst h2
    subst h3
    obtain ⟨l, hl⟩ : ∃ l, l = vals.toList := ⟨_, rfl⟩
    rw [← hl] at hv
    cases hv with
    | cons a1 a2 =>
      cases a2
      have hb1 : _ = Value.int .u64 x := a1
      subst hb1
      rename_i hx
      have hvals : vals = #[.int .u64 x] := by rw [← Array.toList_inj, ← hl]
      subst hvals
      have hw := okU_lt h1
      refine .inl ⟨_, w, by (simp only [callFunc, Sem.run_bind, run_program, Result.andThen_ok, Try.func103]; rfl), NoB, ⟨⟨(fun t b' h => by cases t <;> cases h), (fun t t' b1 b2 x x' _ h => by cases t <;> cases h)⟩, (fun t x h => by cases h), Fr.refl _ w⟩, ⟨_, rfl, hw, rfl⟩⟩
  · cases hp
def za4 : List PT → Option (Bool × AV × List Blk)
  | [.one (.s (.flt .f64 x))] => some (bnot (nanQ .f64 x), A1 (.int .u64 x), [])
  | _ => none
theorem zdo : SumOne Try.prog 111 za4 := by
  intro pts v news hp w vals hv
  unfold za4 at hp
  split at hp
  · rename_i x
    injection hp with hp
    injection hp with h1 hp
    injection hp with h2 h3
    subst h2
    subst h3
    obtain ⟨l, hl⟩ : ∃ l, l = vals.toList := ⟨_, rfl⟩
    rw [← hl] at hv
    cases hv with
    | cons a1 a2 =>
      cases a2
      obtain ⟨b, hb1, hb2, hb3⟩ := a1
      subst hb1
      rename_i hx
      have hvals : vals = #[.float .f64 b] := by rw [← Array.toList_inj, ← hl]
      subst hvals
      have hn : nanB .f64 b = false := by rw [← nanB_cn, hb3]; simpa [bnot, nanQ] using h1
      rw [cn_of_not hn] at hb3
      subst hb3
      refine .inl ⟨_, w, by (simp only [callFunc, Sem.run_bind, run_program, Result.andThen_ok, Try.func111]; rfl), NoB, ⟨⟨(fun t b' h => by cases t <;> cases h), (fun t t' b1 b2 x x' _ h => by cases t <;> cases h)⟩, (fun t x h => by cases h), Fr.refl _ w⟩, rfl⟩
  · cases hp
def zb0 : List PT → Option (Bool × AV × List Blk)
  | [.one (.s (.flt .f64 x))] => some (bnot (nanQ .f64 x), A1 (.flt .f64 (fint .zero x)), [])
  | _ => none
theorem zer : SumOne Try.prog 115 zb0 := by
  intro pts v news hp w vals hv
  unfold zb0 at hp
  split at hp
  · rename_i x
    injection hp with hp
    injection hp with h1 hp
    injection hp with h2 h3
    subst h2
    subst h3
    obtain ⟨l, hl⟩ : ∃ l, l = vals.toList := ⟨_, rfl⟩
    rw [← hl] at hv
    cases hv with
    | cons a1 a2 =>
      cases a2
      obtain ⟨b, hb1, hb2, hb3⟩ := a1
      subst hb1
      rename_i hx
      have hvals : vals = #[.float .f64 b] := by rw [← Array.toList_inj, ← hl]
      subst hvals
      have hn : nanB .f64 b = false := by rw [← nanB_cn, hb3]; simpa [bnot, nanQ] using h1
      rw [cn_of_not hn] at hb3
      subst hb3
      refine .inl ⟨_, w, by (simp only [callFunc, Sem.run_bind, run_program, Result.andThen_ok, Try.func115]; change (do let v ← Extern.MathFloor.toIntegral "math.archTrunc" .zero #[.float .f64 b]; pure (.value v) : Sem Next).run Try.prog w = _; rw [Sem.run_bind, run_fint hn]; rfl), NoB, ⟨⟨(fun t b' h => by cases t <;> cases h), (fun t t' b1 b2 x x' _ h => by cases t <;> cases h)⟩, (fun t x h => by cases h), Fr.refl _ w⟩, fint_rel hn⟩
  · cases hp
def zb1 : List PT → Option (Bool × AV × List Blk)
  | [.one (.s (.flt .f64 x))] => some (bnot (nanQ .f64 x), A1 (.flt .f64 (fint .down x)), [])
  | _ => none
theorem zem : SumOne Try.prog 117 zb1 := by
  intro pts v news hp w vals hv
  unfold zb1 at hp
  split at hp
  · rename_i x
    injection hp with hp
    injection hp with h1 hp
    injection hp with h2 h3
    subst h2
    subst h3
    obtain ⟨l, hl⟩ : ∃ l, l = vals.toList := ⟨_, rfl⟩
    rw [← hl] at hv
    cases hv with
    | cons a1 a2 =>
      cases a2
      obtain ⟨b, hb1, hb2, hb3⟩ := a1
      subst hb1
      rename_i hx
      have hvals : vals = #[.float .f64 b] := by rw [← Array.toList_inj, ← hl]
      subst hvals
      have hn : nanB .f64 b = false := by rw [← nanB_cn, hb3]; simpa [bnot, nanQ] using h1
      rw [cn_of_not hn] at hb3
      subst hb3
      refine .inl ⟨_, w, by (simp only [callFunc, Sem.run_bind, run_program, Result.andThen_ok, Try.func117]; change (do let v ← Extern.MathFloor.toIntegral "math.archFloor" .down #[.float .f64 b]; pure (.value v) : Sem Next).run Try.prog w = _; rw [Sem.run_bind, run_fint hn]; rfl), NoB, ⟨⟨(fun t b' h => by cases t <;> cases h), (fun t t' b1 b2 x x' _ h => by cases t <;> cases h)⟩, (fun t x h => by cases h), Fr.refl _ w⟩, fint_rel hn⟩
  · cases hp
noncomputable def tb0 : List (Nat × (List PT → Option (Bool × AV × List Blk))) := [(90, zag), (103, z6z), (111, za4), (115, zb0), (117, zb1)]
noncomputable def lt0 : List ((Nat × Nat) × (Nat → St → Option (Bool × LO))) := []
noncomputable def Γ0 : Ctx := ⟨tyTab, fnTab, tblSum tb0, tblLp lt0⟩
theorem tb0_ok : SumL Try.prog tb0 := SumL.cons zdn (SumL.cons zcg (SumL.cons zdo (SumL.cons zer (SumL.cons zem (SumL.nil)))))
theorem lt0_ok : LpL Try.prog fnTab lt0 := LpL.nil
noncomputable def zb7 : List PT → Option (Bool × AV × List Blk)
  | [.one (.s (.flt .f32 x))] => some ((z6q x), ((AV.v (TV.one (At.bool (z60 x)))), []))
  | _ => none
def zd7 (x : Nat) : Option (Bool) → Option (AV × List Blk)
  | some r => some ((AV.v (TV.one (At.bool r))), [])
  | none => none
theorem zgh (x : Nat) : evFn Γ0 8 8 37 (impTs 0 [.one (.s (.flt .f32 x))]).1 (impTs 0 [.one (.s (.flt .f32 x))]).2 (expo (impTs 0 [.one (.s (.flt .f32 x))]).2.length) = z6n x (fun c0_ => some ((AV.v (TV.one (At.bool c0_))), [])) := by kernel_rfl
theorem zfi : SumOne Try.prog 37 zb7 := sum_of (Γ := Γ0) (fuel := 8) (d := 8) tyTab_ok (FnL.ok fnTab_ok _ _) (LpL.ok lt0_ok) (SumL.ok tb0_ok fnTab_ok _) mixed (by
  intro pts v news hp hc
  clear hc
  unfold zb7 at hp
  split at hp
  · rename_i x
    exact Eq.trans (Eq.trans (zgh x) (zf0 x (zd7 x) rfl (fun c0_ => some c0_))) (fin_out (o := (zd7 x)) (x := z6e x) (d := default) (V := fun r => ((AV.v (TV.one (At.bool r))), [])) (fun r => rfl) hp)
  · cases hp)
noncomputable def zao : List PT → Option (Bool × AV × List Blk)
  | [.one (.row 1 a_n (.fl .f32 a)), .one (.s (.int .i64 q14))] => some ((z4i a_n a q14), ((AV.v (TV.one (At.int .i64 (z10 a_n a q14)))), []))
  | _ => none
def zc7 (a_n : Nat) (a : List Nat) (q14 : Int) : Option (Int) → Option (AV × List Blk)
  | some r => some ((AV.v (TV.one (At.int .i64 r))), [])
  | none => none
theorem zfs (a_n : Nat) (a : List Nat) (q14 : Int) : evFn Γ0 8 8 45 (impTs 0 [.one (.row 1 a_n (.fl .f32 a)), .one (.s (.int .i64 q14))]).1 (impTs 0 [.one (.row 1 a_n (.fl .f32 a)), .one (.s (.int .i64 q14))]).2 (expo (impTs 0 [.one (.row 1 a_n (.fl .f32 a)), .one (.s (.int .i64 q14))]).2.length) = z4p a_n a q14 (fun c0_ => some ((AV.v (TV.one (At.int .i64 c0_))), [])) := by kernel_rfl
theorem ze4 : SumOne Try.prog 45 zao := sum_of (Γ := Γ0) (fuel := 8) (d := 8) tyTab_ok (FnL.ok fnTab_ok _ _) (LpL.ok lt0_ok) (SumL.ok tb0_ok fnTab_ok _) mixed (by
  intro pts v news hp hc
  clear hc
  unfold zao at hp
  split at hp
  · rename_i a_n a q14
    exact Eq.trans (Eq.trans (zfs a_n a q14) (zdz a_n a q14 (zc7 a_n a q14) rfl (fun c0_ => some c0_))) (fin_out (o := (zc7 a_n a q14)) (x := z4k a_n a q14) (d := default) (V := fun r => ((AV.v (TV.one (At.int .i64 r))), [])) (fun r => rfl) hp)
  · cases hp)
noncomputable def zc3 : List PT → Option (Bool × AV × List Blk)
  | [] => some (z98, ((AV.v (TV.agg [(At.sl 0 0 0 1), (At.sl 1 0 0 1), (At.sl 2 0 0 1)])), [(Blk.mk Bool.true (Body.fl .f32 z00)), (Blk.mk Bool.true (Body.fl .f32 z01)), (Blk.mk Bool.true (Body.fl .f32 z02))]))
  | _ => none
def zel  : Option ((List Nat) × (List Nat) × (List Nat)) → Option (AV × List Blk)
  | some r => some ((AV.v (TV.agg [(At.sl 0 0 0 1), (At.sl 1 0 0 1), (At.sl 2 0 0 1)])), [(Blk.mk Bool.true (Body.fl .f32 r.1)), (Blk.mk Bool.true (Body.fl .f32 r.2.1)), (Blk.mk Bool.true (Body.fl .f32 r.2.2))])
  | none => none
theorem zgw  : evFn Γ0 8 8 47 (impTs 0 []).1 (impTs 0 []).2 (expo (impTs 0 []).2.length) = z99 (fun c0_ c1_ c2_ => some ((AV.v (TV.agg [(At.sl 0 0 0 1), (At.sl 1 0 0 1), (At.sl 2 0 0 1)])), [(Blk.mk Bool.true (Body.fl .f32 c0_)), (Blk.mk Bool.true (Body.fl .f32 c1_)), (Blk.mk Bool.true (Body.fl .f32 c2_))])) := by kernel_rfl
theorem zgg : SumOne Try.prog 47 zc3 := sum_of (Γ := Γ0) (fuel := 8) (d := 8) tyTab_ok (FnL.ok fnTab_ok _ _) (LpL.ok lt0_ok) (SumL.ok tb0_ok fnTab_ok _) mixed (by
  intro pts v news hp hc
  clear hc
  unfold zc3 at hp
  split at hp
  · exact Eq.trans (Eq.trans (zgw) (zfu  zel rfl (fun c0_ c1_ c2_ => some (c0_, c1_, c2_)))) (fin_out (o := zel) (x := z5m) (d := default) (V := fun r => ((AV.v (TV.agg [(At.sl 0 0 0 1), (At.sl 1 0 0 1), (At.sl 2 0 0 1)])), [(Blk.mk Bool.true (Body.fl .f32 r.1)), (Blk.mk Bool.true (Body.fl .f32 r.2.1)), (Blk.mk Bool.true (Body.fl .f32 r.2.2))])) (fun r => rfl) hp)
  · cases hp)
noncomputable def zaw : List PT → Option (Bool × AV × List Blk)
  | [.one (.s (.flt .f32 x))] => some ((z32 x), ((AV.v (TV.one (At.bool (z2u x)))), []))
  | _ => none
def zct (x : Nat) : Option (Bool) → Option (AV × List Blk)
  | some r => some ((AV.v (TV.one (At.bool r))), [])
  | none => none
theorem zg8 (x : Nat) : evFn Γ0 8 8 63 (impTs 0 [.one (.s (.flt .f32 x))]).1 (impTs 0 [.one (.s (.flt .f32 x))]).2 (expo (impTs 0 [.one (.s (.flt .f32 x))]).2.length) = z5y x (fun c0_ => some ((AV.v (TV.one (At.bool c0_))), [])) := by kernel_rfl
theorem zeo : SumOne Try.prog 63 zaw := sum_of (Γ := Γ0) (fuel := 8) (d := 8) tyTab_ok (FnL.ok fnTab_ok _ _) (LpL.ok lt0_ok) (SumL.ok tb0_ok fnTab_ok _) mixed (by
  intro pts v news hp hc
  clear hc
  unfold zaw at hp
  split at hp
  · rename_i x
    exact Eq.trans (Eq.trans (zg8 x) (ze5 x (zct x) rfl (fun c0_ => some c0_))) (fin_out (o := (zct x)) (x := z61 x) (d := default) (V := fun r => ((AV.v (TV.one (At.bool r))), [])) (fun r => rfl) hp)
  · cases hp)
noncomputable def zba : List PT → Option (Bool × AV × List Blk)
  | [.one (.s (.flt .f32 x)), .one (.s (.flt .f32 low)), .one (.s (.flt .f32 q1b))] => some ((z9o x low q1b), ((AV.v (TV.one (At.bool (z8m x low q1b)))), []))
  | _ => none
def zd6 (x : Nat) (low : Nat) (q1b : Nat) : Option (Bool) → Option (AV × List Blk)
  | some r => some ((AV.v (TV.one (At.bool r))), [])
  | none => none
theorem zgi (x : Nat) (low : Nat) (q1b : Nat) : evFn Γ0 8 8 67 (impTs 0 [.one (.s (.flt .f32 x)), .one (.s (.flt .f32 low)), .one (.s (.flt .f32 q1b))]).1 (impTs 0 [.one (.s (.flt .f32 x)), .one (.s (.flt .f32 low)), .one (.s (.flt .f32 q1b))]).2 (expo (impTs 0 [.one (.s (.flt .f32 x)), .one (.s (.flt .f32 low)), .one (.s (.flt .f32 q1b))]).2.length) = z5k x low q1b (fun c0_ => some ((AV.v (TV.one (At.bool c0_))), [])) := by kernel_rfl
theorem zf8 : SumOne Try.prog 67 zba := sum_of (Γ := Γ0) (fuel := 8) (d := 8) tyTab_ok (FnL.ok fnTab_ok _ _) (LpL.ok lt0_ok) (SumL.ok tb0_ok fnTab_ok _) mixed (by
  intro pts v news hp hc
  clear hc
  unfold zba at hp
  split at hp
  · rename_i x low q1b
    exact Eq.trans (Eq.trans (zgi x low q1b) (zeu x low q1b (zd6 x low q1b) rfl (fun c0_ => some c0_))) (fin_out (o := (zd6 x low q1b)) (x := z5d x low q1b) (d := default) (V := fun r => ((AV.v (TV.one (At.bool r))), [])) (fun r => rfl) hp)
  · cases hp)
noncomputable def z6a : List PT → Option (Bool × AV × List Blk)
  | [.one (.row 1 s_n (.fl .f32 s))] => some ((z2q s_n s), ((AV.v (TV.one (At.sl 0 0 (z2o s_n s) 1))), [(Blk.mk Bool.true (Body.fl .f32 (z2m s_n s)))]))
  | _ => none
def z35 (s_n : Nat) (s : List Nat) : Option (Nat × (List Nat)) → Option (AV × List Blk)
  | some r => some ((AV.v (TV.one (At.sl 0 0 r.1 1))), [(Blk.mk Bool.true (Body.fl .f32 r.2))])
  | none => none
theorem zci (s_n : Nat) (s : List Nat) : ∀ a b, (z35 s_n s) a = (z35 s_n s) b → a = b := by
  intro a b h
  cases a <;> cases b <;> simp_all [z35, Prod.ext_iff]
theorem zd2 (s_n : Nat) (s : List Nat) : evFn Γ0 8 8 80 (impTs 0 [.one (.row 1 s_n (.fl .f32 s))]).1 (impTs 0 [.one (.row 1 s_n (.fl .f32 s))]).2 (expo (impTs 0 [.one (.row 1 s_n (.fl .f32 s))]).2.length) = z2r s_n s (fun c0_ c1_ => some ((AV.v (TV.one (At.sl 0 0 c0_ 1))), [(Blk.mk Bool.true (Body.fl .f32 c1_))])) := by kernel_rfl
theorem zc1 : SumOne Try.prog 80 z6a := sum_of (Γ := Γ0) (fuel := 8) (d := 8) tyTab_ok (FnL.ok fnTab_ok _ _) (LpL.ok lt0_ok) (SumL.ok tb0_ok fnTab_ok _) mixed (by
  intro pts v news hp hc
  clear hc
  unfold z6a at hp
  split at hp
  · rename_i s_n s
    exact Eq.trans (Eq.trans (zd2 s_n s) (zbp s_n s (z35 s_n s) rfl (zci s_n s) (fun c0_ c1_ => some (c0_, c1_)))) (fin_out (o := (z35 s_n s)) (x := z2c s_n s) (d := default) (V := fun r => ((AV.v (TV.one (At.sl 0 0 r.1 1))), [(Blk.mk Bool.true (Body.fl .f32 r.2))])) (fun r => rfl) hp)
  · cases hp)
noncomputable def zav : List PT → Option (Bool × AV × List Blk)
  | [.one (.s (.flt .f64 a)), .one (.s (.flt .f64 b))] => some ((z8r a b), ((AV.v (TV.one (At.bool (z7m a b)))), []))
  | _ => none
def zcn (a : Nat) (b : Nat) : Option (Bool) → Option (AV × List Blk)
  | some r => some ((AV.v (TV.one (At.bool r))), [])
  | none => none
theorem zga (a : Nat) (b : Nat) : evFn Γ0 8 8 83 (impTs 0 [.one (.s (.flt .f64 a)), .one (.s (.flt .f64 b))]).1 (impTs 0 [.one (.s (.flt .f64 a)), .one (.s (.flt .f64 b))]).2 (expo (impTs 0 [.one (.s (.flt .f64 a)), .one (.s (.flt .f64 b))]).2.length) = z59 a b (fun c0_ => some ((AV.v (TV.one (At.bool c0_))), [])) := by kernel_rfl
theorem zev : SumOne Try.prog 83 zav := sum_of (Γ := Γ0) (fuel := 8) (d := 8) tyTab_ok (FnL.ok fnTab_ok _ _) (LpL.ok lt0_ok) (SumL.ok tb0_ok fnTab_ok _) mixed (by
  intro pts v news hp hc
  clear hc
  unfold zav at hp
  split at hp
  · rename_i a b
    exact Eq.trans (Eq.trans (zga a b) (zed a b (zcn a b) rfl (fun c0_ => some c0_))) (fin_out (o := (zcn a b)) (x := z50 a b) (d := default) (V := fun r => ((AV.v (TV.one (At.bool r))), [])) (fun r => rfl) hp)
  · cases hp)
noncomputable def tb1 : List (Nat × (List PT → Option (Bool × AV × List Blk))) := (37, zb7) :: (45, zao) :: (47, zc3) :: (63, zaw) :: (67, zba) :: (80, z6a) :: (83, zav) :: tb0
noncomputable def lt1 : List ((Nat × Nat) × (Nat → St → Option (Bool × LO))) := lt0
noncomputable def Γ1 : Ctx := ⟨tyTab, fnTab, tblSum tb1, tblLp lt1⟩
theorem tb1_ok : SumL Try.prog tb1 := SumL.cons zfi (SumL.cons ze4 (SumL.cons zgg (SumL.cons zeo (SumL.cons zf8 (SumL.cons zc1 (SumL.cons zev (tb0_ok)))))))
theorem lt1_ok : LpL Try.prog fnTab lt1 := lt0_ok
noncomputable def zax : List PT → Option (Bool × AV × List Blk)
  | [.agg [.row 1 q07 (.fl .f32 q0c), .row 1 q0a (.fl .f32 q0d), .row 1 q0b (.fl .f32 q0e)], .one (.s (.int .i64 q14))] => some ((z93 q07 q0c q0a q0d q0b q0e q14), ((AV.v (TV.one (At.int .i64 (z7g q07 q0c q0a q0d q0b q0e q14)))), []))
  | _ => none
def zcj (q07 : Nat) (q0c : List Nat) (q0a : Nat) (q0d : List Nat) (q0b : Nat) (q0e : List Nat) (q14 : Int) : Option (Int) → Option (AV × List Blk)
  | some r => some ((AV.v (TV.one (At.int .i64 r))), [])
  | none => none
theorem zgf (q07 : Nat) (q0c : List Nat) (q0a : Nat) (q0d : List Nat) (q0b : Nat) (q0e : List Nat) (q14 : Int) : evFn Γ1 8 8 19 (impTs 0 [.agg [.row 1 q07 (.fl .f32 q0c), .row 1 q0a (.fl .f32 q0d), .row 1 q0b (.fl .f32 q0e)], .one (.s (.int .i64 q14))]).1 (impTs 0 [.agg [.row 1 q07 (.fl .f32 q0c), .row 1 q0a (.fl .f32 q0d), .row 1 q0b (.fl .f32 q0e)], .one (.s (.int .i64 q14))]).2 (expo (impTs 0 [.agg [.row 1 q07 (.fl .f32 q0c), .row 1 q0a (.fl .f32 q0d), .row 1 q0b (.fl .f32 q0e)], .one (.s (.int .i64 q14))]).2.length) = z51 q07 q0c q0a q0d q0b q0e q14 (fun c0_ => some ((AV.v (TV.one (At.int .i64 c0_))), [])) := by kernel_rfl
theorem zex : SumOne Try.prog 19 zax := sum_of (Γ := Γ1) (fuel := 8) (d := 8) tyTab_ok (FnL.ok fnTab_ok _ _) (LpL.ok lt1_ok) (SumL.ok tb1_ok fnTab_ok _) mixed (by
  intro pts v news hp hc
  clear hc
  unfold zax at hp
  split at hp
  · rename_i q07 q0c q0a q0d q0b q0e q14
    exact Eq.trans (Eq.trans (zgf q07 q0c q0a q0d q0b q0e q14) (ze6 q07 q0c q0a q0d q0b q0e q14 (zcj q07 q0c q0a q0d q0b q0e q14) rfl (fun c0_ => some c0_))) (fin_out (o := (zcj q07 q0c q0a q0d q0b q0e q14)) (x := z56 q07 q0c q0a q0d q0b q0e q14) (d := default) (V := fun r => ((AV.v (TV.one (At.int .i64 r))), [])) (fun r => rfl) hp)
  · cases hp)
noncomputable def za8 : List PT → Option (Bool × AV × List Blk)
  | [.agg [.row 1 q0o (.fl .f32 q0r), .row 1 q0q (.fl .f32 q0w), .row 1 q0p (.fl .f32 q0x)]] => some ((z6o q0o q0r q0q q0w q0p q0x), ((AV.v (TV.agg [(At.sl 0 0 (z27 q0o q0r q0q q0w q0p q0x) 1), (At.sl 1 0 (z2a q0o q0r q0q q0w q0p q0x) 1), (At.sl 2 0 (z29 q0o q0r q0q q0w q0p q0x) 1)])), [(Blk.mk Bool.true (Body.fl .f32 (z2w q0o q0r q0q q0w q0p q0x))), (Blk.mk Bool.true (Body.fl .f32 (z2y q0o q0r q0q q0w q0p q0x))), (Blk.mk Bool.true (Body.fl .f32 (z2v q0o q0r q0q q0w q0p q0x)))]))
  | _ => none
def zbt (q0o : Nat) (q0r : List Nat) (q0q : Nat) (q0w : List Nat) (q0p : Nat) (q0x : List Nat) : Option (Nat × Nat × Nat × (List Nat) × (List Nat) × (List Nat)) → Option (AV × List Blk)
  | some r => some ((AV.v (TV.agg [(At.sl 0 0 r.1 1), (At.sl 1 0 r.2.1 1), (At.sl 2 0 r.2.2.1 1)])), [(Blk.mk Bool.true (Body.fl .f32 r.2.2.2.1)), (Blk.mk Bool.true (Body.fl .f32 r.2.2.2.2.1)), (Blk.mk Bool.true (Body.fl .f32 r.2.2.2.2.2))])
  | none => none
theorem zfg (q0o : Nat) (q0r : List Nat) (q0q : Nat) (q0w : List Nat) (q0p : Nat) (q0x : List Nat) : evFn Γ1 8 8 53 (impTs 0 [.agg [.row 1 q0o (.fl .f32 q0r), .row 1 q0q (.fl .f32 q0w), .row 1 q0p (.fl .f32 q0x)]]).1 (impTs 0 [.agg [.row 1 q0o (.fl .f32 q0r), .row 1 q0q (.fl .f32 q0w), .row 1 q0p (.fl .f32 q0x)]]).2 (expo (impTs 0 [.agg [.row 1 q0o (.fl .f32 q0r), .row 1 q0q (.fl .f32 q0w), .row 1 q0p (.fl .f32 q0x)]]).2.length) = z3o q0o q0r q0q q0w q0p q0x (fun c0_ c1_ c2_ c3_ c4_ c5_ => some ((AV.v (TV.agg [(At.sl 0 0 c0_ 1), (At.sl 1 0 c1_ 1), (At.sl 2 0 c2_ 1)])), [(Blk.mk Bool.true (Body.fl .f32 c3_)), (Blk.mk Bool.true (Body.fl .f32 c4_)), (Blk.mk Bool.true (Body.fl .f32 c5_))])) := by kernel_rfl
theorem zdy : SumOne Try.prog 53 za8 := sum_of (Γ := Γ1) (fuel := 8) (d := 8) tyTab_ok (FnL.ok fnTab_ok _ _) (LpL.ok lt1_ok) (SumL.ok tb1_ok fnTab_ok _) mixed (by
  intro pts v news hp hc
  clear hc
  unfold za8 at hp
  split at hp
  · rename_i q0o q0r q0q q0w q0p q0x
    exact Eq.trans (Eq.trans (zfg q0o q0r q0q q0w q0p q0x) (zdf q0o q0r q0q q0w q0p q0x (zbt q0o q0r q0q q0w q0p q0x) rfl (fun c0_ c1_ c2_ c3_ c4_ c5_ => some (c0_, c1_, c2_, c3_, c4_, c5_)))) (fin_out (o := (zbt q0o q0r q0q q0w q0p q0x)) (x := z1m q0o q0r q0q q0w q0p q0x) (d := default) (V := fun r => ((AV.v (TV.agg [(At.sl 0 0 r.1 1), (At.sl 1 0 r.2.1 1), (At.sl 2 0 r.2.2.1 1)])), [(Blk.mk Bool.true (Body.fl .f32 r.2.2.2.1)), (Blk.mk Bool.true (Body.fl .f32 r.2.2.2.2.1)), (Blk.mk Bool.true (Body.fl .f32 r.2.2.2.2.2))])) (fun r => rfl) hp)
  · cases hp)
noncomputable def zbj : List PT → Option (Bool × AV × List Blk)
  | [.one (.s (.flt .f32 x))] => some ((zaj x), ((AV.v (TV.one (At.bool (z9y x)))), []))
  | _ => none
def zdq (x : Nat) : Option (Bool) → Option (AV × List Blk)
  | some r => some ((AV.v (TV.one (At.bool r))), [])
  | none => none
theorem zgu (x : Nat) : evFn Γ1 8 8 70 (impTs 0 [.one (.s (.flt .f32 x))]).1 (impTs 0 [.one (.s (.flt .f32 x))]).2 (expo (impTs 0 [.one (.s (.flt .f32 x))]).2.length) = z5w x (fun c0_ => some ((AV.v (TV.one (At.bool c0_))), [])) := by kernel_rfl
theorem zfw : SumOne Try.prog 70 zbj := sum_of (Γ := Γ1) (fuel := 8) (d := 8) tyTab_ok (FnL.ok fnTab_ok _ _) (LpL.ok lt1_ok) (SumL.ok tb1_ok fnTab_ok _) mixed (by
  intro pts v news hp hc
  clear hc
  unfold zbj at hp
  split at hp
  · rename_i x
    exact Eq.trans (Eq.trans (zgu x) (zfa x (zdq x) rfl (fun c0_ => some c0_))) (fin_out (o := (zdq x)) (x := z5v x) (d := default) (V := fun r => ((AV.v (TV.one (At.bool r))), [])) (fun r => rfl) hp)
  · cases hp)
noncomputable def zb5 : List PT → Option (Bool × AV × List Blk)
  | [.one (.s (.flt .f32 x))] => some ((z47 x), ((AV.v (TV.one (At.bool (z3l x)))), []))
  | _ => none
def zd4 (x : Nat) : Option (Bool) → Option (AV × List Blk)
  | some r => some ((AV.v (TV.one (At.bool r))), [])
  | none => none
theorem zgr (x : Nat) : evFn Γ1 8 8 77 (impTs 0 [.one (.s (.flt .f32 x))]).1 (impTs 0 [.one (.s (.flt .f32 x))]).2 (expo (impTs 0 [.one (.s (.flt .f32 x))]).2.length) = z5j x (fun c0_ => some ((AV.v (TV.one (At.bool c0_))), [])) := by kernel_rfl
theorem zf9 : SumOne Try.prog 77 zb5 := sum_of (Γ := Γ1) (fuel := 8) (d := 8) tyTab_ok (FnL.ok fnTab_ok _ _) (LpL.ok lt1_ok) (SumL.ok tb1_ok fnTab_ok _) mixed (by
  intro pts v news hp hc
  clear hc
  unfold zb5 at hp
  split at hp
  · rename_i x
    exact Eq.trans (Eq.trans (zgr x) (zf3 x (zd4 x) rfl (fun c0_ => some c0_))) (fin_out (o := (zd4 x)) (x := z5f x) (d := default) (V := fun r => ((AV.v (TV.one (At.bool r))), [])) (fun r => rfl) hp)
  · cases hp)
noncomputable def zaf : List PT → Option (Bool × AV × List Blk)
  | [.one (.s (.flt .f32 x))] => some ((z6f x), ((AV.v (TV.one (At.bool (z63 x)))), []))
  | _ => none
def zbo (x : Nat) : Option (Bool) → Option (AV × List Blk)
  | some r => some ((AV.v (TV.one (At.bool r))), [])
  | none => none
theorem zfk (x : Nat) : evFn Γ1 8 8 94 (impTs 0 [.one (.s (.flt .f32 x))]).1 (impTs 0 [.one (.s (.flt .f32 x))]).2 (expo (impTs 0 [.one (.s (.flt .f32 x))]).2.length) = z3r x (fun c0_ => some ((AV.v (TV.one (At.bool c0_))), [])) := by kernel_rfl
theorem zdt : SumOne Try.prog 94 zaf := sum_of (Γ := Γ1) (fuel := 8) (d := 8) tyTab_ok (FnL.ok fnTab_ok _ _) (LpL.ok lt1_ok) (SumL.ok tb1_ok fnTab_ok _) mixed (by
  intro pts v news hp hc
  clear hc
  unfold zaf at hp
  split at hp
  · rename_i x
    exact Eq.trans (Eq.trans (zfk x) (zdd x (zbo x) rfl (fun c0_ => some c0_))) (fin_out (o := (zbo x)) (x := z3z x) (d := default) (V := fun r => ((AV.v (TV.one (At.bool r))), [])) (fun r => rfl) hp)
  · cases hp)
noncomputable def zau (an : Nat) (q1a : Nat) (i : Int) (b0 : List Nat) (b1 : List Nat) : Bool × LO := ((z4d an q1a b0 i b1), (LO.one (Ex.exit 0) (St.mk [(0, (AV.v (TV.one (At.vw 0 0 an 1)))), (3, (AV.v (TV.one (At.sl 1 0 q1a 1)))), (4, (AV.v (TV.one (At.int .i64 (z6c an q1a b0 i b1))))), (11, (AV.v (TV.one (At.bool (z67 an q1a b0 i b1)))))] [(Blk.mk Bool.false (Body.fl .f32 b0)), (Blk.mk Bool.true (Body.fl .f32 (z36 an q1a b0 i b1)))])))
noncomputable def zb6 : Nat → St → Option (Bool × LO) := lpT 1 (pSt [(pTm 0 (pV (pOne (pVw 0 (liN 0) 1)))), (pTm 3 (pV (pOne (pSl 1 (liN 0) 1)))), (pTm 4 (pV (pOne (pInt .i64))))] [(pBlk Bool.false (pFl .f32)), (pBlk Bool.true (pFl .f32))]) (fun hs => zau (hvN (hGet hs 0)) (hvN (hGet hs 1)) (hvI (hGet hs 2)) (hvLn (hGet hs 3)) (hvLn (hGet hs 4)))
def z5r (an : Nat) (q1a : Nat) (b0 : List Nat) : Option ((Int × Bool × (List Nat))) → Option (Ex × St)
  | none => none
  | some r => some ((Ex.exit 0), (St.mk [(0, (AV.v (TV.one (At.vw 0 0 an 1)))), (3, (AV.v (TV.one (At.sl 1 0 q1a 1)))), (4, (AV.v (TV.one (At.int .i64 r.1)))), (11, (AV.v (TV.one (At.bool r.2.1))))] [(Blk.mk Bool.false (Body.fl .f32 b0)), (Blk.mk Bool.true (Body.fl .f32 r.2.2))]))
def ze2 (an : Nat) (q1a : Nat) (b0 : List Nat) (x : Option ((Int × Bool × (List Nat)))) : LO := (LO.one (Ex.exit 0) (St.mk [(0, (AV.v (TV.one (At.vw 0 0 an 1)))), (3, (AV.v (TV.one (At.sl 1 0 q1a 1)))), (4, (AV.v (TV.one (At.int .i64 (x.getD default).1)))), (11, (AV.v (TV.one (At.bool (x.getD default).2.1))))] [(Blk.mk Bool.false (Body.fl .f32 b0)), (Blk.mk Bool.true (Body.fl .f32 (x.getD default).2.2))]))
theorem zea (an : Nat) (q1a : Nat) (b0 : List Nat) : ∀ x : Option ((Int × Bool × (List Nat))), x.isSome = true → (z5r an q1a b0) x = some (pick (ze2 an q1a b0 x))
  | none, h => by cases h
  | some r, _ => rfl
theorem ze3 (an : Nat) (q1a : Nat) (i : Int) (b0 : List Nat) (b1 : List Nat) (K : Ex → St → Option (Ex × St)) : evC (R := Ex × St) Γ1 (evFn Γ1 8 8) 50 1 fi50.nt fi50.live fi50.nl 8 (findL 3 (loopsIn fi50.code)) (St.mk [(0, (AV.v (TV.one (At.vw 0 0 an 1)))), (3, (AV.v (TV.one (At.sl 1 0 q1a 1)))), (4, (AV.v (TV.one (At.int .i64 i))))] [(Blk.mk Bool.false (Body.fl .f32 b0)), (Blk.mk Bool.true (Body.fl .f32 b1))]) K = z21 an q1a b0 i b1 (fun i' b1' => K .normal (St.mk [(0, (AV.v (TV.one (At.vw 0 0 an 1)))), (3, (AV.v (TV.one (At.sl 1 0 q1a 1)))), (4, (AV.v (TV.one (At.int .i64 i'))))] [(Blk.mk Bool.false (Body.fl .f32 b0)), (Blk.mk Bool.true (Body.fl .f32 b1'))])) (fun c0_ c1_ c2_ => K (Ex.exit 0) (St.mk [(0, (AV.v (TV.one (At.vw 0 0 an 1)))), (3, (AV.v (TV.one (At.sl 1 0 q1a 1)))), (4, (AV.v (TV.one (At.int .i64 c0_)))), (11, (AV.v (TV.one (At.bool c1_))))] [(Blk.mk Bool.false (Body.fl .f32 b0)), (Blk.mk Bool.true (Body.fl .f32 c2_))])) := by kernel_rfl
theorem zee (an : Nat) (q1a : Nat) (b0 : List Nat) : ∀ (n : Nat) (i : Int) (b1 : List Nat), iter 50 3 1 (evC (R := Ex × St) Γ1 (evFn Γ1 8 8) 50 1 fi50.nt fi50.live fi50.nl 8 (findL 3 (loopsIn fi50.code))) n (St.mk [(0, (AV.v (TV.one (At.vw 0 0 an 1)))), (3, (AV.v (TV.one (At.sl 1 0 q1a 1)))), (4, (AV.v (TV.one (At.int .i64 i))))] [(Blk.mk Bool.false (Body.fl .f32 b0)), (Blk.mk Bool.true (Body.fl .f32 b1))]) (fun e st => some (e, st)) = (z5r an q1a b0) (z18 an q1a b0 n i b1) := by
  intro n
  induction n with
  | zero => intros; rfl
  | succ n ih =>
    intro i b1
    refine Eq.trans (iter_succ ..) (Eq.trans (ze3 an q1a i b0 b1 (nextK 50 3 1 (evC (R := Ex × St) Γ1 (evFn Γ1 8 8) 50 1 fi50.nt fi50.live fi50.nl 8 (findL 3 (loopsIn fi50.code))) n (fun e st => some (e, st)))) (Eq.trans ?_ (zco an q1a b0 i b1 (z5r an q1a b0) rfl (fun i' b1' => z18 an q1a b0 n i' b1') (fun c0_ c1_ c2_ => some (c0_, c1_, c2_)))))
    exact congrArg (fun kn_ => z21 an q1a b0 i b1 kn_ (fun c0_ c1_ c2_ => (z5r an q1a b0) (some (c0_, c1_, c2_)))) (funext fun i' => funext fun b1' => ih i' b1')
theorem zcx : LoopOne Try.prog fnTab 50 3 zb6 := lp_of (Γ := Γ1) tyTab_ok (FnL.ok fnTab_ok _ _) (LpL.ok lt1_ok) (SumL.ok tb1_ok fnTab_ok _) mixed (fi := fi50) (by kernel_rfl) (by kernel_rfl) (by
  intro lo st out hp
  obtain ⟨hs, e1, e2, e3⟩ := lpT_inv hp
  clear hp
  obtain rfl : st = (St.mk [(0, (AV.v (TV.one (At.vw 0 0 (hvN (hGet hs 0)) 1)))), (3, (AV.v (TV.one (At.sl 1 0 (hvN (hGet hs 1)) 1)))), (4, (AV.v (TV.one (At.int .i64 (hvI (hGet hs 2))))))] [(Blk.mk Bool.false (Body.fl .f32 (hvLn (hGet hs 3)))), (Blk.mk Bool.true (Body.fl .f32 (hvLn (hGet hs 4))))]) := e2.trans (by kernel_rfl)
  clear e2
  subst e1
  unfold zau at e3
  injection e3 with h1 h2
  subst h2
  exact ⟨8, 8, big, Eq.trans (zee (hvN (hGet hs 0)) (hvN (hGet hs 1)) (hvLn (hGet hs 3)) big (hvI (hGet hs 2)) (hvLn (hGet hs 4))) (zea (hvN (hGet hs 0)) (hvN (hGet hs 1)) (hvLn (hGet hs 3)) (z18 (hvN (hGet hs 0)) (hvN (hGet hs 1)) (hvLn (hGet hs 3)) big (hvI (hGet hs 2)) (hvLn (hGet hs 4))) h1)⟩)
noncomputable def za7 (an : Nat) (k : Int) (i : Int) (b0 : List Nat) : Bool × LO := ((z5a an b0 k i), (LO.two (z4v an b0 k i) (LO.one Ex.ret (St.mk [(4, (AV.v (TV.one (At.int .i64 (Int.negSucc 0)))))] [(Blk.mk Bool.false (Body.fl .f32 b0))])) (LO.one (Ex.exit 0) (St.mk [(0, (AV.v (TV.one (At.vw 0 0 an 1)))), (1, (AV.v (TV.one (At.int .i64 (z42 an b0 k i))))), (5, (AV.v (TV.one (At.int .i64 (z5p an b0 k i))))), (9, (AV.v (TV.one (At.bool (z5s an b0 k i)))))] [(Blk.mk Bool.false (Body.fl .f32 b0))]))))
noncomputable def zas : Nat → St → Option (Bool × LO) := lpT 1 (pSt [(pTm 0 (pV (pOne (pVw 0 (liN 0) 1)))), (pTm 1 (pV (pOne (pInt .i64)))), (pTm 5 (pV (pOne (pInt .i64))))] [(pBlk Bool.false (pFl .f32))]) (fun hs => za7 (hvN (hGet hs 0)) (hvI (hGet hs 1)) (hvI (hGet hs 2)) (hvLn (hGet hs 3)))
def z3h (an : Nat) (b0 : List Nat) : Option ((Unit) ⊕ (Int × Int × Bool)) → Option (Ex × St)
  | none => none
  | some (Sum.inl r) => some (Ex.ret, (St.mk [(4, (AV.v (TV.one (At.int .i64 (Int.negSucc 0)))))] [(Blk.mk Bool.false (Body.fl .f32 b0))]))
  | some (Sum.inr r) => some ((Ex.exit 0), (St.mk [(0, (AV.v (TV.one (At.vw 0 0 an 1)))), (1, (AV.v (TV.one (At.int .i64 r.1)))), (5, (AV.v (TV.one (At.int .i64 r.2.1)))), (9, (AV.v (TV.one (At.bool r.2.2))))] [(Blk.mk Bool.false (Body.fl .f32 b0))]))
def zd0 (an : Nat) (b0 : List Nat) (x : Option ((Unit) ⊕ (Int × Int × Bool))) : LO := (LO.two (oL x) (LO.one Ex.ret (St.mk [(4, (AV.v (TV.one (At.int .i64 (Int.negSucc 0)))))] [(Blk.mk Bool.false (Body.fl .f32 b0))])) (LO.one (Ex.exit 0) (St.mk [(0, (AV.v (TV.one (At.vw 0 0 an 1)))), (1, (AV.v (TV.one (At.int .i64 ((tR x).getD default).1)))), (5, (AV.v (TV.one (At.int .i64 ((tR x).getD default).2.1)))), (9, (AV.v (TV.one (At.bool ((tR x).getD default).2.2))))] [(Blk.mk Bool.false (Body.fl .f32 b0))])))
theorem zdc (an : Nat) (b0 : List Nat) : ∀ x : Option ((Unit) ⊕ (Int × Int × Bool)), x.isSome = true → (z3h an b0) x = some (pick (zd0 an b0 x))
  | none, h => by cases h
  | some (Sum.inl r), _ => rfl
  | some (Sum.inr r), _ => rfl
theorem zda (an : Nat) (k : Int) (i : Int) (b0 : List Nat) (K : Ex → St → Option (Ex × St)) : evC (R := Ex × St) Γ1 (evFn Γ1 8 8) 58 1 fi58.nt fi58.live fi58.nl 8 (findL 2 (loopsIn fi58.code)) (St.mk [(0, (AV.v (TV.one (At.vw 0 0 an 1)))), (1, (AV.v (TV.one (At.int .i64 k)))), (5, (AV.v (TV.one (At.int .i64 i))))] [(Blk.mk Bool.false (Body.fl .f32 b0))]) K = z1k an b0 k i (fun k' i' => K .normal (St.mk [(0, (AV.v (TV.one (At.vw 0 0 an 1)))), (1, (AV.v (TV.one (At.int .i64 k')))), (5, (AV.v (TV.one (At.int .i64 i'))))] [(Blk.mk Bool.false (Body.fl .f32 b0))])) (fun _ => K Ex.ret (St.mk [(4, (AV.v (TV.one (At.int .i64 (Int.negSucc 0)))))] [(Blk.mk Bool.false (Body.fl .f32 b0))])) (fun c0_ c1_ c2_ => K (Ex.exit 0) (St.mk [(0, (AV.v (TV.one (At.vw 0 0 an 1)))), (1, (AV.v (TV.one (At.int .i64 c0_)))), (5, (AV.v (TV.one (At.int .i64 c1_)))), (9, (AV.v (TV.one (At.bool c2_))))] [(Blk.mk Bool.false (Body.fl .f32 b0))])) := by kernel_rfl
theorem zdi (an : Nat) (b0 : List Nat) : ∀ (n : Nat) (k : Int) (i : Int), iter 58 2 1 (evC (R := Ex × St) Γ1 (evFn Γ1 8 8) 58 1 fi58.nt fi58.live fi58.nl 8 (findL 2 (loopsIn fi58.code))) n (St.mk [(0, (AV.v (TV.one (At.vw 0 0 an 1)))), (1, (AV.v (TV.one (At.int .i64 k)))), (5, (AV.v (TV.one (At.int .i64 i))))] [(Blk.mk Bool.false (Body.fl .f32 b0))]) (fun e st => some (e, st)) = (z3h an b0) (z0h an b0 n k i) := by
  intro n
  induction n with
  | zero => intros; rfl
  | succ n ih =>
    intro k i
    refine Eq.trans (iter_succ ..) (Eq.trans (zda an k i b0 (nextK 58 2 1 (evC (R := Ex × St) Γ1 (evFn Γ1 8 8) 58 1 fi58.nt fi58.live fi58.nl 8 (findL 2 (loopsIn fi58.code))) n (fun e st => some (e, st)))) (Eq.trans ?_ (zbz an b0 k i (z3h an b0) rfl (fun k' i' => z0h an b0 n k' i') (fun _ => some (Sum.inl ())) (fun c0_ c1_ c2_ => some (Sum.inr (c0_, c1_, c2_))))))
    exact congrArg (fun kn_ => z1k an b0 k i kn_ (fun _ => (z3h an b0) (some (Sum.inl ()))) (fun c0_ c1_ c2_ => (z3h an b0) (some (Sum.inr (c0_, c1_, c2_))))) (funext fun k' => funext fun i' => ih k' i')
theorem zcf : LoopOne Try.prog fnTab 58 2 zas := lp_of (Γ := Γ1) tyTab_ok (FnL.ok fnTab_ok _ _) (LpL.ok lt1_ok) (SumL.ok tb1_ok fnTab_ok _) mixed (fi := fi58) (by kernel_rfl) (by kernel_rfl) (by
  intro lo st out hp
  obtain ⟨hs, e1, e2, e3⟩ := lpT_inv hp
  clear hp
  obtain rfl : st = (St.mk [(0, (AV.v (TV.one (At.vw 0 0 (hvN (hGet hs 0)) 1)))), (1, (AV.v (TV.one (At.int .i64 (hvI (hGet hs 1)))))), (5, (AV.v (TV.one (At.int .i64 (hvI (hGet hs 2))))))] [(Blk.mk Bool.false (Body.fl .f32 (hvLn (hGet hs 3))))]) := e2.trans (by kernel_rfl)
  clear e2
  subst e1
  unfold za7 at e3
  injection e3 with h1 h2
  subst h2
  exact ⟨8, 8, big, Eq.trans (zdi (hvN (hGet hs 0)) (hvLn (hGet hs 3)) big (hvI (hGet hs 1)) (hvI (hGet hs 2))) (zdc (hvN (hGet hs 0)) (hvLn (hGet hs 3)) (z0h (hvN (hGet hs 0)) (hvLn (hGet hs 3)) big (hvI (hGet hs 1)) (hvI (hGet hs 2))) h1)⟩)
noncomputable def z7t (sn : Nat) (v : Nat) (t7 : Int) (t8 : Int) (b0 : List Nat) : Bool × LO := ((z1f sn v t7 b0 t8), (LO.two (z1d sn v t7 b0 t8) (LO.one Ex.ret (St.mk [(4, (AV.v (TV.one (At.int .i64 (z2k sn v t7 b0 t8)))))] [(Blk.mk Bool.false (Body.fl .f32 b0))])) (LO.one (Ex.exit 0) (St.mk [(0, (AV.v (TV.one (At.vw 0 0 sn 1)))), (1, (AV.v (TV.one (At.flt .f32 v)))), (7, (AV.v (TV.one (At.int .i64 t7)))), (8, (AV.v (TV.one (At.int .i64 (z4u sn v t7 b0 t8))))), (9, (AV.v (TV.one (At.bool (z4t sn v t7 b0 t8)))))] [(Blk.mk Bool.false (Body.fl .f32 b0))]))))
noncomputable def z9a : Nat → St → Option (Bool × LO) := lpT 1 (pSt [(pTm 0 (pV (pOne (pVw 0 (liN 0) 1)))), (pTm 1 (pV (pOne (pFlt .f32)))), (pTm 7 (pV (pOne (pInt .i64)))), (pTm 8 (pV (pOne (pInt .i64))))] [(pBlk Bool.false (pFl .f32))]) (fun hs => z7t (hvN (hGet hs 0)) (hvN (hGet hs 1)) (hvI (hGet hs 2)) (hvI (hGet hs 3)) (hvLn (hGet hs 4)))
def z2t (sn : Nat) (v : Nat) (t7 : Int) (b0 : List Nat) : Option ((Int) ⊕ (Int × Bool)) → Option (Ex × St)
  | none => none
  | some (Sum.inl r) => some (Ex.ret, (St.mk [(4, (AV.v (TV.one (At.int .i64 r))))] [(Blk.mk Bool.false (Body.fl .f32 b0))]))
  | some (Sum.inr r) => some ((Ex.exit 0), (St.mk [(0, (AV.v (TV.one (At.vw 0 0 sn 1)))), (1, (AV.v (TV.one (At.flt .f32 v)))), (7, (AV.v (TV.one (At.int .i64 t7)))), (8, (AV.v (TV.one (At.int .i64 r.1)))), (9, (AV.v (TV.one (At.bool r.2))))] [(Blk.mk Bool.false (Body.fl .f32 b0))]))
def zbs (sn : Nat) (v : Nat) (t7 : Int) (b0 : List Nat) (x : Option ((Int) ⊕ (Int × Bool))) : LO := (LO.two (oL x) (LO.one Ex.ret (St.mk [(4, (AV.v (TV.one (At.int .i64 ((tL x).getD default)))))] [(Blk.mk Bool.false (Body.fl .f32 b0))])) (LO.one (Ex.exit 0) (St.mk [(0, (AV.v (TV.one (At.vw 0 0 sn 1)))), (1, (AV.v (TV.one (At.flt .f32 v)))), (7, (AV.v (TV.one (At.int .i64 t7)))), (8, (AV.v (TV.one (At.int .i64 ((tR x).getD default).1)))), (9, (AV.v (TV.one (At.bool ((tR x).getD default).2))))] [(Blk.mk Bool.false (Body.fl .f32 b0))])))
theorem zbv (sn : Nat) (v : Nat) (t7 : Int) (b0 : List Nat) : ∀ x : Option ((Int) ⊕ (Int × Bool)), x.isSome = true → (z2t sn v t7 b0) x = some (pick (zbs sn v t7 b0 x))
  | none, h => by cases h
  | some (Sum.inl r), _ => rfl
  | some (Sum.inr r), _ => rfl
theorem zc2 (sn : Nat) (v : Nat) (t7 : Int) (t8 : Int) (b0 : List Nat) (K : Ex → St → Option (Ex × St)) : evC (R := Ex × St) Γ1 (evFn Γ1 8 8) 79 1 fi79.nt fi79.live fi79.nl 8 (findL 2 (loopsIn fi79.code)) (St.mk [(0, (AV.v (TV.one (At.vw 0 0 sn 1)))), (1, (AV.v (TV.one (At.flt .f32 v)))), (7, (AV.v (TV.one (At.int .i64 t7)))), (8, (AV.v (TV.one (At.int .i64 t8))))] [(Blk.mk Bool.false (Body.fl .f32 b0))]) K = z1a sn v t7 b0 t8 (fun t8' => K .normal (St.mk [(0, (AV.v (TV.one (At.vw 0 0 sn 1)))), (1, (AV.v (TV.one (At.flt .f32 v)))), (7, (AV.v (TV.one (At.int .i64 t7)))), (8, (AV.v (TV.one (At.int .i64 t8'))))] [(Blk.mk Bool.false (Body.fl .f32 b0))])) (fun c0_ => K Ex.ret (St.mk [(4, (AV.v (TV.one (At.int .i64 c0_))))] [(Blk.mk Bool.false (Body.fl .f32 b0))])) (fun c0_ c1_ => K (Ex.exit 0) (St.mk [(0, (AV.v (TV.one (At.vw 0 0 sn 1)))), (1, (AV.v (TV.one (At.flt .f32 v)))), (7, (AV.v (TV.one (At.int .i64 t7)))), (8, (AV.v (TV.one (At.int .i64 c0_)))), (9, (AV.v (TV.one (At.bool c1_))))] [(Blk.mk Bool.false (Body.fl .f32 b0))])) := by kernel_rfl
theorem zc0 (sn : Nat) (v : Nat) (t7 : Int) (b0 : List Nat) : ∀ (n : Nat) (t8 : Int), iter 79 2 1 (evC (R := Ex × St) Γ1 (evFn Γ1 8 8) 79 1 fi79.nt fi79.live fi79.nl 8 (findL 2 (loopsIn fi79.code))) n (St.mk [(0, (AV.v (TV.one (At.vw 0 0 sn 1)))), (1, (AV.v (TV.one (At.flt .f32 v)))), (7, (AV.v (TV.one (At.int .i64 t7)))), (8, (AV.v (TV.one (At.int .i64 t8))))] [(Blk.mk Bool.false (Body.fl .f32 b0))]) (fun e st => some (e, st)) = (z2t sn v t7 b0) (z0g sn v t7 b0 n t8) := by
  intro n
  induction n with
  | zero => intros; rfl
  | succ n ih =>
    intro t8
    refine Eq.trans (iter_succ ..) (Eq.trans (zc2 sn v t7 t8 b0 (nextK 79 2 1 (evC (R := Ex × St) Γ1 (evFn Γ1 8 8) 79 1 fi79.nt fi79.live fi79.nl 8 (findL 2 (loopsIn fi79.code))) n (fun e st => some (e, st)))) (Eq.trans ?_ (zbb sn v t7 b0 t8 (z2t sn v t7 b0) rfl (fun t8' => z0g sn v t7 b0 n t8') (fun c0_ => some (Sum.inl c0_)) (fun c0_ c1_ => some (Sum.inr (c0_, c1_))))))
    exact congrArg (fun kn_ => z1a sn v t7 b0 t8 kn_ (fun c0_ => (z2t sn v t7 b0) (some (Sum.inl c0_))) (fun c0_ c1_ => (z2t sn v t7 b0) (some (Sum.inr (c0_, c1_))))) (funext fun t8' => ih t8')
theorem zbe : LoopOne Try.prog fnTab 79 2 z9a := lp_of (Γ := Γ1) tyTab_ok (FnL.ok fnTab_ok _ _) (LpL.ok lt1_ok) (SumL.ok tb1_ok fnTab_ok _) mixed (fi := fi79) (by kernel_rfl) (by kernel_rfl) (by
  intro lo st out hp
  obtain ⟨hs, e1, e2, e3⟩ := lpT_inv hp
  clear hp
  obtain rfl : st = (St.mk [(0, (AV.v (TV.one (At.vw 0 0 (hvN (hGet hs 0)) 1)))), (1, (AV.v (TV.one (At.flt .f32 (hvN (hGet hs 1)))))), (7, (AV.v (TV.one (At.int .i64 (hvI (hGet hs 2)))))), (8, (AV.v (TV.one (At.int .i64 (hvI (hGet hs 3))))))] [(Blk.mk Bool.false (Body.fl .f32 (hvLn (hGet hs 4))))]) := e2.trans (by kernel_rfl)
  clear e2
  subst e1
  unfold z7t at e3
  injection e3 with h1 h2
  subst h2
  exact ⟨8, 8, big, Eq.trans (zc0 (hvN (hGet hs 0)) (hvN (hGet hs 1)) (hvI (hGet hs 2)) (hvLn (hGet hs 4)) big (hvI (hGet hs 3))) (zbv (hvN (hGet hs 0)) (hvN (hGet hs 1)) (hvI (hGet hs 2)) (hvLn (hGet hs 4)) (z0g (hvN (hGet hs 0)) (hvN (hGet hs 1)) (hvI (hGet hs 2)) (hvLn (hGet hs 4)) big (hvI (hGet hs 3))) h1)⟩)
noncomputable def tb2 : List (Nat × (List PT → Option (Bool × AV × List Blk))) := (19, zax) :: (53, za8) :: (70, zbj) :: (77, zb5) :: (94, zaf) :: tb1
noncomputable def lt2 : List ((Nat × Nat) × (Nat → St → Option (Bool × LO))) := ((50, 3), zb6) :: ((58, 2), zas) :: ((79, 2), z9a) :: lt1
noncomputable def Γ2 : Ctx := ⟨tyTab, fnTab, tblSum tb2, tblLp lt2⟩
theorem tb2_ok : SumL Try.prog tb2 := SumL.cons zex (SumL.cons zdy (SumL.cons zfw (SumL.cons zf9 (SumL.cons zdt (tb1_ok)))))
theorem lt2_ok : LpL Try.prog fnTab lt2 := LpL.cons zcx (LpL.cons zcf (LpL.cons zbe (lt1_ok)))
noncomputable def zap : List PT → Option (Bool × AV × List Blk)
  | [.one (.row 1 a_n (.fl .f32 a))] => some ((z4n a_n a), ((AV.v (TV.one (At.sl 0 0 (z3v a_n a) 1))), [(Blk.mk Bool.true (Body.fl .f32 (z3x a_n a)))]))
  | _ => none
def zc5 (a_n : Nat) (a : List Nat) : Option (Nat × (List Nat)) → Option (AV × List Blk)
  | some r => some ((AV.v (TV.one (At.sl 0 0 r.1 1))), [(Blk.mk Bool.true (Body.fl .f32 r.2))])
  | none => none
theorem zg3 (a_n : Nat) (a : List Nat) : evFn Γ2 8 8 50 (impTs 0 [.one (.row 1 a_n (.fl .f32 a))]).1 (impTs 0 [.one (.row 1 a_n (.fl .f32 a))]).2 (expo (impTs 0 [.one (.row 1 a_n (.fl .f32 a))]).2.length) = z4o a_n a (fun c0_ c1_ => some ((AV.v (TV.one (At.sl 0 0 c0_ 1))), [(Blk.mk Bool.true (Body.fl .f32 c1_))])) := by kernel_rfl
theorem zeh : SumOne Try.prog 50 zap := sum_of (Γ := Γ2) (fuel := 8) (d := 8) tyTab_ok (FnL.ok fnTab_ok _ _) (LpL.ok lt2_ok) (SumL.ok tb2_ok fnTab_ok _) mixed (by
  intro pts v news hp hc
  clear hc
  unfold zap at hp
  split at hp
  · rename_i a_n a
    exact Eq.trans (Eq.trans (zg3 a_n a) (zdr a_n a (zc5 a_n a) rfl (fun c0_ c1_ => some (c0_, c1_)))) (fin_out (o := (zc5 a_n a)) (x := z38 a_n a) (d := default) (V := fun r => ((AV.v (TV.one (At.sl 0 0 r.1 1))), [(Blk.mk Bool.true (Body.fl .f32 r.2))])) (fun r => rfl) hp)
  · cases hp)
noncomputable def z9g : List PT → Option (Bool × AV × List Blk)
  | [.one (.row 1 a_n (.fl .f32 a)), .one (.s (.int .i64 k))] => some ((z3b a_n a k), ((AV.v (TV.one (At.int .i64 (z0m a_n a k)))), []))
  | _ => none
def zbf (a_n : Nat) (a : List Nat) (k : Int) : Option (Int) → Option (AV × List Blk)
  | some r => some ((AV.v (TV.one (At.int .i64 r))), [])
  | none => none
theorem zet (a_n : Nat) (a : List Nat) (k : Int) : evFn Γ2 8 8 58 (impTs 0 [.one (.row 1 a_n (.fl .f32 a)), .one (.s (.int .i64 k))]).1 (impTs 0 [.one (.row 1 a_n (.fl .f32 a)), .one (.s (.int .i64 k))]).2 (expo (impTs 0 [.one (.row 1 a_n (.fl .f32 a)), .one (.s (.int .i64 k))]).2.length) = z3d a_n a k (fun c0_ => some ((AV.v (TV.one (At.int .i64 c0_))), [])) := by kernel_rfl
theorem zdj : SumOne Try.prog 58 z9g := sum_of (Γ := Γ2) (fuel := 8) (d := 8) tyTab_ok (FnL.ok fnTab_ok _ _) (LpL.ok lt2_ok) (SumL.ok tb2_ok fnTab_ok _) mixed (by
  intro pts v news hp hc
  clear hc
  unfold z9g at hp
  split at hp
  · rename_i a_n a k
    exact Eq.trans (Eq.trans (zet a_n a k) (zcy a_n a k (zbf a_n a k) rfl (fun c0_ => some c0_))) (fin_out (o := (zbf a_n a k)) (x := z3f a_n a k) (d := default) (V := fun r => ((AV.v (TV.one (At.int .i64 r))), [])) (fun r => rfl) hp)
  · cases hp)
noncomputable def z66 : List PT → Option (Bool × AV × List Blk)
  | [.one (.row 1 s_n (.fl .f32 s)), .one (.s (.flt .f32 v))] => some ((z4w s_n s v), ((AV.v (TV.one (At.int .i64 (z48 s_n s v)))), []))
  | _ => none
def zal (s_n : Nat) (s : List Nat) (v : Nat) : Option (Int) → Option (AV × List Blk)
  | some r => some ((AV.v (TV.one (At.int .i64 r))), [])
  | none => none
theorem zcw (s_n : Nat) (s : List Nat) (v : Nat) : evFn Γ2 8 8 79 (impTs 0 [.one (.row 1 s_n (.fl .f32 s)), .one (.s (.flt .f32 v))]).1 (impTs 0 [.one (.row 1 s_n (.fl .f32 s)), .one (.s (.flt .f32 v))]).2 (expo (impTs 0 [.one (.row 1 s_n (.fl .f32 s)), .one (.s (.flt .f32 v))]).2.length) = z2e s_n s v (fun c0_ => some ((AV.v (TV.one (At.int .i64 c0_))), [])) := by kernel_rfl
theorem zby : SumOne Try.prog 79 z66 := sum_of (Γ := Γ2) (fuel := 8) (d := 8) tyTab_ok (FnL.ok fnTab_ok _ _) (LpL.ok lt2_ok) (SumL.ok tb2_ok fnTab_ok _) mixed (by
  intro pts v news hp hc
  clear hc
  unfold z66 at hp
  split at hp
  · rename_i s_n s v
    exact Eq.trans (Eq.trans (zcw s_n s v) (zbu s_n s v (zal s_n s v) rfl (fun c0_ => some c0_))) (fin_out (o := (zal s_n s v)) (x := z1t s_n s v) (d := default) (V := fun r => ((AV.v (TV.one (At.int .i64 r))), [])) (fun r => rfl) hp)
  · cases hp)
noncomputable def zam : List PT → Option (Bool × AV × List Blk)
  | [.one (.s (.flt .f32 x))] => some ((z7r x), ((AV.v (TV.one (At.bool (z6l x)))), []))
  | _ => none
def zc6 (x : Nat) : Option (Bool) → Option (AV × List Blk)
  | some r => some ((AV.v (TV.one (At.bool r))), [])
  | none => none
theorem zfz (x : Nat) : evFn Γ2 8 8 98 (impTs 0 [.one (.s (.flt .f32 x))]).1 (impTs 0 [.one (.s (.flt .f32 x))]).2 (expo (impTs 0 [.one (.s (.flt .f32 x))]).2.length) = z4h x (fun c0_ => some ((AV.v (TV.one (At.bool c0_))), [])) := by kernel_rfl
theorem ze7 : SumOne Try.prog 98 zam := sum_of (Γ := Γ2) (fuel := 8) (d := 8) tyTab_ok (FnL.ok fnTab_ok _ _) (LpL.ok lt2_ok) (SumL.ok tb2_ok fnTab_ok _) mixed (by
  intro pts v news hp hc
  clear hc
  unfold zam at hp
  split at hp
  · rename_i x
    exact Eq.trans (Eq.trans (zfz x) (zdm x (zc6 x) rfl (fun c0_ => some c0_))) (fin_out (o := (zc6 x)) (x := z4q x) (d := default) (V := fun r => ((AV.v (TV.one (At.bool r))), [])) (fun r => rfl) hp)
  · cases hp)
noncomputable def zaq (an : Nat) (bn : Nat) (i : Int) (b0 : List Nat) (b1 : List Nat) : Bool × LO := ((z5u an bn b0 b1 i), (LO.two (z5h an bn b0 b1 i) (LO.one Ex.ret (St.mk [(4, (AV.v (TV.one (At.bool Bool.false))))] [(Blk.mk Bool.false (Body.fl .f32 b0)), (Blk.mk Bool.false (Body.fl .f32 b1))])) (LO.one (Ex.exit 0) (St.mk [(0, (AV.v (TV.one (At.vw 0 0 an 1)))), (1, (AV.v (TV.one (At.vw 1 0 bn 1)))), (5, (AV.v (TV.one (At.int .i64 (z6b an bn b0 b1 i))))), (14, (AV.v (TV.one (At.bool (z69 an bn b0 b1 i)))))] [(Blk.mk Bool.false (Body.fl .f32 b0)), (Blk.mk Bool.false (Body.fl .f32 b1))]))))
noncomputable def zb4 : Nat → St → Option (Bool × LO) := lpT 2 (pSt [(pTm 0 (pV (pOne (pVw 0 (liN 0) 1)))), (pTm 1 (pV (pOne (pVw 1 (liN 0) 1)))), (pTm 5 (pV (pOne (pInt .i64))))] [(pBlk Bool.false (pFl .f32)), (pBlk Bool.false (pFl .f32))]) (fun hs => zaq (hvN (hGet hs 0)) (hvN (hGet hs 1)) (hvI (hGet hs 2)) (hvLn (hGet hs 3)) (hvLn (hGet hs 4)))
def z4e (an : Nat) (bn : Nat) (b0 : List Nat) (b1 : List Nat) : Option ((Unit) ⊕ (Int × Bool)) → Option (Ex × St)
  | none => none
  | some (Sum.inl r) => some (Ex.ret, (St.mk [(4, (AV.v (TV.one (At.bool Bool.false))))] [(Blk.mk Bool.false (Body.fl .f32 b0)), (Blk.mk Bool.false (Body.fl .f32 b1))]))
  | some (Sum.inr r) => some ((Ex.exit 0), (St.mk [(0, (AV.v (TV.one (At.vw 0 0 an 1)))), (1, (AV.v (TV.one (At.vw 1 0 bn 1)))), (5, (AV.v (TV.one (At.int .i64 r.1)))), (14, (AV.v (TV.one (At.bool r.2))))] [(Blk.mk Bool.false (Body.fl .f32 b0)), (Blk.mk Bool.false (Body.fl .f32 b1))]))
def zdp (an : Nat) (bn : Nat) (b0 : List Nat) (b1 : List Nat) (x : Option ((Unit) ⊕ (Int × Bool))) : LO := (LO.two (oL x) (LO.one Ex.ret (St.mk [(4, (AV.v (TV.one (At.bool Bool.false))))] [(Blk.mk Bool.false (Body.fl .f32 b0)), (Blk.mk Bool.false (Body.fl .f32 b1))])) (LO.one (Ex.exit 0) (St.mk [(0, (AV.v (TV.one (At.vw 0 0 an 1)))), (1, (AV.v (TV.one (At.vw 1 0 bn 1)))), (5, (AV.v (TV.one (At.int .i64 ((tR x).getD default).1)))), (14, (AV.v (TV.one (At.bool ((tR x).getD default).2))))] [(Blk.mk Bool.false (Body.fl .f32 b0)), (Blk.mk Bool.false (Body.fl .f32 b1))])))
theorem ze9 (an : Nat) (bn : Nat) (b0 : List Nat) (b1 : List Nat) : ∀ x : Option ((Unit) ⊕ (Int × Bool)), x.isSome = true → (z4e an bn b0 b1) x = some (pick (zdp an bn b0 b1 x))
  | none, h => by cases h
  | some (Sum.inl r), _ => rfl
  | some (Sum.inr r), _ => rfl
theorem zef (an : Nat) (bn : Nat) (i : Int) (b0 : List Nat) (b1 : List Nat) (K : Ex → St → Option (Ex × St)) : evC (R := Ex × St) Γ2 (evFn Γ2 8 8) 56 2 fi56.nt fi56.live fi56.nl 8 (findL 4 (loopsIn fi56.code)) (St.mk [(0, (AV.v (TV.one (At.vw 0 0 an 1)))), (1, (AV.v (TV.one (At.vw 1 0 bn 1)))), (5, (AV.v (TV.one (At.int .i64 i))))] [(Blk.mk Bool.false (Body.fl .f32 b0)), (Blk.mk Bool.false (Body.fl .f32 b1))]) K = z1z an bn b0 b1 i (fun i' => K .normal (St.mk [(0, (AV.v (TV.one (At.vw 0 0 an 1)))), (1, (AV.v (TV.one (At.vw 1 0 bn 1)))), (5, (AV.v (TV.one (At.int .i64 i'))))] [(Blk.mk Bool.false (Body.fl .f32 b0)), (Blk.mk Bool.false (Body.fl .f32 b1))])) (fun _ => K Ex.ret (St.mk [(4, (AV.v (TV.one (At.bool Bool.false))))] [(Blk.mk Bool.false (Body.fl .f32 b0)), (Blk.mk Bool.false (Body.fl .f32 b1))])) (fun c0_ c1_ => K (Ex.exit 0) (St.mk [(0, (AV.v (TV.one (At.vw 0 0 an 1)))), (1, (AV.v (TV.one (At.vw 1 0 bn 1)))), (5, (AV.v (TV.one (At.int .i64 c0_)))), (14, (AV.v (TV.one (At.bool c1_))))] [(Blk.mk Bool.false (Body.fl .f32 b0)), (Blk.mk Bool.false (Body.fl .f32 b1))])) := by kernel_rfl
theorem zei (an : Nat) (bn : Nat) (b0 : List Nat) (b1 : List Nat) : ∀ (n : Nat) (i : Int), iter 56 4 2 (evC (R := Ex × St) Γ2 (evFn Γ2 8 8) 56 2 fi56.nt fi56.live fi56.nl 8 (findL 4 (loopsIn fi56.code))) n (St.mk [(0, (AV.v (TV.one (At.vw 0 0 an 1)))), (1, (AV.v (TV.one (At.vw 1 0 bn 1)))), (5, (AV.v (TV.one (At.int .i64 i))))] [(Blk.mk Bool.false (Body.fl .f32 b0)), (Blk.mk Bool.false (Body.fl .f32 b1))]) (fun e st => some (e, st)) = (z4e an bn b0 b1) (z19 an bn b0 b1 n i) := by
  intro n
  induction n with
  | zero => intros; rfl
  | succ n ih =>
    intro i
    refine Eq.trans (iter_succ ..) (Eq.trans (zef an bn i b0 b1 (nextK 56 4 2 (evC (R := Ex × St) Γ2 (evFn Γ2 8 8) 56 2 fi56.nt fi56.live fi56.nl 8 (findL 4 (loopsIn fi56.code))) n (fun e st => some (e, st)))) (Eq.trans ?_ (zck an bn b0 b1 i (z4e an bn b0 b1) rfl (fun i' => z19 an bn b0 b1 n i') (fun _ => some (Sum.inl ())) (fun c0_ c1_ => some (Sum.inr (c0_, c1_))))))
    exact congrArg (fun kn_ => z1z an bn b0 b1 i kn_ (fun _ => (z4e an bn b0 b1) (some (Sum.inl ()))) (fun c0_ c1_ => (z4e an bn b0 b1) (some (Sum.inr (c0_, c1_))))) (funext fun i' => ih i')
theorem zd1 : LoopOne Try.prog fnTab 56 4 zb4 := lp_of (Γ := Γ2) tyTab_ok (FnL.ok fnTab_ok _ _) (LpL.ok lt2_ok) (SumL.ok tb2_ok fnTab_ok _) mixed (fi := fi56) (by kernel_rfl) (by kernel_rfl) (by
  intro lo st out hp
  obtain ⟨hs, e1, e2, e3⟩ := lpT_inv hp
  clear hp
  obtain rfl : st = (St.mk [(0, (AV.v (TV.one (At.vw 0 0 (hvN (hGet hs 0)) 1)))), (1, (AV.v (TV.one (At.vw 1 0 (hvN (hGet hs 1)) 1)))), (5, (AV.v (TV.one (At.int .i64 (hvI (hGet hs 2))))))] [(Blk.mk Bool.false (Body.fl .f32 (hvLn (hGet hs 3)))), (Blk.mk Bool.false (Body.fl .f32 (hvLn (hGet hs 4))))]) := e2.trans (by kernel_rfl)
  clear e2
  subst e1
  unfold zaq at e3
  injection e3 with h1 h2
  subst h2
  exact ⟨8, 8, big, Eq.trans (zei (hvN (hGet hs 0)) (hvN (hGet hs 1)) (hvLn (hGet hs 3)) (hvLn (hGet hs 4)) big (hvI (hGet hs 2))) (ze9 (hvN (hGet hs 0)) (hvN (hGet hs 1)) (hvLn (hGet hs 3)) (hvLn (hGet hs 4)) (z19 (hvN (hGet hs 0)) (hvN (hGet hs 1)) (hvLn (hGet hs 3)) (hvLn (hGet hs 4)) big (hvI (hGet hs 2))) h1)⟩)
noncomputable def tb3 : List (Nat × (List PT → Option (Bool × AV × List Blk))) := (50, zap) :: (58, z9g) :: (79, z66) :: (98, zam) :: tb2
noncomputable def lt3 : List ((Nat × Nat) × (Nat → St → Option (Bool × LO))) := ((56, 4), zb4) :: lt2
noncomputable def Γ3 : Ctx := ⟨tyTab, fnTab, tblSum tb3, tblLp lt3⟩
theorem tb3_ok : SumL Try.prog tb3 := SumL.cons zeh (SumL.cons zdj (SumL.cons zby (SumL.cons ze7 (tb2_ok))))
theorem lt3_ok : LpL Try.prog fnTab lt3 := LpL.cons zd1 (lt2_ok)
noncomputable def zb2 : List PT → Option (Bool × AV × List Blk)
  | [.agg [.row 1 q07 (.fl .f32 q0c), .row 1 q0a (.fl .f32 q0d), .row 1 q0b (.fl .f32 q0e)]] => some ((z8w q07 q0c q0a q0d q0b q0e), ((AV.v (TV.agg [(At.sl 0 0 (z7h q07 q0c q0a q0d q0b q0e) 1), (At.sl 1 0 (z7l q07 q0c q0a q0d q0b q0e) 1), (At.sl 2 0 (z7n q07 q0c q0a q0d q0b q0e) 1)])), [(Blk.mk Bool.true (Body.fl .f32 (z7q q07 q0c q0a q0d q0b q0e))), (Blk.mk Bool.true (Body.fl .f32 (z7p q07 q0c q0a q0d q0b q0e))), (Blk.mk Bool.true (Body.fl .f32 (z7f q07 q0c q0a q0d q0b q0e)))]))
  | _ => none
def zcs (q07 : Nat) (q0c : List Nat) (q0a : Nat) (q0d : List Nat) (q0b : Nat) (q0e : List Nat) : Option (Nat × Nat × Nat × (List Nat) × (List Nat) × (List Nat)) → Option (AV × List Blk)
  | some r => some ((AV.v (TV.agg [(At.sl 0 0 r.1 1), (At.sl 1 0 r.2.1 1), (At.sl 2 0 r.2.2.1 1)])), [(Blk.mk Bool.true (Body.fl .f32 r.2.2.2.1)), (Blk.mk Bool.true (Body.fl .f32 r.2.2.2.2.1)), (Blk.mk Bool.true (Body.fl .f32 r.2.2.2.2.2))])
  | none => none
theorem zg5 (q07 : Nat) (q0c : List Nat) (q0a : Nat) (q0d : List Nat) (q0b : Nat) (q0e : List Nat) : evFn Γ3 8 8 21 (impTs 0 [.agg [.row 1 q07 (.fl .f32 q0c), .row 1 q0a (.fl .f32 q0d), .row 1 q0b (.fl .f32 q0e)]]).1 (impTs 0 [.agg [.row 1 q07 (.fl .f32 q0c), .row 1 q0a (.fl .f32 q0d), .row 1 q0b (.fl .f32 q0e)]]).2 (expo (impTs 0 [.agg [.row 1 q07 (.fl .f32 q0c), .row 1 q0a (.fl .f32 q0d), .row 1 q0b (.fl .f32 q0e)]]).2.length) = z58 q07 q0c q0a q0d q0b q0e (fun c0_ c1_ c2_ c3_ c4_ c5_ => some ((AV.v (TV.agg [(At.sl 0 0 c0_ 1), (At.sl 1 0 c1_ 1), (At.sl 2 0 c2_ 1)])), [(Blk.mk Bool.true (Body.fl .f32 c3_)), (Blk.mk Bool.true (Body.fl .f32 c4_)), (Blk.mk Bool.true (Body.fl .f32 c5_))])) := by kernel_rfl
theorem zew : SumOne Try.prog 21 zb2 := sum_of (Γ := Γ3) (fuel := 8) (d := 8) tyTab_ok (FnL.ok fnTab_ok _ _) (LpL.ok lt3_ok) (SumL.ok tb3_ok fnTab_ok _) mixed (by
  intro pts v news hp hc
  clear hc
  unfold zb2 at hp
  split at hp
  · rename_i q07 q0c q0a q0d q0b q0e
    exact Eq.trans (Eq.trans (zg5 q07 q0c q0a q0d q0b q0e) (zec q07 q0c q0a q0d q0b q0e (zcs q07 q0c q0a q0d q0b q0e) rfl (fun c0_ c1_ c2_ c3_ c4_ c5_ => some (c0_, c1_, c2_, c3_, c4_, c5_)))) (fin_out (o := (zcs q07 q0c q0a q0d q0b q0e)) (x := z26 q07 q0c q0a q0d q0b q0e) (d := default) (V := fun r => ((AV.v (TV.agg [(At.sl 0 0 r.1 1), (At.sl 1 0 r.2.1 1), (At.sl 2 0 r.2.2.1 1)])), [(Blk.mk Bool.true (Body.fl .f32 r.2.2.2.1)), (Blk.mk Bool.true (Body.fl .f32 r.2.2.2.2.1)), (Blk.mk Bool.true (Body.fl .f32 r.2.2.2.2.2))])) (fun r => rfl) hp)
  · cases hp)
noncomputable def zae : List PT → Option (Bool × AV × List Blk)
  | [.agg [.row 1 q07 (.fl .f32 q0c), .row 1 q0a (.fl .f32 q0d), .row 1 q0b (.fl .f32 q0e)], .one (.s (.int .i64 k))] => some ((z6j q07 q0c q0a q0d q0b q0e k), ((AV.v (TV.one (At.int .i64 (z62 q07 q0c q0a q0d q0b q0e k)))), []))
  | _ => none
def zbq (q07 : Nat) (q0c : List Nat) (q0a : Nat) (q0d : List Nat) (q0b : Nat) (q0e : List Nat) (k : Int) : Option (Int) → Option (AV × List Blk)
  | some r => some ((AV.v (TV.one (At.int .i64 r))), [])
  | none => none
theorem zf7 (q07 : Nat) (q0c : List Nat) (q0a : Nat) (q0d : List Nat) (q0b : Nat) (q0e : List Nat) (k : Int) : evFn Γ3 8 8 25 (impTs 0 [.agg [.row 1 q07 (.fl .f32 q0c), .row 1 q0a (.fl .f32 q0d), .row 1 q0b (.fl .f32 q0e)], .one (.s (.int .i64 k))]).1 (impTs 0 [.agg [.row 1 q07 (.fl .f32 q0c), .row 1 q0a (.fl .f32 q0d), .row 1 q0b (.fl .f32 q0e)], .one (.s (.int .i64 k))]).2 (expo (impTs 0 [.agg [.row 1 q07 (.fl .f32 q0c), .row 1 q0a (.fl .f32 q0d), .row 1 q0b (.fl .f32 q0e)], .one (.s (.int .i64 k))]).2.length) = z3s q07 q0c q0a q0d q0b q0e k (fun c0_ => some ((AV.v (TV.one (At.int .i64 c0_))), [])) := by kernel_rfl
theorem zdv : SumOne Try.prog 25 zae := sum_of (Γ := Γ3) (fuel := 8) (d := 8) tyTab_ok (FnL.ok fnTab_ok _ _) (LpL.ok lt3_ok) (SumL.ok tb3_ok fnTab_ok _) mixed (by
  intro pts v news hp hc
  clear hc
  unfold zae at hp
  split at hp
  · rename_i q07 q0c q0a q0d q0b q0e k
    exact Eq.trans (Eq.trans (zf7 q07 q0c q0a q0d q0b q0e k) (zdl q07 q0c q0a q0d q0b q0e k (zbq q07 q0c q0a q0d q0b q0e k) rfl (fun c0_ => some c0_))) (fin_out (o := (zbq q07 q0c q0a q0d q0b q0e k)) (x := z3n q07 q0c q0a q0d q0b q0e k) (d := default) (V := fun r => ((AV.v (TV.one (At.int .i64 r))), [])) (fun r => rfl) hp)
  · cases hp)
noncomputable def z5l : List PT → Option (Bool × AV × List Blk)
  | [.one (.row 1 s_n (.fl .f32 s)), .one (.s (.flt .f32 v))] => some ((z3j s_n s v), ((AV.v (TV.one (At.bool (z39 s_n s v)))), []))
  | _ => none
def z9e (s_n : Nat) (s : List Nat) (v : Nat) : Option (Bool) → Option (AV × List Blk)
  | some r => some ((AV.v (TV.one (At.bool r))), [])
  | none => none
theorem zc4 (s_n : Nat) (s : List Nat) (v : Nat) : evFn Γ3 8 8 52 (impTs 0 [.one (.row 1 s_n (.fl .f32 s)), .one (.s (.flt .f32 v))]).1 (impTs 0 [.one (.row 1 s_n (.fl .f32 s)), .one (.s (.flt .f32 v))]).2 (expo (impTs 0 [.one (.row 1 s_n (.fl .f32 s)), .one (.s (.flt .f32 v))]).2.length) = z1s s_n s v (fun c0_ => some ((AV.v (TV.one (At.bool c0_))), [])) := by kernel_rfl
theorem zbd : SumOne Try.prog 52 z5l := sum_of (Γ := Γ3) (fuel := 8) (d := 8) tyTab_ok (FnL.ok fnTab_ok _ _) (LpL.ok lt3_ok) (SumL.ok tb3_ok fnTab_ok _) mixed (by
  intro pts v news hp hc
  clear hc
  unfold z5l at hp
  split at hp
  · rename_i s_n s v
    exact Eq.trans (Eq.trans (zc4 s_n s v) (zbc s_n s v (z9e s_n s v) rfl (fun c0_ => some c0_))) (fin_out (o := (z9e s_n s v)) (x := z1r s_n s v) (d := default) (V := fun r => ((AV.v (TV.one (At.bool r))), [])) (fun r => rfl) hp)
  · cases hp)
noncomputable def zan : List PT → Option (Bool × AV × List Blk)
  | [.one (.row 1 a_n (.fl .f32 a)), .one (.row 1 b_n (.fl .f32 b))] => some ((z4j a_n a b_n b), ((AV.v (TV.one (At.bool (z3w a_n a b_n b)))), []))
  | _ => none
def zc8 (a_n : Nat) (a : List Nat) (b_n : Nat) (b : List Nat) : Option (Bool) → Option (AV × List Blk)
  | some r => some ((AV.v (TV.one (At.bool r))), [])
  | none => none
theorem zfp (a_n : Nat) (a : List Nat) (b_n : Nat) (b : List Nat) : evFn Γ3 8 8 56 (impTs 0 [.one (.row 1 a_n (.fl .f32 a)), .one (.row 1 b_n (.fl .f32 b))]).1 (impTs 0 [.one (.row 1 a_n (.fl .f32 a)), .one (.row 1 b_n (.fl .f32 b))]).2 (expo (impTs 0 [.one (.row 1 a_n (.fl .f32 a)), .one (.row 1 b_n (.fl .f32 b))]).2.length) = z4m a_n a b_n b (fun c0_ => some ((AV.v (TV.one (At.bool c0_))), [])) := by kernel_rfl
theorem zek : SumOne Try.prog 56 zan := sum_of (Γ := Γ3) (fuel := 8) (d := 8) tyTab_ok (FnL.ok fnTab_ok _ _) (LpL.ok lt3_ok) (SumL.ok tb3_ok fnTab_ok _) mixed (by
  intro pts v news hp hc
  clear hc
  unfold zan at hp
  split at hp
  · rename_i a_n a b_n b
    exact Eq.trans (Eq.trans (zfp a_n a b_n b) (zdw a_n a b_n b (zc8 a_n a b_n b) rfl (fun c0_ => some c0_))) (fin_out (o := (zc8 a_n a b_n b)) (x := z4l a_n a b_n b) (d := default) (V := fun r => ((AV.v (TV.one (At.bool r))), [])) (fun r => rfl) hp)
  · cases hp)
noncomputable def zcb (t3 : Int) (t4 : Int) (b0 : List Nat) (b1 : List Nat) (b2 : List Nat) (q06 : Nat) (q08 : Nat) (q09 : Nat) : Bool × LO := ((z3a t3 b0 b1 b2 q06 q08 q09 t4), (LO.two (z33 t3 b0 b1 b2 q06 q08 q09 t4) (LO.one Ex.ret (St.mk [(2, (AV.v (TV.one (At.bool Bool.false))))] [(Blk.mk Bool.false (Body.fl .f32 b0)), (Blk.mk Bool.false (Body.fl .f32 b1)), (Blk.mk Bool.false (Body.fl .f32 b2)), (Blk.mk Bool.false (Body.cells [(At.vw 0 0 q06 1), (At.vw 1 0 q08 1), (At.vw 2 0 q09 1)]))])) (LO.one (Ex.exit 0) (St.mk [(0, (AV.v (TV.one (At.ptr 3 0 3)))), (3, (AV.v (TV.one (At.int .i64 t3)))), (4, (AV.v (TV.one (At.int .i64 (zah t3 b0 b1 b2 q06 q08 q09 t4))))), (36, (AV.v (TV.one (At.bool (zaa t3 b0 b1 b2 q06 q08 q09 t4)))))] [(Blk.mk Bool.false (Body.fl .f32 b0)), (Blk.mk Bool.false (Body.fl .f32 b1)), (Blk.mk Bool.false (Body.fl .f32 b2)), (Blk.mk Bool.false (Body.cells [(At.vw 0 0 q06 1), (At.vw 1 0 q08 1), (At.vw 2 0 q09 1)]))]))))
noncomputable def zd5 : Nat → St → Option (Bool × LO) := lpT 4 (pSt [(pTm 0 (pV (pOne (pPtr 3 (liN 0) 3)))), (pTm 3 (pV (pOne (pInt .i64)))), (pTm 4 (pV (pOne (pInt .i64))))] [(pBlk Bool.false (pFl .f32)), (pBlk Bool.false (pFl .f32)), (pBlk Bool.false (pFl .f32)), (pBlk Bool.false (pCells [(pVw 0 (liN 0) 1), (pVw 1 (liN 0) 1), (pVw 2 (liN 0) 1)]))]) (fun hs => zcb (hvI (hGet hs 0)) (hvI (hGet hs 1)) (hvLn (hGet hs 2)) (hvLn (hGet hs 3)) (hvLn (hGet hs 4)) (hvN (hGet hs 5)) (hvN (hGet hs 6)) (hvN (hGet hs 7)))
def z6m (t3 : Int) (b0 : List Nat) (b1 : List Nat) (b2 : List Nat) (q06 : Nat) (q08 : Nat) (q09 : Nat) : Option ((Unit) ⊕ (Int × Bool)) → Option (Ex × St)
  | none => none
  | some (Sum.inl r) => some (Ex.ret, (St.mk [(2, (AV.v (TV.one (At.bool Bool.false))))] [(Blk.mk Bool.false (Body.fl .f32 b0)), (Blk.mk Bool.false (Body.fl .f32 b1)), (Blk.mk Bool.false (Body.fl .f32 b2)), (Blk.mk Bool.false (Body.cells [(At.vw 0 0 q06 1), (At.vw 1 0 q08 1), (At.vw 2 0 q09 1)]))]))
  | some (Sum.inr r) => some ((Ex.exit 0), (St.mk [(0, (AV.v (TV.one (At.ptr 3 0 3)))), (3, (AV.v (TV.one (At.int .i64 t3)))), (4, (AV.v (TV.one (At.int .i64 r.1)))), (36, (AV.v (TV.one (At.bool r.2))))] [(Blk.mk Bool.false (Body.fl .f32 b0)), (Blk.mk Bool.false (Body.fl .f32 b1)), (Blk.mk Bool.false (Body.fl .f32 b2)), (Blk.mk Bool.false (Body.cells [(At.vw 0 0 q06 1), (At.vw 1 0 q08 1), (At.vw 2 0 q09 1)]))]))
def zgd (t3 : Int) (b0 : List Nat) (b1 : List Nat) (b2 : List Nat) (q06 : Nat) (q08 : Nat) (q09 : Nat) (x : Option ((Unit) ⊕ (Int × Bool))) : LO := (LO.two (oL x) (LO.one Ex.ret (St.mk [(2, (AV.v (TV.one (At.bool Bool.false))))] [(Blk.mk Bool.false (Body.fl .f32 b0)), (Blk.mk Bool.false (Body.fl .f32 b1)), (Blk.mk Bool.false (Body.fl .f32 b2)), (Blk.mk Bool.false (Body.cells [(At.vw 0 0 q06 1), (At.vw 1 0 q08 1), (At.vw 2 0 q09 1)]))])) (LO.one (Ex.exit 0) (St.mk [(0, (AV.v (TV.one (At.ptr 3 0 3)))), (3, (AV.v (TV.one (At.int .i64 t3)))), (4, (AV.v (TV.one (At.int .i64 ((tR x).getD default).1)))), (36, (AV.v (TV.one (At.bool ((tR x).getD default).2))))] [(Blk.mk Bool.false (Body.fl .f32 b0)), (Blk.mk Bool.false (Body.fl .f32 b1)), (Blk.mk Bool.false (Body.fl .f32 b2)), (Blk.mk Bool.false (Body.cells [(At.vw 0 0 q06 1), (At.vw 1 0 q08 1), (At.vw 2 0 q09 1)]))])))
theorem zgm (t3 : Int) (b0 : List Nat) (b1 : List Nat) (b2 : List Nat) (q06 : Nat) (q08 : Nat) (q09 : Nat) : ∀ x : Option ((Unit) ⊕ (Int × Bool)), x.isSome = true → (z6m t3 b0 b1 b2 q06 q08 q09) x = some (pick (zgd t3 b0 b1 b2 q06 q08 q09 x))
  | none, h => by cases h
  | some (Sum.inl r), _ => rfl
  | some (Sum.inr r), _ => rfl
theorem zgj (t3 : Int) (t4 : Int) (b0 : List Nat) (b1 : List Nat) (b2 : List Nat) (q06 : Nat) (q08 : Nat) (q09 : Nat) (K : Ex → St → Option (Ex × St)) : evC (R := Ex × St) Γ3 (evFn Γ3 8 8) 46 4 fi46.nt fi46.live fi46.nl 8 (findL 5 (loopsIn fi46.code)) (St.mk [(0, (AV.v (TV.one (At.ptr 3 0 3)))), (3, (AV.v (TV.one (At.int .i64 t3)))), (4, (AV.v (TV.one (At.int .i64 t4))))] [(Blk.mk Bool.false (Body.fl .f32 b0)), (Blk.mk Bool.false (Body.fl .f32 b1)), (Blk.mk Bool.false (Body.fl .f32 b2)), (Blk.mk Bool.false (Body.cells [(At.vw 0 0 q06 1), (At.vw 1 0 q08 1), (At.vw 2 0 q09 1)]))]) K = z2z t3 b0 b1 b2 q06 q08 q09 t4 (fun t4' => K .normal (St.mk [(0, (AV.v (TV.one (At.ptr 3 0 3)))), (3, (AV.v (TV.one (At.int .i64 t3)))), (4, (AV.v (TV.one (At.int .i64 t4'))))] [(Blk.mk Bool.false (Body.fl .f32 b0)), (Blk.mk Bool.false (Body.fl .f32 b1)), (Blk.mk Bool.false (Body.fl .f32 b2)), (Blk.mk Bool.false (Body.cells [(At.vw 0 0 q06 1), (At.vw 1 0 q08 1), (At.vw 2 0 q09 1)]))])) (fun _ => K Ex.ret (St.mk [(2, (AV.v (TV.one (At.bool Bool.false))))] [(Blk.mk Bool.false (Body.fl .f32 b0)), (Blk.mk Bool.false (Body.fl .f32 b1)), (Blk.mk Bool.false (Body.fl .f32 b2)), (Blk.mk Bool.false (Body.cells [(At.vw 0 0 q06 1), (At.vw 1 0 q08 1), (At.vw 2 0 q09 1)]))])) (fun c0_ c1_ => K (Ex.exit 0) (St.mk [(0, (AV.v (TV.one (At.ptr 3 0 3)))), (3, (AV.v (TV.one (At.int .i64 t3)))), (4, (AV.v (TV.one (At.int .i64 c0_)))), (36, (AV.v (TV.one (At.bool c1_))))] [(Blk.mk Bool.false (Body.fl .f32 b0)), (Blk.mk Bool.false (Body.fl .f32 b1)), (Blk.mk Bool.false (Body.fl .f32 b2)), (Blk.mk Bool.false (Body.cells [(At.vw 0 0 q06 1), (At.vw 1 0 q08 1), (At.vw 2 0 q09 1)]))])) := by kernel_rfl
theorem zgo (t3 : Int) (b0 : List Nat) (b1 : List Nat) (b2 : List Nat) (q06 : Nat) (q08 : Nat) (q09 : Nat) : ∀ (n : Nat) (t4 : Int), iter 46 5 4 (evC (R := Ex × St) Γ3 (evFn Γ3 8 8) 46 4 fi46.nt fi46.live fi46.nl 8 (findL 5 (loopsIn fi46.code))) n (St.mk [(0, (AV.v (TV.one (At.ptr 3 0 3)))), (3, (AV.v (TV.one (At.int .i64 t3)))), (4, (AV.v (TV.one (At.int .i64 t4))))] [(Blk.mk Bool.false (Body.fl .f32 b0)), (Blk.mk Bool.false (Body.fl .f32 b1)), (Blk.mk Bool.false (Body.fl .f32 b2)), (Blk.mk Bool.false (Body.cells [(At.vw 0 0 q06 1), (At.vw 1 0 q08 1), (At.vw 2 0 q09 1)]))]) (fun e st => some (e, st)) = (z6m t3 b0 b1 b2 q06 q08 q09) (z1o t3 b0 b1 b2 q06 q08 q09 n t4) := by
  intro n
  induction n with
  | zero => intros; rfl
  | succ n ih =>
    intro t4
    refine Eq.trans (iter_succ ..) (Eq.trans (zgj t3 t4 b0 b1 b2 q06 q08 q09 (nextK 46 5 4 (evC (R := Ex × St) Γ3 (evFn Γ3 8 8) 46 4 fi46.nt fi46.live fi46.nl 8 (findL 5 (loopsIn fi46.code))) n (fun e st => some (e, st)))) (Eq.trans ?_ (zf1 t3 b0 b1 b2 q06 q08 q09 t4 (z6m t3 b0 b1 b2 q06 q08 q09) rfl (fun t4' => z1o t3 b0 b1 b2 q06 q08 q09 n t4') (fun _ => some (Sum.inl ())) (fun c0_ c1_ => some (Sum.inr (c0_, c1_))))))
    exact congrArg (fun kn_ => z2z t3 b0 b1 b2 q06 q08 q09 t4 kn_ (fun _ => (z6m t3 b0 b1 b2 q06 q08 q09) (some (Sum.inl ()))) (fun c0_ c1_ => (z6m t3 b0 b1 b2 q06 q08 q09) (some (Sum.inr (c0_, c1_))))) (funext fun t4' => ih t4')
theorem zfc : LoopOne Try.prog fnTab 46 5 zd5 := lp_of (Γ := Γ3) tyTab_ok (FnL.ok fnTab_ok _ _) (LpL.ok lt3_ok) (SumL.ok tb3_ok fnTab_ok _) mixed (fi := fi46) (by kernel_rfl) (by kernel_rfl) (by
  intro lo st out hp
  obtain ⟨hs, e1, e2, e3⟩ := lpT_inv hp
  clear hp
  obtain rfl : st = (St.mk [(0, (AV.v (TV.one (At.ptr 3 0 3)))), (3, (AV.v (TV.one (At.int .i64 (hvI (hGet hs 0)))))), (4, (AV.v (TV.one (At.int .i64 (hvI (hGet hs 1))))))] [(Blk.mk Bool.false (Body.fl .f32 (hvLn (hGet hs 2)))), (Blk.mk Bool.false (Body.fl .f32 (hvLn (hGet hs 3)))), (Blk.mk Bool.false (Body.fl .f32 (hvLn (hGet hs 4)))), (Blk.mk Bool.false (Body.cells [(At.vw 0 0 (hvN (hGet hs 5)) 1), (At.vw 1 0 (hvN (hGet hs 6)) 1), (At.vw 2 0 (hvN (hGet hs 7)) 1)]))]) := e2.trans (by kernel_rfl)
  clear e2
  subst e1
  unfold zcb at e3
  injection e3 with h1 h2
  subst h2
  exact ⟨8, 8, big, Eq.trans (zgo (hvI (hGet hs 0)) (hvLn (hGet hs 2)) (hvLn (hGet hs 3)) (hvLn (hGet hs 4)) (hvN (hGet hs 5)) (hvN (hGet hs 6)) (hvN (hGet hs 7)) big (hvI (hGet hs 1))) (zgm (hvI (hGet hs 0)) (hvLn (hGet hs 2)) (hvLn (hGet hs 3)) (hvLn (hGet hs 4)) (hvN (hGet hs 5)) (hvN (hGet hs 6)) (hvN (hGet hs 7)) (z1o (hvI (hGet hs 0)) (hvLn (hGet hs 2)) (hvLn (hGet hs 3)) (hvLn (hGet hs 4)) (hvN (hGet hs 5)) (hvN (hGet hs 6)) (hvN (hGet hs 7)) big (hvI (hGet hs 1))) h1)⟩)
noncomputable def z3i (sn : Nat) (t7 : Int) (t8 : Int) (b0 : List Nat) : Bool × LO := ((z0y sn t7 b0 t8), (LO.two (z0v sn t7 b0 t8) (LO.one Ex.ret (St.mk [(4, (AV.v (TV.one (At.int .i64 (z1g sn t7 b0 t8)))))] [(Blk.mk Bool.false (Body.fl .f32 b0))])) (LO.one (Ex.exit 0) (St.mk [(0, (AV.v (TV.one (At.vw 0 0 sn 1)))), (1, (AV.v (TV.one (At.fn 94 [])))), (7, (AV.v (TV.one (At.int .i64 t7)))), (8, (AV.v (TV.one (At.int .i64 (z2g sn t7 b0 t8))))), (9, (AV.v (TV.one (At.bool (z2f sn t7 b0 t8)))))] [(Blk.mk Bool.false (Body.fl .f32 b0))]))))
noncomputable def z41 : Nat → St → Option (Bool × LO) := lpT 1 (pSt [(pTm 0 (pV (pOne (pVw 0 (liN 0) 1)))), (pTm 1 (pV (pOne (pFn 94 [])))), (pTm 7 (pV (pOne (pInt .i64)))), (pTm 8 (pV (pOne (pInt .i64))))] [(pBlk Bool.false (pFl .f32))]) (fun hs => z3i (hvN (hGet hs 0)) (hvI (hGet hs 1)) (hvI (hGet hs 2)) (hvLn (hGet hs 3)))
def z1b (sn : Nat) (t7 : Int) (b0 : List Nat) : Option ((Int) ⊕ (Int × Bool)) → Option (Ex × St)
  | none => none
  | some (Sum.inl r) => some (Ex.ret, (St.mk [(4, (AV.v (TV.one (At.int .i64 r))))] [(Blk.mk Bool.false (Body.fl .f32 b0))]))
  | some (Sum.inr r) => some ((Ex.exit 0), (St.mk [(0, (AV.v (TV.one (At.vw 0 0 sn 1)))), (1, (AV.v (TV.one (At.fn 94 [])))), (7, (AV.v (TV.one (At.int .i64 t7)))), (8, (AV.v (TV.one (At.int .i64 r.1)))), (9, (AV.v (TV.one (At.bool r.2))))] [(Blk.mk Bool.false (Body.fl .f32 b0))]))
def z78 (sn : Nat) (t7 : Int) (b0 : List Nat) (x : Option ((Int) ⊕ (Int × Bool))) : LO := (LO.two (oL x) (LO.one Ex.ret (St.mk [(4, (AV.v (TV.one (At.int .i64 ((tL x).getD default)))))] [(Blk.mk Bool.false (Body.fl .f32 b0))])) (LO.one (Ex.exit 0) (St.mk [(0, (AV.v (TV.one (At.vw 0 0 sn 1)))), (1, (AV.v (TV.one (At.fn 94 [])))), (7, (AV.v (TV.one (At.int .i64 t7)))), (8, (AV.v (TV.one (At.int .i64 ((tR x).getD default).1)))), (9, (AV.v (TV.one (At.bool ((tR x).getD default).2))))] [(Blk.mk Bool.false (Body.fl .f32 b0))])))
theorem z7z (sn : Nat) (t7 : Int) (b0 : List Nat) : ∀ x : Option ((Int) ⊕ (Int × Bool)), x.isSome = true → (z1b sn t7 b0) x = some (pick (z78 sn t7 b0 x))
  | none, h => by cases h
  | some (Sum.inl r), _ => rfl
  | some (Sum.inr r), _ => rfl
theorem z7w (sn : Nat) (t7 : Int) (t8 : Int) (b0 : List Nat) (K : Ex → St → Option (Ex × St)) : evC (R := Ex × St) Γ3 (evFn Γ3 8 8) 97 1 fi97.nt fi97.live fi97.nl 8 (findL 2 (loopsIn fi97.code)) (St.mk [(0, (AV.v (TV.one (At.vw 0 0 sn 1)))), (1, (AV.v (TV.one (At.fn 94 [])))), (7, (AV.v (TV.one (At.int .i64 t7)))), (8, (AV.v (TV.one (At.int .i64 t8))))] [(Blk.mk Bool.false (Body.fl .f32 b0))]) K = z0e sn t7 b0 t8 (fun t8' => K .normal (St.mk [(0, (AV.v (TV.one (At.vw 0 0 sn 1)))), (1, (AV.v (TV.one (At.fn 94 [])))), (7, (AV.v (TV.one (At.int .i64 t7)))), (8, (AV.v (TV.one (At.int .i64 t8'))))] [(Blk.mk Bool.false (Body.fl .f32 b0))])) (fun c0_ => K Ex.ret (St.mk [(4, (AV.v (TV.one (At.int .i64 c0_))))] [(Blk.mk Bool.false (Body.fl .f32 b0))])) (fun c0_ c1_ => K (Ex.exit 0) (St.mk [(0, (AV.v (TV.one (At.vw 0 0 sn 1)))), (1, (AV.v (TV.one (At.fn 94 [])))), (7, (AV.v (TV.one (At.int .i64 t7)))), (8, (AV.v (TV.one (At.int .i64 c0_)))), (9, (AV.v (TV.one (At.bool c1_))))] [(Blk.mk Bool.false (Body.fl .f32 b0))])) := by kernel_rfl
theorem z7x (sn : Nat) (t7 : Int) (b0 : List Nat) : ∀ (n : Nat) (t8 : Int), iter 97 2 1 (evC (R := Ex × St) Γ3 (evFn Γ3 8 8) 97 1 fi97.nt fi97.live fi97.nl 8 (findL 2 (loopsIn fi97.code))) n (St.mk [(0, (AV.v (TV.one (At.vw 0 0 sn 1)))), (1, (AV.v (TV.one (At.fn 94 [])))), (7, (AV.v (TV.one (At.int .i64 t7)))), (8, (AV.v (TV.one (At.int .i64 t8))))] [(Blk.mk Bool.false (Body.fl .f32 b0))]) (fun e st => some (e, st)) = (z1b sn t7 b0) (z03 sn t7 b0 n t8) := by
  intro n
  induction n with
  | zero => intros; rfl
  | succ n ih =>
    intro t8
    refine Eq.trans (iter_succ ..) (Eq.trans (z7w sn t7 t8 b0 (nextK 97 2 1 (evC (R := Ex × St) Γ3 (evFn Γ3 8 8) 97 1 fi97.nt fi97.live fi97.nl 8 (findL 2 (loopsIn fi97.code))) n (fun e st => some (e, st)))) (Eq.trans ?_ (z68 sn t7 b0 t8 (z1b sn t7 b0) rfl (fun t8' => z03 sn t7 b0 n t8') (fun c0_ => some (Sum.inl c0_)) (fun c0_ c1_ => some (Sum.inr (c0_, c1_))))))
    exact congrArg (fun kn_ => z0e sn t7 b0 t8 kn_ (fun c0_ => (z1b sn t7 b0) (some (Sum.inl c0_))) (fun c0_ c1_ => (z1b sn t7 b0) (some (Sum.inr (c0_, c1_))))) (funext fun t8' => ih t8')
theorem z6d : LoopOne Try.prog fnTab 97 2 z41 := lp_of (Γ := Γ3) tyTab_ok (FnL.ok fnTab_ok _ _) (LpL.ok lt3_ok) (SumL.ok tb3_ok fnTab_ok _) mixed (fi := fi97) (by kernel_rfl) (by kernel_rfl) (by
  intro lo st out hp
  obtain ⟨hs, e1, e2, e3⟩ := lpT_inv hp
  clear hp
  obtain rfl : st = (St.mk [(0, (AV.v (TV.one (At.vw 0 0 (hvN (hGet hs 0)) 1)))), (1, (AV.v (TV.one (At.fn 94 [])))), (7, (AV.v (TV.one (At.int .i64 (hvI (hGet hs 1)))))), (8, (AV.v (TV.one (At.int .i64 (hvI (hGet hs 2))))))] [(Blk.mk Bool.false (Body.fl .f32 (hvLn (hGet hs 3))))]) := e2.trans (by kernel_rfl)
  clear e2
  subst e1
  unfold z3i at e3
  injection e3 with h1 h2
  subst h2
  exact ⟨8, 8, big, Eq.trans (z7x (hvN (hGet hs 0)) (hvI (hGet hs 1)) (hvLn (hGet hs 3)) big (hvI (hGet hs 2))) (z7z (hvN (hGet hs 0)) (hvI (hGet hs 1)) (hvLn (hGet hs 3)) (z03 (hvN (hGet hs 0)) (hvI (hGet hs 1)) (hvLn (hGet hs 3)) big (hvI (hGet hs 2))) h1)⟩)
noncomputable def tb4 : List (Nat × (List PT → Option (Bool × AV × List Blk))) := (21, zb2) :: (25, zae) :: (52, z5l) :: (56, zan) :: tb3
noncomputable def lt4 : List ((Nat × Nat) × (Nat → St → Option (Bool × LO))) := ((46, 5), zd5) :: ((97, 2), z41) :: lt3
noncomputable def Γ4 : Ctx := ⟨tyTab, fnTab, tblSum tb4, tblLp lt4⟩
theorem tb4_ok : SumL Try.prog tb4 := SumL.cons zew (SumL.cons zdv (SumL.cons zbd (SumL.cons zek (tb3_ok))))
theorem lt4_ok : LpL Try.prog fnTab lt4 := LpL.cons zfc (LpL.cons z6d (lt3_ok))
noncomputable def zay : List PT → Option (Bool × AV × List Blk)
  | [.agg [.row 1 q07 (.fl .f32 q0c), .row 1 q0a (.fl .f32 q0d), .row 1 q0b (.fl .f32 q0e)], .agg [.row 1 q11 (.fl .f32 q15), .row 1 q12 (.fl .f32 q19), .row 1 q13 (.fl .f32 q18)]] => some ((z5z q07 q0c q0a q0d q0b q0e q11 q15 q12 q19 q13 q18), ((AV.v (TV.one (At.bool (z5o q07 q0c q0a q0d q0b q0e q11 q15 q12 q19 q13 q18)))), []))
  | _ => none
def zcl (q07 : Nat) (q0c : List Nat) (q0a : Nat) (q0d : List Nat) (q0b : Nat) (q0e : List Nat) (q11 : Nat) (q15 : List Nat) (q12 : Nat) (q19 : List Nat) (q13 : Nat) (q18 : List Nat) : Option (Bool) → Option (AV × List Blk)
  | some r => some ((AV.v (TV.one (At.bool r))), [])
  | none => none
theorem zge (q07 : Nat) (q0c : List Nat) (q0a : Nat) (q0d : List Nat) (q0b : Nat) (q0e : List Nat) (q11 : Nat) (q15 : List Nat) (q12 : Nat) (q19 : List Nat) (q13 : Nat) (q18 : List Nat) : evFn Γ4 8 8 23 (impTs 0 [.agg [.row 1 q07 (.fl .f32 q0c), .row 1 q0a (.fl .f32 q0d), .row 1 q0b (.fl .f32 q0e)], .agg [.row 1 q11 (.fl .f32 q15), .row 1 q12 (.fl .f32 q19), .row 1 q13 (.fl .f32 q18)]]).1 (impTs 0 [.agg [.row 1 q07 (.fl .f32 q0c), .row 1 q0a (.fl .f32 q0d), .row 1 q0b (.fl .f32 q0e)], .agg [.row 1 q11 (.fl .f32 q15), .row 1 q12 (.fl .f32 q19), .row 1 q13 (.fl .f32 q18)]]).2 (expo (impTs 0 [.agg [.row 1 q07 (.fl .f32 q0c), .row 1 q0a (.fl .f32 q0d), .row 1 q0b (.fl .f32 q0e)], .agg [.row 1 q11 (.fl .f32 q15), .row 1 q12 (.fl .f32 q19), .row 1 q13 (.fl .f32 q18)]]).2.length) = z55 q07 q0c q0a q0d q0b q0e q11 q15 q12 q19 q13 q18 (fun c0_ => some ((AV.v (TV.one (At.bool c0_))), [])) := by kernel_rfl
theorem zeq : SumOne Try.prog 23 zay := sum_of (Γ := Γ4) (fuel := 8) (d := 8) tyTab_ok (FnL.ok fnTab_ok _ _) (LpL.ok lt4_ok) (SumL.ok tb4_ok fnTab_ok _) mixed (by
  intro pts v news hp hc
  clear hc
  unfold zay at hp
  split at hp
  · rename_i q07 q0c q0a q0d q0b q0e q11 q15 q12 q19 q13 q18
    exact Eq.trans (Eq.trans (zge q07 q0c q0a q0d q0b q0e q11 q15 q12 q19 q13 q18) (zeg q07 q0c q0a q0d q0b q0e q11 q15 q12 q19 q13 q18 (zcl q07 q0c q0a q0d q0b q0e q11 q15 q12 q19 q13 q18) rfl (fun c0_ => some c0_))) (fin_out (o := (zcl q07 q0c q0a q0d q0b q0e q11 q15 q12 q19 q13 q18)) (x := z53 q07 q0c q0a q0d q0b q0e q11 q15 q12 q19 q13 q18) (d := default) (V := fun r => ((AV.v (TV.one (At.bool r))), [])) (fun r => rfl) hp)
  · cases hp)
noncomputable def zcp : List PT → Option (Bool × AV × List Blk)
  | [.ptr [.row 1 q00 (.fl .f32 q03), .row 1 q01 (.fl .f32 q04), .row 1 q02 (.fl .f32 q05)]] => some ((z5c q00 q03 q01 q04 q02 q05), ((AV.v (TV.one (At.bool (z4r q00 q03 q01 q04 q02 q05)))), []))
  | _ => none
def zfh (q00 : Nat) (q03 : List Nat) (q01 : Nat) (q04 : List Nat) (q02 : Nat) (q05 : List Nat) : Option (Bool) → Option (AV × List Blk)
  | some r => some ((AV.v (TV.one (At.bool r))), [])
  | none => none
theorem zgx (q00 : Nat) (q03 : List Nat) (q01 : Nat) (q04 : List Nat) (q02 : Nat) (q05 : List Nat) : evFn Γ4 8 8 46 (impTs 0 [.ptr [.row 1 q00 (.fl .f32 q03), .row 1 q01 (.fl .f32 q04), .row 1 q02 (.fl .f32 q05)]]).1 (impTs 0 [.ptr [.row 1 q00 (.fl .f32 q03), .row 1 q01 (.fl .f32 q04), .row 1 q02 (.fl .f32 q05)]]).2 (expo (impTs 0 [.ptr [.row 1 q00 (.fl .f32 q03), .row 1 q01 (.fl .f32 q04), .row 1 q02 (.fl .f32 q05)]]).2.length) = z7y q00 q03 q01 q04 q02 q05 (fun c0_ => some ((AV.v (TV.one (At.bool c0_))), [])) := by kernel_rfl
theorem zgq : SumOne Try.prog 46 zcp := sum_of (Γ := Γ4) (fuel := 8) (d := 8) tyTab_ok (FnL.ok fnTab_ok _ _) (LpL.ok lt4_ok) (SumL.ok tb4_ok fnTab_ok _) mixed (by
  intro pts v news hp hc
  clear hc
  unfold zcp at hp
  split at hp
  · rename_i q00 q03 q01 q04 q02 q05
    exact Eq.trans (Eq.trans (zgx q00 q03 q01 q04 q02 q05) (zgb q00 q03 q01 q04 q02 q05 (zfh q00 q03 q01 q04 q02 q05) rfl (fun c0_ => some c0_))) (fin_out (o := (zfh q00 q03 q01 q04 q02 q05)) (x := z83 q00 q03 q01 q04 q02 q05) (d := default) (V := fun r => ((AV.v (TV.one (At.bool r))), [])) (fun r => rfl) hp)
  · cases hp)
noncomputable def z2s : List PT → Option (Bool × AV × List Blk)
  | [.one (.row 1 s_n (.fl .f32 s)), .fn 94 []] => some ((z24 s_n s), ((AV.v (TV.one (At.int .i64 (z22 s_n s)))), []))
  | _ => none
def z4s (s_n : Nat) (s : List Nat) : Option (Int) → Option (AV × List Blk)
  | some r => some ((AV.v (TV.one (At.int .i64 r))), [])
  | none => none
theorem z9d (s_n : Nat) (s : List Nat) : evFn Γ4 8 8 97 (impTs 0 [.one (.row 1 s_n (.fl .f32 s)), .fn 94 []]).1 (impTs 0 [.one (.row 1 s_n (.fl .f32 s)), .fn 94 []]).2 (expo (impTs 0 [.one (.row 1 s_n (.fl .f32 s)), .fn 94 []]).2.length) = z15 s_n s (fun c0_ => some ((AV.v (TV.one (At.int .i64 c0_))), [])) := by kernel_rfl
theorem z82 : SumOne Try.prog 97 z2s := sum_of (Γ := Γ4) (fuel := 8) (d := 8) tyTab_ok (FnL.ok fnTab_ok _ _) (LpL.ok lt4_ok) (SumL.ok tb4_ok fnTab_ok _) mixed (by
  intro pts v news hp hc
  clear hc
  unfold z2s at hp
  split at hp
  · rename_i s_n s
    exact Eq.trans (Eq.trans (z9d s_n s) (z77 s_n s (z4s s_n s) rfl (fun c0_ => some c0_))) (fin_out (o := (z4s s_n s)) (x := z14 s_n s) (d := default) (V := fun r => ((AV.v (TV.one (At.int .i64 r))), [])) (fun r => rfl) hp)
  · cases hp)
noncomputable def z3k (sn : Nat) (t7 : Int) (t8 : Int) (b0 : List Nat) : Bool × LO := ((z12 sn t7 b0 t8), (LO.two (z0x sn t7 b0 t8) (LO.one Ex.ret (St.mk [(4, (AV.v (TV.one (At.int .i64 (z1j sn t7 b0 t8)))))] [(Blk.mk Bool.false (Body.fl .f32 b0))])) (LO.one (Ex.exit 0) (St.mk [(0, (AV.v (TV.one (At.vw 0 0 sn 1)))), (1, (AV.v (TV.one (At.fn 98 [])))), (7, (AV.v (TV.one (At.int .i64 t7)))), (8, (AV.v (TV.one (At.int .i64 (z2j sn t7 b0 t8))))), (9, (AV.v (TV.one (At.bool (z2i sn t7 b0 t8)))))] [(Blk.mk Bool.false (Body.fl .f32 b0))]))))
noncomputable def z44 : Nat → St → Option (Bool × LO) := lpT 1 (pSt [(pTm 0 (pV (pOne (pVw 0 (liN 0) 1)))), (pTm 1 (pV (pOne (pFn 98 [])))), (pTm 7 (pV (pOne (pInt .i64)))), (pTm 8 (pV (pOne (pInt .i64))))] [(pBlk Bool.false (pFl .f32))]) (fun hs => z3k (hvN (hGet hs 0)) (hvI (hGet hs 1)) (hvI (hGet hs 2)) (hvLn (hGet hs 3)))
def z1c (sn : Nat) (t7 : Int) (b0 : List Nat) : Option ((Int) ⊕ (Int × Bool)) → Option (Ex × St)
  | none => none
  | some (Sum.inl r) => some (Ex.ret, (St.mk [(4, (AV.v (TV.one (At.int .i64 r))))] [(Blk.mk Bool.false (Body.fl .f32 b0))]))
  | some (Sum.inr r) => some ((Ex.exit 0), (St.mk [(0, (AV.v (TV.one (At.vw 0 0 sn 1)))), (1, (AV.v (TV.one (At.fn 98 [])))), (7, (AV.v (TV.one (At.int .i64 t7)))), (8, (AV.v (TV.one (At.int .i64 r.1)))), (9, (AV.v (TV.one (At.bool r.2))))] [(Blk.mk Bool.false (Body.fl .f32 b0))]))
def z7s (sn : Nat) (t7 : Int) (b0 : List Nat) (x : Option ((Int) ⊕ (Int × Bool))) : LO := (LO.two (oL x) (LO.one Ex.ret (St.mk [(4, (AV.v (TV.one (At.int .i64 ((tL x).getD default)))))] [(Blk.mk Bool.false (Body.fl .f32 b0))])) (LO.one (Ex.exit 0) (St.mk [(0, (AV.v (TV.one (At.vw 0 0 sn 1)))), (1, (AV.v (TV.one (At.fn 98 [])))), (7, (AV.v (TV.one (At.int .i64 t7)))), (8, (AV.v (TV.one (At.int .i64 ((tR x).getD default).1)))), (9, (AV.v (TV.one (At.bool ((tR x).getD default).2))))] [(Blk.mk Bool.false (Body.fl .f32 b0))])))
theorem z86 (sn : Nat) (t7 : Int) (b0 : List Nat) : ∀ x : Option ((Int) ⊕ (Int × Bool)), x.isSome = true → (z1c sn t7 b0) x = some (pick (z7s sn t7 b0 x))
  | none, h => by cases h
  | some (Sum.inl r), _ => rfl
  | some (Sum.inr r), _ => rfl
theorem z8b (sn : Nat) (t7 : Int) (t8 : Int) (b0 : List Nat) (K : Ex → St → Option (Ex × St)) : evC (R := Ex × St) Γ4 (evFn Γ4 8 8) 97 1 fi97.nt fi97.live fi97.nl 8 (findL 2 (loopsIn fi97.code)) (St.mk [(0, (AV.v (TV.one (At.vw 0 0 sn 1)))), (1, (AV.v (TV.one (At.fn 98 [])))), (7, (AV.v (TV.one (At.int .i64 t7)))), (8, (AV.v (TV.one (At.int .i64 t8))))] [(Blk.mk Bool.false (Body.fl .f32 b0))]) K = z0f sn t7 b0 t8 (fun t8' => K .normal (St.mk [(0, (AV.v (TV.one (At.vw 0 0 sn 1)))), (1, (AV.v (TV.one (At.fn 98 [])))), (7, (AV.v (TV.one (At.int .i64 t7)))), (8, (AV.v (TV.one (At.int .i64 t8'))))] [(Blk.mk Bool.false (Body.fl .f32 b0))])) (fun c0_ => K Ex.ret (St.mk [(4, (AV.v (TV.one (At.int .i64 c0_))))] [(Blk.mk Bool.false (Body.fl .f32 b0))])) (fun c0_ c1_ => K (Ex.exit 0) (St.mk [(0, (AV.v (TV.one (At.vw 0 0 sn 1)))), (1, (AV.v (TV.one (At.fn 98 [])))), (7, (AV.v (TV.one (At.int .i64 t7)))), (8, (AV.v (TV.one (At.int .i64 c0_)))), (9, (AV.v (TV.one (At.bool c1_))))] [(Blk.mk Bool.false (Body.fl .f32 b0))])) := by kernel_rfl
theorem z88 (sn : Nat) (t7 : Int) (b0 : List Nat) : ∀ (n : Nat) (t8 : Int), iter 97 2 1 (evC (R := Ex × St) Γ4 (evFn Γ4 8 8) 97 1 fi97.nt fi97.live fi97.nl 8 (findL 2 (loopsIn fi97.code))) n (St.mk [(0, (AV.v (TV.one (At.vw 0 0 sn 1)))), (1, (AV.v (TV.one (At.fn 98 [])))), (7, (AV.v (TV.one (At.int .i64 t7)))), (8, (AV.v (TV.one (At.int .i64 t8))))] [(Blk.mk Bool.false (Body.fl .f32 b0))]) (fun e st => some (e, st)) = (z1c sn t7 b0) (z04 sn t7 b0 n t8) := by
  intro n
  induction n with
  | zero => intros; rfl
  | succ n ih =>
    intro t8
    refine Eq.trans (iter_succ ..) (Eq.trans (z8b sn t7 t8 b0 (nextK 97 2 1 (evC (R := Ex × St) Γ4 (evFn Γ4 8 8) 97 1 fi97.nt fi97.live fi97.nl 8 (findL 2 (loopsIn fi97.code))) n (fun e st => some (e, st)))) (Eq.trans ?_ (z6p sn t7 b0 t8 (z1c sn t7 b0) rfl (fun t8' => z04 sn t7 b0 n t8') (fun c0_ => some (Sum.inl c0_)) (fun c0_ c1_ => some (Sum.inr (c0_, c1_))))))
    exact congrArg (fun kn_ => z0f sn t7 b0 t8 kn_ (fun c0_ => (z1c sn t7 b0) (some (Sum.inl c0_))) (fun c0_ c1_ => (z1c sn t7 b0) (some (Sum.inr (c0_, c1_))))) (funext fun t8' => ih t8')
theorem z6x : LoopOne Try.prog fnTab 97 2 z44 := lp_of (Γ := Γ4) tyTab_ok (FnL.ok fnTab_ok _ _) (LpL.ok lt4_ok) (SumL.ok tb4_ok fnTab_ok _) mixed (fi := fi97) (by kernel_rfl) (by kernel_rfl) (by
  intro lo st out hp
  obtain ⟨hs, e1, e2, e3⟩ := lpT_inv hp
  clear hp
  obtain rfl : st = (St.mk [(0, (AV.v (TV.one (At.vw 0 0 (hvN (hGet hs 0)) 1)))), (1, (AV.v (TV.one (At.fn 98 [])))), (7, (AV.v (TV.one (At.int .i64 (hvI (hGet hs 1)))))), (8, (AV.v (TV.one (At.int .i64 (hvI (hGet hs 2))))))] [(Blk.mk Bool.false (Body.fl .f32 (hvLn (hGet hs 3))))]) := e2.trans (by kernel_rfl)
  clear e2
  subst e1
  unfold z3k at e3
  injection e3 with h1 h2
  subst h2
  exact ⟨8, 8, big, Eq.trans (z88 (hvN (hGet hs 0)) (hvI (hGet hs 1)) (hvLn (hGet hs 3)) big (hvI (hGet hs 2))) (z86 (hvN (hGet hs 0)) (hvI (hGet hs 1)) (hvLn (hGet hs 3)) (z04 (hvN (hGet hs 0)) (hvI (hGet hs 1)) (hvLn (hGet hs 3)) big (hvI (hGet hs 2))) h1)⟩)
noncomputable def tb5 : List (Nat × (List PT → Option (Bool × AV × List Blk))) := (23, zay) :: (46, zcp) :: (97, z2s) :: tb4
noncomputable def lt5 : List ((Nat × Nat) × (Nat → St → Option (Bool × LO))) := ((97, 2), z44) :: lt4
noncomputable def Γ5 : Ctx := ⟨tyTab, fnTab, tblSum tb5, tblLp lt5⟩
theorem tb5_ok : SumL Try.prog tb5 := SumL.cons zeq (SumL.cons zgq (SumL.cons z82 (tb4_ok)))
theorem lt5_ok : LpL Try.prog fnTab lt5 := LpL.cons z6x (lt4_ok)
noncomputable def z2x : List PT → Option (Bool × AV × List Blk)
  | [.one (.row 1 s_n (.fl .f32 s)), .fn 98 []] => some ((z28 s_n s), ((AV.v (TV.one (At.int .i64 (z25 s_n s)))), []))
  | _ => none
def z4z (s_n : Nat) (s : List Nat) : Option (Int) → Option (AV × List Blk)
  | some r => some ((AV.v (TV.one (At.int .i64 r))), [])
  | none => none
theorem z9f (s_n : Nat) (s : List Nat) : evFn Γ5 8 8 97 (impTs 0 [.one (.row 1 s_n (.fl .f32 s)), .fn 98 []]).1 (impTs 0 [.one (.row 1 s_n (.fl .f32 s)), .fn 98 []]).2 (expo (impTs 0 [.one (.row 1 s_n (.fl .f32 s)), .fn 98 []]).2.length) = z17 s_n s (fun c0_ => some ((AV.v (TV.one (At.int .i64 c0_))), [])) := by kernel_rfl
theorem z89 : SumOne Try.prog 97 z2x := sum_of (Γ := Γ5) (fuel := 8) (d := 8) tyTab_ok (FnL.ok fnTab_ok _ _) (LpL.ok lt5_ok) (SumL.ok tb5_ok fnTab_ok _) mixed (by
  intro pts v news hp hc
  clear hc
  unfold z2x at hp
  split at hp
  · rename_i s_n s
    exact Eq.trans (Eq.trans (z9f s_n s) (z7u s_n s (z4z s_n s) rfl (fun c0_ => some c0_))) (fin_out (o := (z4z s_n s)) (x := z16 s_n s) (d := default) (V := fun r => ((AV.v (TV.one (At.int .i64 r))), [])) (fun r => rfl) hp)
  · cases hp)
noncomputable def tb6 : List (Nat × (List PT → Option (Bool × AV × List Blk))) := (97, z2x) :: tb5
noncomputable def lt6 : List ((Nat × Nat) × (Nat → St → Option (Bool × LO))) := lt5
noncomputable def Γ6 : Ctx := ⟨tyTab, fnTab, tblSum tb6, tblLp lt6⟩
theorem tb6_ok : SumL Try.prog tb6 := SumL.cons z89 (tb5_ok)
theorem lt6_ok : LpL Try.prog fnTab lt6 := lt5_ok
noncomputable def z2n : List PT → Option (Bool × AV × List Blk)
  | [.one (.row 1 s_n (.fl .f32 s)), .fn 94 []] => some ((z1q s_n s), ((AV.v (TV.one (At.bool (z1n s_n s)))), []))
  | _ => none
def z3u (s_n : Nat) (s : List Nat) : Option (Bool) → Option (AV × List Blk)
  | some r => some ((AV.v (TV.one (At.bool r))), [])
  | none => none
theorem z80 (s_n : Nat) (s : List Nat) : evFn Γ6 8 8 75 (impTs 0 [.one (.row 1 s_n (.fl .f32 s)), .fn 94 []]).1 (impTs 0 [.one (.row 1 s_n (.fl .f32 s)), .fn 94 []]).2 (expo (impTs 0 [.one (.row 1 s_n (.fl .f32 s)), .fn 94 []]).2.length) = z0z s_n s (fun c0_ => some ((AV.v (TV.one (At.bool c0_))), [])) := by kernel_rfl
theorem z6r : SumOne Try.prog 75 z2n := sum_of (Γ := Γ6) (fuel := 8) (d := 8) tyTab_ok (FnL.ok fnTab_ok _ _) (LpL.ok lt6_ok) (SumL.ok tb6_ok fnTab_ok _) mixed (by
  intro pts v news hp hc
  clear hc
  unfold z2n at hp
  split at hp
  · rename_i s_n s
    exact Eq.trans (Eq.trans (z80 s_n s) (z65 s_n s (z3u s_n s) rfl (fun c0_ => some c0_))) (fin_out (o := (z3u s_n s)) (x := z0w s_n s) (d := default) (V := fun r => ((AV.v (TV.one (At.bool r))), [])) (fun r => rfl) hp)
  · cases hp)
noncomputable def z2p : List PT → Option (Bool × AV × List Blk)
  | [.one (.row 1 s_n (.fl .f32 s)), .fn 98 []] => some ((z1u s_n s), ((AV.v (TV.one (At.bool (z1p s_n s)))), []))
  | _ => none
def z43 (s_n : Nat) (s : List Nat) : Option (Bool) → Option (AV × List Blk)
  | some r => some ((AV.v (TV.one (At.bool r))), [])
  | none => none
theorem z85 (s_n : Nat) (s : List Nat) : evFn Γ6 8 8 75 (impTs 0 [.one (.row 1 s_n (.fl .f32 s)), .fn 98 []]).1 (impTs 0 [.one (.row 1 s_n (.fl .f32 s)), .fn 98 []]).2 (expo (impTs 0 [.one (.row 1 s_n (.fl .f32 s)), .fn 98 []]).2.length) = z13 s_n s (fun c0_ => some ((AV.v (TV.one (At.bool c0_))), [])) := by kernel_rfl
theorem z6w : SumOne Try.prog 75 z2p := sum_of (Γ := Γ6) (fuel := 8) (d := 8) tyTab_ok (FnL.ok fnTab_ok _ _) (LpL.ok lt6_ok) (SumL.ok tb6_ok fnTab_ok _) mixed (by
  intro pts v news hp hc
  clear hc
  unfold z2p at hp
  split at hp
  · rename_i s_n s
    exact Eq.trans (Eq.trans (z85 s_n s) (z6t s_n s (z43 s_n s) rfl (fun c0_ => some c0_))) (fin_out (o := (z43 s_n s)) (x := z11 s_n s) (d := default) (V := fun r => ((AV.v (TV.one (At.bool r))), [])) (fun r => rfl) hp)
  · cases hp)
noncomputable def tb7 : List (Nat × (List PT → Option (Bool × AV × List Blk))) := (75, z2n) :: (75, z2p) :: tb6
noncomputable def lt7 : List ((Nat × Nat) × (Nat → St → Option (Bool × LO))) := lt6
noncomputable def Γ7 : Ctx := ⟨tyTab, fnTab, tblSum tb7, tblLp lt7⟩
theorem tb7_ok : SumL Try.prog tb7 := SumL.cons z6r (SumL.cons z6w (tb6_ok))
theorem lt7_ok : LpL Try.prog fnTab lt7 := lt6_ok
noncomputable def zaz : List PT → Option (Bool × AV × List Blk)
  | [.one (.row 1 q0v (.fl .f32 q16))] => some ((z97 q0v q16), ((AV.v (TV.one (At.bool (z7k q0v q16)))), []))
  | _ => none
def zcv (q0v : Nat) (q16 : List Nat) : Option (Bool) → Option (AV × List Blk)
  | some r => some ((AV.v (TV.one (At.bool r))), [])
  | none => none
theorem zg9 (q0v : Nat) (q16 : List Nat) : evFn Γ7 8 8 71 (impTs 0 [.one (.row 1 q0v (.fl .f32 q16))]).1 (impTs 0 [.one (.row 1 q0v (.fl .f32 q16))]).2 (expo (impTs 0 [.one (.row 1 q0v (.fl .f32 q16))]).2.length) = z52 q0v q16 (fun c0_ => some ((AV.v (TV.one (At.bool c0_))), [])) := by kernel_rfl
theorem zep : SumOne Try.prog 71 zaz := sum_of (Γ := Γ7) (fuel := 8) (d := 8) tyTab_ok (FnL.ok fnTab_ok _ _) (LpL.ok lt7_ok) (SumL.ok tb7_ok fnTab_ok _) mixed (by
  intro pts v news hp hc
  clear hc
  unfold zaz at hp
  split at hp
  · rename_i q0v q16
    exact Eq.trans (Eq.trans (zg9 q0v q16) (zeb q0v q16 (zcv q0v q16) rfl (fun c0_ => some c0_))) (fin_out (o := (zcv q0v q16)) (x := z54 q0v q16) (d := default) (V := fun r => ((AV.v (TV.one (At.bool r))), [])) (fun r => rfl) hp)
  · cases hp)
noncomputable def zb8 : List PT → Option (Bool × AV × List Blk)
  | [.one (.row 1 q0v (.fl .f32 q16))] => some ((za2 q0v q16), ((AV.v (TV.one (At.bool (z8u q0v q16)))), []))
  | _ => none
def zd8 (q0v : Nat) (q16 : List Nat) : Option (Bool) → Option (AV × List Blk)
  | some r => some ((AV.v (TV.one (At.bool r))), [])
  | none => none
theorem zgl (q0v : Nat) (q16 : List Nat) : evFn Γ7 8 8 78 (impTs 0 [.one (.row 1 q0v (.fl .f32 q16))]).1 (impTs 0 [.one (.row 1 q0v (.fl .f32 q16))]).2 (expo (impTs 0 [.one (.row 1 q0v (.fl .f32 q16))]).2.length) = z5e q0v q16 (fun c0_ => some ((AV.v (TV.one (At.bool c0_))), [])) := by kernel_rfl
theorem zfj : SumOne Try.prog 78 zb8 := sum_of (Γ := Γ7) (fuel := 8) (d := 8) tyTab_ok (FnL.ok fnTab_ok _ _) (LpL.ok lt7_ok) (SumL.ok tb7_ok fnTab_ok _) mixed (by
  intro pts v news hp hc
  clear hc
  unfold zb8 at hp
  split at hp
  · rename_i q0v q16
    exact Eq.trans (Eq.trans (zgl q0v q16) (zf4 q0v q16 (zd8 q0v q16) rfl (fun c0_ => some c0_))) (fin_out (o := (zd8 q0v q16)) (x := z5i q0v q16) (d := default) (V := fun r => ((AV.v (TV.one (At.bool r))), [])) (fun r => rfl) hp)
  · cases hp)
noncomputable def zbh (t1 : Nat) (t2 : Nat) (t3 : Nat) (t11 : Bool) (t12 : Int) (b0 : List Nat) (b1 : List Nat) (b2 : List Nat) (q06 : Nat) (q08 : Nat) (q09 : Nat) (q0t : Nat) (q0u : Nat) (q0s : Nat) (b6 : List Nat) (b7 : List Nat) (b8 : List Nat) : Bool × LO := ((z5n t1 t2 t3 b0 b1 b2 q06 q08 q09 t11 t12 q0t q0u q0s b6 b7 b8), (LO.one (Ex.exit 0) (St.mk [(1, (AV.v (TV.one (At.flt .f32 t1)))), (2, (AV.v (TV.one (At.flt .f32 t2)))), (3, (AV.v (TV.one (At.flt .f32 t3)))), (4, (AV.v (TV.one (At.ptr 3 0 3)))), (8, (AV.v (TV.one (At.ptr 4 0 3)))), (10, (AV.v (TV.one (At.ptr 5 0 3)))), (11, (AV.v (TV.one (At.bool (z4a t1 t2 t3 b0 b1 b2 q06 q08 q09 t11 t12 q0t q0u q0s b6 b7 b8))))), (12, (AV.v (TV.one (At.int .i64 (z92 t1 t2 t3 b0 b1 b2 q06 q08 q09 t11 t12 q0t q0u q0s b6 b7 b8))))), (30, (AV.v (TV.one (At.bool (z8p t1 t2 t3 b0 b1 b2 q06 q08 q09 t11 t12 q0t q0u q0s b6 b7 b8)))))] [(Blk.mk Bool.false (Body.fl .f32 b0)), (Blk.mk Bool.false (Body.fl .f32 b1)), (Blk.mk Bool.false (Body.fl .f32 b2)), (Blk.mk Bool.true (Body.cells [(At.vw 0 0 q06 1), (At.vw 1 0 q08 1), (At.vw 2 0 q09 1)])), (Blk.mk Bool.true (Body.cells [At.nilsl, At.nilsl, At.nilsl])), (Blk.mk Bool.true (Body.cells [(At.sl 6 0 (z0d t1 t2 t3 b0 b1 b2 q06 q08 q09 t11 t12 q0t q0u q0s b6 b7 b8) 1), (At.sl 7 0 (z0c t1 t2 t3 b0 b1 b2 q06 q08 q09 t11 t12 q0t q0u q0s b6 b7 b8) 1), (At.sl 8 0 (z0b t1 t2 t3 b0 b1 b2 q06 q08 q09 t11 t12 q0t q0u q0s b6 b7 b8) 1)])), (Blk.mk Bool.true (Body.fl .f32 (z0k t1 t2 t3 b0 b1 b2 q06 q08 q09 t11 t12 q0t q0u q0s b6 b7 b8))), (Blk.mk Bool.true (Body.fl .f32 (z0j t1 t2 t3 b0 b1 b2 q06 q08 q09 t11 t12 q0t q0u q0s b6 b7 b8))), (Blk.mk Bool.true (Body.fl .f32 (z0i t1 t2 t3 b0 b1 b2 q06 q08 q09 t11 t12 q0t q0u q0s b6 b7 b8)))])))
noncomputable def zc9 : Nat → St → Option (Bool × LO) := lpT 3 (pSt [(pTm 1 (pV (pOne (pFlt .f32)))), (pTm 2 (pV (pOne (pFlt .f32)))), (pTm 3 (pV (pOne (pFlt .f32)))), (pTm 4 (pV (pOne (pPtr 3 (liN 0) 3)))), (pTm 8 (pV (pOne (pPtr 4 (liN 0) 3)))), (pTm 10 (pV (pOne (pPtr 5 (liN 0) 3)))), (pTm 11 (pV (pOne pBool))), (pTm 12 (pV (pOne (pInt .i64))))] [(pBlk Bool.false (pFl .f32)), (pBlk Bool.false (pFl .f32)), (pBlk Bool.false (pFl .f32)), (pBlk Bool.true (pCells [(pVw 0 (liN 0) 1), (pVw 1 (liN 0) 1), (pVw 2 (liN 0) 1)])), (pBlk Bool.true (pCells [pNil, pNil, pNil])), (pBlk Bool.true (pCells [(pSl 6 (liN 0) 1), (pSl 7 (liN 0) 1), (pSl 8 (liN 0) 1)])), (pBlk Bool.true (pFl .f32)), (pBlk Bool.true (pFl .f32)), (pBlk Bool.true (pFl .f32))]) (fun hs => zbh (hvN (hGet hs 0)) (hvN (hGet hs 1)) (hvN (hGet hs 2)) (hvB (hGet hs 3)) (hvI (hGet hs 4)) (hvLn (hGet hs 5)) (hvLn (hGet hs 6)) (hvLn (hGet hs 7)) (hvN (hGet hs 8)) (hvN (hGet hs 9)) (hvN (hGet hs 10)) (hvN (hGet hs 11)) (hvN (hGet hs 12)) (hvN (hGet hs 13)) (hvLn (hGet hs 14)) (hvLn (hGet hs 15)) (hvLn (hGet hs 16)))
def z7i (t1 : Nat) (t2 : Nat) (t3 : Nat) (b0 : List Nat) (b1 : List Nat) (b2 : List Nat) (q06 : Nat) (q08 : Nat) (q09 : Nat) : Option ((Bool × Int × Bool × Nat × Nat × Nat × (List Nat) × (List Nat) × (List Nat))) → Option (Ex × St)
  | none => none
  | some r => some ((Ex.exit 0), (St.mk [(1, (AV.v (TV.one (At.flt .f32 t1)))), (2, (AV.v (TV.one (At.flt .f32 t2)))), (3, (AV.v (TV.one (At.flt .f32 t3)))), (4, (AV.v (TV.one (At.ptr 3 0 3)))), (8, (AV.v (TV.one (At.ptr 4 0 3)))), (10, (AV.v (TV.one (At.ptr 5 0 3)))), (11, (AV.v (TV.one (At.bool r.1)))), (12, (AV.v (TV.one (At.int .i64 r.2.1)))), (30, (AV.v (TV.one (At.bool r.2.2.1))))] [(Blk.mk Bool.false (Body.fl .f32 b0)), (Blk.mk Bool.false (Body.fl .f32 b1)), (Blk.mk Bool.false (Body.fl .f32 b2)), (Blk.mk Bool.true (Body.cells [(At.vw 0 0 q06 1), (At.vw 1 0 q08 1), (At.vw 2 0 q09 1)])), (Blk.mk Bool.true (Body.cells [At.nilsl, At.nilsl, At.nilsl])), (Blk.mk Bool.true (Body.cells [(At.sl 6 0 r.2.2.2.1 1), (At.sl 7 0 r.2.2.2.2.1 1), (At.sl 8 0 r.2.2.2.2.2.1 1)])), (Blk.mk Bool.true (Body.fl .f32 r.2.2.2.2.2.2.1)), (Blk.mk Bool.true (Body.fl .f32 r.2.2.2.2.2.2.2.1)), (Blk.mk Bool.true (Body.fl .f32 r.2.2.2.2.2.2.2.2))]))
def zf6 (t1 : Nat) (t2 : Nat) (t3 : Nat) (b0 : List Nat) (b1 : List Nat) (b2 : List Nat) (q06 : Nat) (q08 : Nat) (q09 : Nat) (x : Option ((Bool × Int × Bool × Nat × Nat × Nat × (List Nat) × (List Nat) × (List Nat)))) : LO := (LO.one (Ex.exit 0) (St.mk [(1, (AV.v (TV.one (At.flt .f32 t1)))), (2, (AV.v (TV.one (At.flt .f32 t2)))), (3, (AV.v (TV.one (At.flt .f32 t3)))), (4, (AV.v (TV.one (At.ptr 3 0 3)))), (8, (AV.v (TV.one (At.ptr 4 0 3)))), (10, (AV.v (TV.one (At.ptr 5 0 3)))), (11, (AV.v (TV.one (At.bool (x.getD default).1)))), (12, (AV.v (TV.one (At.int .i64 (x.getD default).2.1)))), (30, (AV.v (TV.one (At.bool (x.getD default).2.2.1))))] [(Blk.mk Bool.false (Body.fl .f32 b0)), (Blk.mk Bool.false (Body.fl .f32 b1)), (Blk.mk Bool.false (Body.fl .f32 b2)), (Blk.mk Bool.true (Body.cells [(At.vw 0 0 q06 1), (At.vw 1 0 q08 1), (At.vw 2 0 q09 1)])), (Blk.mk Bool.true (Body.cells [At.nilsl, At.nilsl, At.nilsl])), (Blk.mk Bool.true (Body.cells [(At.sl 6 0 (x.getD default).2.2.2.1 1), (At.sl 7 0 (x.getD default).2.2.2.2.1 1), (At.sl 8 0 (x.getD default).2.2.2.2.2.1 1)])), (Blk.mk Bool.true (Body.fl .f32 (x.getD default).2.2.2.2.2.2.1)), (Blk.mk Bool.true (Body.fl .f32 (x.getD default).2.2.2.2.2.2.2.1)), (Blk.mk Bool.true (Body.fl .f32 (x.getD default).2.2.2.2.2.2.2.2))]))
theorem zg1 (t1 : Nat) (t2 : Nat) (t3 : Nat) (b0 : List Nat) (b1 : List Nat) (b2 : List Nat) (q06 : Nat) (q08 : Nat) (q09 : Nat) : ∀ x : Option ((Bool × Int × Bool × Nat × Nat × Nat × (List Nat) × (List Nat) × (List Nat))), x.isSome = true → (z7i t1 t2 t3 b0 b1 b2 q06 q08 q09) x = some (pick (zf6 t1 t2 t3 b0 b1 b2 q06 q08 q09 x))
  | none, h => by cases h
  | some r, _ => rfl
theorem zfv (t1 : Nat) (t2 : Nat) (t3 : Nat) (t11 : Bool) (t12 : Int) (b0 : List Nat) (b1 : List Nat) (b2 : List Nat) (q06 : Nat) (q08 : Nat) (q09 : Nat) (q0t : Nat) (q0u : Nat) (q0s : Nat) (b6 : List Nat) (b7 : List Nat) (b8 : List Nat) (K : Ex → St → Option (Ex × St)) : evC (R := Ex × St) Γ7 (evFn Γ7 8 8) 20 3 fi20.nt fi20.live fi20.nl 8 (findL 6 (loopsIn fi20.code)) (St.mk [(1, (AV.v (TV.one (At.flt .f32 t1)))), (2, (AV.v (TV.one (At.flt .f32 t2)))), (3, (AV.v (TV.one (At.flt .f32 t3)))), (4, (AV.v (TV.one (At.ptr 3 0 3)))), (8, (AV.v (TV.one (At.ptr 4 0 3)))), (10, (AV.v (TV.one (At.ptr 5 0 3)))), (11, (AV.v (TV.one (At.bool t11)))), (12, (AV.v (TV.one (At.int .i64 t12))))] [(Blk.mk Bool.false (Body.fl .f32 b0)), (Blk.mk Bool.false (Body.fl .f32 b1)), (Blk.mk Bool.false (Body.fl .f32 b2)), (Blk.mk Bool.true (Body.cells [(At.vw 0 0 q06 1), (At.vw 1 0 q08 1), (At.vw 2 0 q09 1)])), (Blk.mk Bool.true (Body.cells [At.nilsl, At.nilsl, At.nilsl])), (Blk.mk Bool.true (Body.cells [(At.sl 6 0 q0t 1), (At.sl 7 0 q0u 1), (At.sl 8 0 q0s 1)])), (Blk.mk Bool.true (Body.fl .f32 b6)), (Blk.mk Bool.true (Body.fl .f32 b7)), (Blk.mk Bool.true (Body.fl .f32 b8))]) K = z1v t1 t2 t3 b0 b1 b2 q06 q08 q09 t11 t12 q0t q0u q0s b6 b7 b8 (fun t11' t12' q0t' q0u' q0s' b6' b7' b8' => K .normal (St.mk [(1, (AV.v (TV.one (At.flt .f32 t1)))), (2, (AV.v (TV.one (At.flt .f32 t2)))), (3, (AV.v (TV.one (At.flt .f32 t3)))), (4, (AV.v (TV.one (At.ptr 3 0 3)))), (8, (AV.v (TV.one (At.ptr 4 0 3)))), (10, (AV.v (TV.one (At.ptr 5 0 3)))), (11, (AV.v (TV.one (At.bool t11')))), (12, (AV.v (TV.one (At.int .i64 t12'))))] [(Blk.mk Bool.false (Body.fl .f32 b0)), (Blk.mk Bool.false (Body.fl .f32 b1)), (Blk.mk Bool.false (Body.fl .f32 b2)), (Blk.mk Bool.true (Body.cells [(At.vw 0 0 q06 1), (At.vw 1 0 q08 1), (At.vw 2 0 q09 1)])), (Blk.mk Bool.true (Body.cells [At.nilsl, At.nilsl, At.nilsl])), (Blk.mk Bool.true (Body.cells [(At.sl 6 0 q0t' 1), (At.sl 7 0 q0u' 1), (At.sl 8 0 q0s' 1)])), (Blk.mk Bool.true (Body.fl .f32 b6')), (Blk.mk Bool.true (Body.fl .f32 b7')), (Blk.mk Bool.true (Body.fl .f32 b8'))])) (fun c0_ c1_ c2_ c3_ c4_ c5_ c6_ c7_ c8_ => K (Ex.exit 0) (St.mk [(1, (AV.v (TV.one (At.flt .f32 t1)))), (2, (AV.v (TV.one (At.flt .f32 t2)))), (3, (AV.v (TV.one (At.flt .f32 t3)))), (4, (AV.v (TV.one (At.ptr 3 0 3)))), (8, (AV.v (TV.one (At.ptr 4 0 3)))), (10, (AV.v (TV.one (At.ptr 5 0 3)))), (11, (AV.v (TV.one (At.bool c0_)))), (12, (AV.v (TV.one (At.int .i64 c1_)))), (30, (AV.v (TV.one (At.bool c2_))))] [(Blk.mk Bool.false (Body.fl .f32 b0)), (Blk.mk Bool.false (Body.fl .f32 b1)), (Blk.mk Bool.false (Body.fl .f32 b2)), (Blk.mk Bool.true (Body.cells [(At.vw 0 0 q06 1), (At.vw 1 0 q08 1), (At.vw 2 0 q09 1)])), (Blk.mk Bool.true (Body.cells [At.nilsl, At.nilsl, At.nilsl])), (Blk.mk Bool.true (Body.cells [(At.sl 6 0 c3_ 1), (At.sl 7 0 c4_ 1), (At.sl 8 0 c5_ 1)])), (Blk.mk Bool.true (Body.fl .f32 c6_)), (Blk.mk Bool.true (Body.fl .f32 c7_)), (Blk.mk Bool.true (Body.fl .f32 c8_))])) := by kernel_rfl
theorem zfx (t1 : Nat) (t2 : Nat) (t3 : Nat) (b0 : List Nat) (b1 : List Nat) (b2 : List Nat) (q06 : Nat) (q08 : Nat) (q09 : Nat) : ∀ (n : Nat) (t11 : Bool) (t12 : Int) (q0t : Nat) (q0u : Nat) (q0s : Nat) (b6 : List Nat) (b7 : List Nat) (b8 : List Nat), iter 20 6 3 (evC (R := Ex × St) Γ7 (evFn Γ7 8 8) 20 3 fi20.nt fi20.live fi20.nl 8 (findL 6 (loopsIn fi20.code))) n (St.mk [(1, (AV.v (TV.one (At.flt .f32 t1)))), (2, (AV.v (TV.one (At.flt .f32 t2)))), (3, (AV.v (TV.one (At.flt .f32 t3)))), (4, (AV.v (TV.one (At.ptr 3 0 3)))), (8, (AV.v (TV.one (At.ptr 4 0 3)))), (10, (AV.v (TV.one (At.ptr 5 0 3)))), (11, (AV.v (TV.one (At.bool t11)))), (12, (AV.v (TV.one (At.int .i64 t12))))] [(Blk.mk Bool.false (Body.fl .f32 b0)), (Blk.mk Bool.false (Body.fl .f32 b1)), (Blk.mk Bool.false (Body.fl .f32 b2)), (Blk.mk Bool.true (Body.cells [(At.vw 0 0 q06 1), (At.vw 1 0 q08 1), (At.vw 2 0 q09 1)])), (Blk.mk Bool.true (Body.cells [At.nilsl, At.nilsl, At.nilsl])), (Blk.mk Bool.true (Body.cells [(At.sl 6 0 q0t 1), (At.sl 7 0 q0u 1), (At.sl 8 0 q0s 1)])), (Blk.mk Bool.true (Body.fl .f32 b6)), (Blk.mk Bool.true (Body.fl .f32 b7)), (Blk.mk Bool.true (Body.fl .f32 b8))]) (fun e st => some (e, st)) = (z7i t1 t2 t3 b0 b1 b2 q06 q08 q09) (z0l t1 t2 t3 b0 b1 b2 q06 q08 q09 n t11 t12 q0t q0u q0s b6 b7 b8) := by
  intro n
  induction n with
  | zero => intros; rfl
  | succ n ih =>
    intro t11 t12 q0t q0u q0s b6 b7 b8
    refine Eq.trans (iter_succ ..) (Eq.trans (zfv t1 t2 t3 t11 t12 b0 b1 b2 q06 q08 q09 q0t q0u q0s b6 b7 b8 (nextK 20 6 3 (evC (R := Ex × St) Γ7 (evFn Γ7 8 8) 20 3 fi20.nt fi20.live fi20.nl 8 (findL 6 (loopsIn fi20.code))) n (fun e st => some (e, st)))) (Eq.trans ?_ (ze0 t1 t2 t3 b0 b1 b2 q06 q08 q09 t11 t12 q0t q0u q0s b6 b7 b8 (z7i t1 t2 t3 b0 b1 b2 q06 q08 q09) rfl (fun t11' t12' q0t' q0u' q0s' b6' b7' b8' => z0l t1 t2 t3 b0 b1 b2 q06 q08 q09 n t11' t12' q0t' q0u' q0s' b6' b7' b8') (fun c0_ c1_ c2_ c3_ c4_ c5_ c6_ c7_ c8_ => some (c0_, c1_, c2_, c3_, c4_, c5_, c6_, c7_, c8_)))))
    exact congrArg (fun kn_ => z1v t1 t2 t3 b0 b1 b2 q06 q08 q09 t11 t12 q0t q0u q0s b6 b7 b8 kn_ (fun c0_ c1_ c2_ c3_ c4_ c5_ c6_ c7_ c8_ => (z7i t1 t2 t3 b0 b1 b2 q06 q08 q09) (some (c0_, c1_, c2_, c3_, c4_, c5_, c6_, c7_, c8_)))) (funext fun t11' => funext fun t12' => funext fun q0t' => funext fun q0u' => funext fun q0s' => funext fun b6' => funext fun b7' => funext fun b8' => ih t11' t12' q0t' q0u' q0s' b6' b7' b8')
theorem zej : LoopOne Try.prog fnTab 20 6 zc9 := lp_of (Γ := Γ7) tyTab_ok (FnL.ok fnTab_ok _ _) (LpL.ok lt7_ok) (SumL.ok tb7_ok fnTab_ok _) mixed (fi := fi20) (by kernel_rfl) (by kernel_rfl) (by
  intro lo st out hp
  obtain ⟨hs, e1, e2, e3⟩ := lpT_inv hp
  clear hp
  obtain rfl : st = (St.mk [(1, (AV.v (TV.one (At.flt .f32 (hvN (hGet hs 0)))))), (2, (AV.v (TV.one (At.flt .f32 (hvN (hGet hs 1)))))), (3, (AV.v (TV.one (At.flt .f32 (hvN (hGet hs 2)))))), (4, (AV.v (TV.one (At.ptr 3 0 3)))), (8, (AV.v (TV.one (At.ptr 4 0 3)))), (10, (AV.v (TV.one (At.ptr 5 0 3)))), (11, (AV.v (TV.one (At.bool (hvB (hGet hs 3)))))), (12, (AV.v (TV.one (At.int .i64 (hvI (hGet hs 4))))))] [(Blk.mk Bool.false (Body.fl .f32 (hvLn (hGet hs 5)))), (Blk.mk Bool.false (Body.fl .f32 (hvLn (hGet hs 6)))), (Blk.mk Bool.false (Body.fl .f32 (hvLn (hGet hs 7)))), (Blk.mk Bool.true (Body.cells [(At.vw 0 0 (hvN (hGet hs 8)) 1), (At.vw 1 0 (hvN (hGet hs 9)) 1), (At.vw 2 0 (hvN (hGet hs 10)) 1)])), (Blk.mk Bool.true (Body.cells [At.nilsl, At.nilsl, At.nilsl])), (Blk.mk Bool.true (Body.cells [(At.sl 6 0 (hvN (hGet hs 11)) 1), (At.sl 7 0 (hvN (hGet hs 12)) 1), (At.sl 8 0 (hvN (hGet hs 13)) 1)])), (Blk.mk Bool.true (Body.fl .f32 (hvLn (hGet hs 14)))), (Blk.mk Bool.true (Body.fl .f32 (hvLn (hGet hs 15)))), (Blk.mk Bool.true (Body.fl .f32 (hvLn (hGet hs 16))))]) := e2.trans (by kernel_rfl)
  clear e2
  subst e1
  unfold zbh at e3
  injection e3 with h1 h2
  subst h2
  exact ⟨8, 8, big, Eq.trans (zfx (hvN (hGet hs 0)) (hvN (hGet hs 1)) (hvN (hGet hs 2)) (hvLn (hGet hs 5)) (hvLn (hGet hs 6)) (hvLn (hGet hs 7)) (hvN (hGet hs 8)) (hvN (hGet hs 9)) (hvN (hGet hs 10)) big (hvB (hGet hs 3)) (hvI (hGet hs 4)) (hvN (hGet hs 11)) (hvN (hGet hs 12)) (hvN (hGet hs 13)) (hvLn (hGet hs 14)) (hvLn (hGet hs 15)) (hvLn (hGet hs 16))) (zg1 (hvN (hGet hs 0)) (hvN (hGet hs 1)) (hvN (hGet hs 2)) (hvLn (hGet hs 5)) (hvLn (hGet hs 6)) (hvLn (hGet hs 7)) (hvN (hGet hs 8)) (hvN (hGet hs 9)) (hvN (hGet hs 10)) (z0l (hvN (hGet hs 0)) (hvN (hGet hs 1)) (hvN (hGet hs 2)) (hvLn (hGet hs 5)) (hvLn (hGet hs 6)) (hvLn (hGet hs 7)) (hvN (hGet hs 8)) (hvN (hGet hs 9)) (hvN (hGet hs 10)) big (hvB (hGet hs 3)) (hvI (hGet hs 4)) (hvN (hGet hs 11)) (hvN (hGet hs 12)) (hvN (hGet hs 13)) (hvLn (hGet hs 14)) (hvLn (hGet hs 15)) (hvLn (hGet hs 16))) h1)⟩)
noncomputable def tb8 : List (Nat × (List PT → Option (Bool × AV × List Blk))) := (71, zaz) :: (78, zb8) :: tb7
noncomputable def lt8 : List ((Nat × Nat) × (Nat → St → Option (Bool × LO))) := ((20, 6), zc9) :: lt7
noncomputable def Γ8 : Ctx := ⟨tyTab, fnTab, tblSum tb8, tblLp lt8⟩
theorem tb8_ok : SumL Try.prog tb8 := SumL.cons zep (SumL.cons zfj (tb7_ok))
theorem lt8_ok : LpL Try.prog fnTab lt8 := LpL.cons zej (lt7_ok)
noncomputable def zbl : List PT → Option (Bool × AV × List Blk)
  | [.agg [.row 1 q00 (.fl .f32 q03), .row 1 q01 (.fl .f32 q04), .row 1 q02 (.fl .f32 q05)], .one (.s (.flt .f32 x1)), .one (.s (.flt .f32 x2)), .one (.s (.flt .f32 x3))] => some ((zak q00 q03 q01 q04 q02 q05 x1 x2 x3), ((AV.tup [(TV.agg [(At.sl 0 0 (z9l q00 q03 q01 q04 q02 q05 x1 x2 x3) 1), (At.sl 1 0 (z9s q00 q03 q01 q04 q02 q05 x1 x2 x3) 1), (At.sl 2 0 (z9q q00 q03 q01 q04 q02 q05 x1 x2 x3) 1)]), (TV.one (At.bool (z9r q00 q03 q01 q04 q02 q05 x1 x2 x3)))]), [(Blk.mk Bool.true (Body.fl .f32 (z9n q00 q03 q01 q04 q02 q05 x1 x2 x3))), (Blk.mk Bool.true (Body.fl .f32 (z9v q00 q03 q01 q04 q02 q05 x1 x2 x3))), (Blk.mk Bool.true (Body.fl .f32 (z9t q00 q03 q01 q04 q02 q05 x1 x2 x3)))]))
  | _ => none
def zdu (q00 : Nat) (q03 : List Nat) (q01 : Nat) (q04 : List Nat) (q02 : Nat) (q05 : List Nat) (x1 : Nat) (x2 : Nat) (x3 : Nat) : Option (Nat × Nat × Nat × Bool × (List Nat) × (List Nat) × (List Nat)) → Option (AV × List Blk)
  | some r => some ((AV.tup [(TV.agg [(At.sl 0 0 r.1 1), (At.sl 1 0 r.2.1 1), (At.sl 2 0 r.2.2.1 1)]), (TV.one (At.bool r.2.2.2.1))]), [(Blk.mk Bool.true (Body.fl .f32 r.2.2.2.2.1)), (Blk.mk Bool.true (Body.fl .f32 r.2.2.2.2.2.1)), (Blk.mk Bool.true (Body.fl .f32 r.2.2.2.2.2.2))])
  | none => none
theorem zgs (q00 : Nat) (q03 : List Nat) (q01 : Nat) (q04 : List Nat) (q02 : Nat) (q05 : List Nat) (x1 : Nat) (x2 : Nat) (x3 : Nat) : evFn Γ8 8 8 20 (impTs 0 [.agg [.row 1 q00 (.fl .f32 q03), .row 1 q01 (.fl .f32 q04), .row 1 q02 (.fl .f32 q05)], .one (.s (.flt .f32 x1)), .one (.s (.flt .f32 x2)), .one (.s (.flt .f32 x3))]).1 (impTs 0 [.agg [.row 1 q00 (.fl .f32 q03), .row 1 q01 (.fl .f32 q04), .row 1 q02 (.fl .f32 q05)], .one (.s (.flt .f32 x1)), .one (.s (.flt .f32 x2)), .one (.s (.flt .f32 x3))]).2 (expo (impTs 0 [.agg [.row 1 q00 (.fl .f32 q03), .row 1 q01 (.fl .f32 q04), .row 1 q02 (.fl .f32 q05)], .one (.s (.flt .f32 x1)), .one (.s (.flt .f32 x2)), .one (.s (.flt .f32 x3))]).2.length) = z57 q00 q03 q01 q04 q02 q05 x1 x2 x3 (fun c0_ c1_ c2_ c3_ c4_ c5_ c6_ => some ((AV.tup [(TV.agg [(At.sl 0 0 c0_ 1), (At.sl 1 0 c1_ 1), (At.sl 2 0 c2_ 1)]), (TV.one (At.bool c3_))]), [(Blk.mk Bool.true (Body.fl .f32 c4_)), (Blk.mk Bool.true (Body.fl .f32 c5_)), (Blk.mk Bool.true (Body.fl .f32 c6_))])) := by kernel_rfl
theorem zfl : SumOne Try.prog 20 zbl := sum_of (Γ := Γ8) (fuel := 8) (d := 8) tyTab_ok (FnL.ok fnTab_ok _ _) (LpL.ok lt8_ok) (SumL.ok tb8_ok fnTab_ok _) mixed (by
  intro pts v news hp hc
  clear hc
  unfold zbl at hp
  split at hp
  · rename_i q00 q03 q01 q04 q02 q05 x1 x2 x3
    exact Eq.trans (Eq.trans (zgs q00 q03 q01 q04 q02 q05 x1 x2 x3) (zfd q00 q03 q01 q04 q02 q05 x1 x2 x3 (zdu q00 q03 q01 q04 q02 q05 x1 x2 x3) rfl (fun c0_ c1_ c2_ c3_ c4_ c5_ c6_ => some (c0_, c1_, c2_, c3_, c4_, c5_, c6_)))) (fin_out (o := (zdu q00 q03 q01 q04 q02 q05 x1 x2 x3)) (x := z1h q00 q03 q01 q04 q02 q05 x1 x2 x3) (d := default) (V := fun r => ((AV.tup [(TV.agg [(At.sl 0 0 r.1 1), (At.sl 1 0 r.2.1 1), (At.sl 2 0 r.2.2.1 1)]), (TV.one (At.bool r.2.2.2.1))]), [(Blk.mk Bool.true (Body.fl .f32 r.2.2.2.2.1)), (Blk.mk Bool.true (Body.fl .f32 r.2.2.2.2.2.1)), (Blk.mk Bool.true (Body.fl .f32 r.2.2.2.2.2.2))])) (fun r => rfl) hp)
  · cases hp)
noncomputable def tb9 : List (Nat × (List PT → Option (Bool × AV × List Blk))) := (20, zbl) :: tb8
noncomputable def lt9 : List ((Nat × Nat) × (Nat → St → Option (Bool × LO))) := lt8
noncomputable def Γ9 : Ctx := ⟨tyTab, fnTab, tblSum tb9, tblLp lt9⟩
theorem tb9_ok : SumL Try.prog tb9 := SumL.cons zfl (tb8_ok)
theorem lt9_ok : LpL Try.prog fnTab lt9 := lt8_ok
noncomputable def za6 (q17 : Nat) (t43 : Int) (t44 : Int) (b0 : List Nat) (b1 : List Nat) (b2 : List Nat) (q06 : Nat) (q08 : Nat) (q09 : Nat) : Bool × LO := ((z2h q17 t43 b0 q06 t44), (LO.two (z2d q17 t43 b0 q06 t44) (LO.one Ex.ret (St.mk [(2, (AV.v (TV.one (At.bool Bool.false))))] [(Blk.mk Bool.false (Body.fl .f32 b0)), (Blk.mk Bool.false (Body.fl .f32 b1)), (Blk.mk Bool.false (Body.fl .f32 b2))])) (LO.one (Ex.exit 0) (St.mk [(1, (AV.v (TV.one (At.ptr 3 0 3)))), (42, (AV.v (TV.one (At.vw 0 0 q17 1)))), (43, (AV.v (TV.one (At.int .i64 t43)))), (44, (AV.v (TV.one (At.int .i64 (z5q q17 t43 b0 q06 t44))))), (45, (AV.v (TV.one (At.bool (z5t q17 t43 b0 q06 t44)))))] [(Blk.mk Bool.false (Body.fl .f32 b0)), (Blk.mk Bool.false (Body.fl .f32 b1)), (Blk.mk Bool.false (Body.fl .f32 b2)), (Blk.mk Bool.true (Body.cells [(At.vw 0 0 q06 1), (At.vw 1 0 q08 1), (At.vw 2 0 q09 1)]))]))))
noncomputable def zar : Nat → St → Option (Bool × LO) := lpT 3 (pSt [(pTm 1 (pV (pOne (pPtr 3 (liN 0) 3)))), (pTm 42 (pV (pOne (pVw 0 (liN 0) 1)))), (pTm 43 (pV (pOne (pInt .i64)))), (pTm 44 (pV (pOne (pInt .i64))))] [(pBlk Bool.false (pFl .f32)), (pBlk Bool.false (pFl .f32)), (pBlk Bool.false (pFl .f32)), (pBlk Bool.true (pCells [(pVw 0 (liN 0) 1), (pVw 1 (liN 0) 1), (pVw 2 (liN 0) 1)]))]) (fun hs => za6 (hvN (hGet hs 0)) (hvI (hGet hs 1)) (hvI (hGet hs 2)) (hvLn (hGet hs 3)) (hvLn (hGet hs 4)) (hvLn (hGet hs 5)) (hvN (hGet hs 6)) (hvN (hGet hs 7)) (hvN (hGet hs 8)))
def z3g (q17 : Nat) (t43 : Int) (b0 : List Nat) (b1 : List Nat) (b2 : List Nat) (q06 : Nat) (q08 : Nat) (q09 : Nat) : Option ((Unit) ⊕ (Int × Bool)) → Option (Ex × St)
  | none => none
  | some (Sum.inl r) => some (Ex.ret, (St.mk [(2, (AV.v (TV.one (At.bool Bool.false))))] [(Blk.mk Bool.false (Body.fl .f32 b0)), (Blk.mk Bool.false (Body.fl .f32 b1)), (Blk.mk Bool.false (Body.fl .f32 b2))]))
  | some (Sum.inr r) => some ((Ex.exit 0), (St.mk [(1, (AV.v (TV.one (At.ptr 3 0 3)))), (42, (AV.v (TV.one (At.vw 0 0 q17 1)))), (43, (AV.v (TV.one (At.int .i64 t43)))), (44, (AV.v (TV.one (At.int .i64 r.1)))), (45, (AV.v (TV.one (At.bool r.2))))] [(Blk.mk Bool.false (Body.fl .f32 b0)), (Blk.mk Bool.false (Body.fl .f32 b1)), (Blk.mk Bool.false (Body.fl .f32 b2)), (Blk.mk Bool.true (Body.cells [(At.vw 0 0 q06 1), (At.vw 1 0 q08 1), (At.vw 2 0 q09 1)]))]))
def zcz (q17 : Nat) (t43 : Int) (b0 : List Nat) (b1 : List Nat) (b2 : List Nat) (q06 : Nat) (q08 : Nat) (q09 : Nat) (x : Option ((Unit) ⊕ (Int × Bool))) : LO := (LO.two (oL x) (LO.one Ex.ret (St.mk [(2, (AV.v (TV.one (At.bool Bool.false))))] [(Blk.mk Bool.false (Body.fl .f32 b0)), (Blk.mk Bool.false (Body.fl .f32 b1)), (Blk.mk Bool.false (Body.fl .f32 b2))])) (LO.one (Ex.exit 0) (St.mk [(1, (AV.v (TV.one (At.ptr 3 0 3)))), (42, (AV.v (TV.one (At.vw 0 0 q17 1)))), (43, (AV.v (TV.one (At.int .i64 t43)))), (44, (AV.v (TV.one (At.int .i64 ((tR x).getD default).1)))), (45, (AV.v (TV.one (At.bool ((tR x).getD default).2))))] [(Blk.mk Bool.false (Body.fl .f32 b0)), (Blk.mk Bool.false (Body.fl .f32 b1)), (Blk.mk Bool.false (Body.fl .f32 b2)), (Blk.mk Bool.true (Body.cells [(At.vw 0 0 q06 1), (At.vw 1 0 q08 1), (At.vw 2 0 q09 1)]))])))
theorem zde (q17 : Nat) (t43 : Int) (b0 : List Nat) (b1 : List Nat) (b2 : List Nat) (q06 : Nat) (q08 : Nat) (q09 : Nat) : ∀ x : Option ((Unit) ⊕ (Int × Bool)), x.isSome = true → (z3g q17 t43 b0 b1 b2 q06 q08 q09) x = some (pick (zcz q17 t43 b0 b1 b2 q06 q08 q09 x))
  | none, h => by cases h
  | some (Sum.inl r), _ => rfl
  | some (Sum.inr r), _ => rfl
theorem zd9 (q17 : Nat) (t43 : Int) (t44 : Int) (b0 : List Nat) (b1 : List Nat) (b2 : List Nat) (q06 : Nat) (q08 : Nat) (q09 : Nat) (K : Ex → St → Option (Ex × St)) : evC (R := Ex × St) Γ9 (evFn Γ9 8 8) 51 3 fi51.nt fi51.live fi51.nl 8 (findL 5 (loopsIn fi51.code)) (St.mk [(1, (AV.v (TV.one (At.ptr 3 0 3)))), (42, (AV.v (TV.one (At.vw 0 0 q17 1)))), (43, (AV.v (TV.one (At.int .i64 t43)))), (44, (AV.v (TV.one (At.int .i64 t44))))] [(Blk.mk Bool.false (Body.fl .f32 b0)), (Blk.mk Bool.false (Body.fl .f32 b1)), (Blk.mk Bool.false (Body.fl .f32 b2)), (Blk.mk Bool.true (Body.cells [(At.vw 0 0 q06 1), (At.vw 1 0 q08 1), (At.vw 2 0 q09 1)]))]) K = z1l q17 t43 b0 q06 t44 (fun t44' => K .normal (St.mk [(1, (AV.v (TV.one (At.ptr 3 0 3)))), (42, (AV.v (TV.one (At.vw 0 0 q17 1)))), (43, (AV.v (TV.one (At.int .i64 t43)))), (44, (AV.v (TV.one (At.int .i64 t44'))))] [(Blk.mk Bool.false (Body.fl .f32 b0)), (Blk.mk Bool.false (Body.fl .f32 b1)), (Blk.mk Bool.false (Body.fl .f32 b2)), (Blk.mk Bool.true (Body.cells [(At.vw 0 0 q06 1), (At.vw 1 0 q08 1), (At.vw 2 0 q09 1)]))])) (fun _ => K Ex.ret (St.mk [(2, (AV.v (TV.one (At.bool Bool.false))))] [(Blk.mk Bool.false (Body.fl .f32 b0)), (Blk.mk Bool.false (Body.fl .f32 b1)), (Blk.mk Bool.false (Body.fl .f32 b2))])) (fun c0_ c1_ => K (Ex.exit 0) (St.mk [(1, (AV.v (TV.one (At.ptr 3 0 3)))), (42, (AV.v (TV.one (At.vw 0 0 q17 1)))), (43, (AV.v (TV.one (At.int .i64 t43)))), (44, (AV.v (TV.one (At.int .i64 c0_)))), (45, (AV.v (TV.one (At.bool c1_))))] [(Blk.mk Bool.false (Body.fl .f32 b0)), (Blk.mk Bool.false (Body.fl .f32 b1)), (Blk.mk Bool.false (Body.fl .f32 b2)), (Blk.mk Bool.true (Body.cells [(At.vw 0 0 q06 1), (At.vw 1 0 q08 1), (At.vw 2 0 q09 1)]))])) := by kernel_rfl
theorem zdk (q17 : Nat) (t43 : Int) (b0 : List Nat) (b1 : List Nat) (b2 : List Nat) (q06 : Nat) (q08 : Nat) (q09 : Nat) : ∀ (n : Nat) (t44 : Int), iter 51 5 3 (evC (R := Ex × St) Γ9 (evFn Γ9 8 8) 51 3 fi51.nt fi51.live fi51.nl 8 (findL 5 (loopsIn fi51.code))) n (St.mk [(1, (AV.v (TV.one (At.ptr 3 0 3)))), (42, (AV.v (TV.one (At.vw 0 0 q17 1)))), (43, (AV.v (TV.one (At.int .i64 t43)))), (44, (AV.v (TV.one (At.int .i64 t44))))] [(Blk.mk Bool.false (Body.fl .f32 b0)), (Blk.mk Bool.false (Body.fl .f32 b1)), (Blk.mk Bool.false (Body.fl .f32 b2)), (Blk.mk Bool.true (Body.cells [(At.vw 0 0 q06 1), (At.vw 1 0 q08 1), (At.vw 2 0 q09 1)]))]) (fun e st => some (e, st)) = (z3g q17 t43 b0 b1 b2 q06 q08 q09) (z0t q17 t43 b0 q06 n t44) := by
  intro n
  induction n with
  | zero => intros; rfl
  | succ n ih =>
    intro t44
    refine Eq.trans (iter_succ ..) (Eq.trans (zd9 q17 t43 t44 b0 b1 b2 q06 q08 q09 (nextK 51 5 3 (evC (R := Ex × St) Γ9 (evFn Γ9 8 8) 51 3 fi51.nt fi51.live fi51.nl 8 (findL 5 (loopsIn fi51.code))) n (fun e st => some (e, st)))) (Eq.trans ?_ (zbw q17 t43 b0 q06 t44 (z3g q17 t43 b0 b1 b2 q06 q08 q09) rfl (fun t44' => z0t q17 t43 b0 q06 n t44') (fun _ => some (Sum.inl ())) (fun c0_ c1_ => some (Sum.inr (c0_, c1_))))))
    exact congrArg (fun kn_ => z1l q17 t43 b0 q06 t44 kn_ (fun _ => (z3g q17 t43 b0 b1 b2 q06 q08 q09) (some (Sum.inl ()))) (fun c0_ c1_ => (z3g q17 t43 b0 b1 b2 q06 q08 q09) (some (Sum.inr (c0_, c1_))))) (funext fun t44' => ih t44')
theorem zce : LoopOne Try.prog fnTab 51 5 zar := lp_of (Γ := Γ9) tyTab_ok (FnL.ok fnTab_ok _ _) (LpL.ok lt9_ok) (SumL.ok tb9_ok fnTab_ok _) mixed (fi := fi51) (by kernel_rfl) (by kernel_rfl) (by
  intro lo st out hp
  obtain ⟨hs, e1, e2, e3⟩ := lpT_inv hp
  clear hp
  obtain rfl : st = (St.mk [(1, (AV.v (TV.one (At.ptr 3 0 3)))), (42, (AV.v (TV.one (At.vw 0 0 (hvN (hGet hs 0)) 1)))), (43, (AV.v (TV.one (At.int .i64 (hvI (hGet hs 1)))))), (44, (AV.v (TV.one (At.int .i64 (hvI (hGet hs 2))))))] [(Blk.mk Bool.false (Body.fl .f32 (hvLn (hGet hs 3)))), (Blk.mk Bool.false (Body.fl .f32 (hvLn (hGet hs 4)))), (Blk.mk Bool.false (Body.fl .f32 (hvLn (hGet hs 5)))), (Blk.mk Bool.true (Body.cells [(At.vw 0 0 (hvN (hGet hs 6)) 1), (At.vw 1 0 (hvN (hGet hs 7)) 1), (At.vw 2 0 (hvN (hGet hs 8)) 1)]))]) := e2.trans (by kernel_rfl)
  clear e2
  subst e1
  unfold za6 at e3
  injection e3 with h1 h2
  subst h2
  exact ⟨8, 8, big, Eq.trans (zdk (hvN (hGet hs 0)) (hvI (hGet hs 1)) (hvLn (hGet hs 3)) (hvLn (hGet hs 4)) (hvLn (hGet hs 5)) (hvN (hGet hs 6)) (hvN (hGet hs 7)) (hvN (hGet hs 8)) big (hvI (hGet hs 2))) (zde (hvN (hGet hs 0)) (hvI (hGet hs 1)) (hvLn (hGet hs 3)) (hvLn (hGet hs 4)) (hvLn (hGet hs 5)) (hvN (hGet hs 6)) (hvN (hGet hs 7)) (hvN (hGet hs 8)) (z0t (hvN (hGet hs 0)) (hvI (hGet hs 1)) (hvLn (hGet hs 3)) (hvN (hGet hs 6)) big (hvI (hGet hs 2))) h1)⟩)
noncomputable def tb10 : List (Nat × (List PT → Option (Bool × AV × List Blk))) := tb9
noncomputable def lt10 : List ((Nat × Nat) × (Nat → St → Option (Bool × LO))) := ((51, 5), zar) :: lt9
noncomputable def Γ10 : Ctx := ⟨tyTab, fnTab, tblSum tb10, tblLp lt10⟩
theorem tb10_ok : SumL Try.prog tb10 := tb9_ok
theorem lt10_ok : LpL Try.prog fnTab lt10 := LpL.cons zce (lt9_ok)
noncomputable def z9i : List PT → Option (Bool × AV × List Blk)
  | [.agg [.row 1 q00 (.fl .f32 q03), .row 1 q01 (.fl .f32 q04), .row 1 q02 (.fl .f32 q05)]] => some ((z4y q00 q03 q01 q04 q02 q05), ((AV.v (TV.one (At.bool (z46 q00 q03 q01 q04 q02 q05)))), []))
  | _ => none
def zbg (q00 : Nat) (q03 : List Nat) (q01 : Nat) (q04 : List Nat) (q02 : Nat) (q05 : List Nat) : Option (Bool) → Option (AV × List Blk)
  | some r => some ((AV.v (TV.one (At.bool r))), [])
  | none => none
theorem zen (q00 : Nat) (q03 : List Nat) (q01 : Nat) (q04 : List Nat) (q02 : Nat) (q05 : List Nat) : evFn Γ10 8 8 51 (impTs 0 [.agg [.row 1 q00 (.fl .f32 q03), .row 1 q01 (.fl .f32 q04), .row 1 q02 (.fl .f32 q05)]]).1 (impTs 0 [.agg [.row 1 q00 (.fl .f32 q03), .row 1 q01 (.fl .f32 q04), .row 1 q02 (.fl .f32 q05)]]).2 (expo (impTs 0 [.agg [.row 1 q00 (.fl .f32 q03), .row 1 q01 (.fl .f32 q04), .row 1 q02 (.fl .f32 q05)]]).2.length) = z3c q00 q03 q01 q04 q02 q05 (fun c0_ => some ((AV.v (TV.one (At.bool c0_))), [])) := by kernel_rfl
theorem zdg : SumOne Try.prog 51 z9i := sum_of (Γ := Γ10) (fuel := 8) (d := 8) tyTab_ok (FnL.ok fnTab_ok _ _) (LpL.ok lt10_ok) (SumL.ok tb10_ok fnTab_ok _) mixed (by
  intro pts v news hp hc
  clear hc
  unfold z9i at hp
  split at hp
  · rename_i q00 q03 q01 q04 q02 q05
    exact Eq.trans (Eq.trans (zen q00 q03 q01 q04 q02 q05) (zd3 q00 q03 q01 q04 q02 q05 (zbg q00 q03 q01 q04 q02 q05) rfl (fun c0_ => some c0_))) (fin_out (o := (zbg q00 q03 q01 q04 q02 q05)) (x := z3e q00 q03 q01 q04 q02 q05) (d := default) (V := fun r => ((AV.v (TV.one (At.bool r))), [])) (fun r => rfl) hp)
  · cases hp)
noncomputable def tb11 : List (Nat × (List PT → Option (Bool × AV × List Blk))) := (51, z9i) :: tb10
noncomputable def lt11 : List ((Nat × Nat) × (Nat → St → Option (Bool × LO))) := lt10
noncomputable def Γ11 : Ctx := ⟨tyTab, fnTab, tblSum tb11, tblLp lt11⟩
theorem tb11_ok : SumL Try.prog tb11 := SumL.cons zdg (tb10_ok)
theorem lt11_ok : LpL Try.prog fnTab lt11 := lt10_ok
noncomputable def tb12 : List (Nat × (List PT → Option (Bool × AV × List Blk))) := tb11
noncomputable def lt12 : List ((Nat × Nat) × (Nat → St → Option (Bool × LO))) := lt11
noncomputable def Γ12 : Ctx := ⟨tyTab, fnTab, tblSum tb12, tblLp lt12⟩
theorem tb12_ok : SumL Try.prog tb12 := tb11_ok
theorem lt12_ok : LpL Try.prog fnTab lt12 := lt11_ok
noncomputable def tb13 : List (Nat × (List PT → Option (Bool × AV × List Blk))) := tb12
noncomputable def lt13 : List ((Nat × Nat) × (Nat → St → Option (Bool × LO))) := lt12
noncomputable def Γ13 : Ctx := ⟨tyTab, fnTab, tblSum tb13, tblLp lt13⟩
theorem tb13_ok : SumL Try.prog tb13 := tb12_ok
theorem lt13_ok : LpL Try.prog fnTab lt13 := lt12_ok
noncomputable def zbi (t1 : Nat) (t2 : Nat) (t3 : Nat) (t10 : Int) (b0 : List Nat) (b1 : List Nat) (b2 : List Nat) (q06 : Nat) (q08 : Nat) (q09 : Nat) : Bool × LO := ((z7j t1 b0 q06 t10), (LO.one (Ex.exit 0) (St.mk [(1, (AV.v (TV.one (At.flt .f32 t1)))), (2, (AV.v (TV.one (At.flt .f32 t2)))), (3, (AV.v (TV.one (At.flt .f32 t3)))), (4, (AV.v (TV.one (At.ptr 3 0 3)))), (8, (AV.v (TV.one (At.ptr 4 0 3)))), (10, (AV.v (TV.one (At.int .i64 (z0s t1 b0 q06 t10))))), (35, (AV.v (TV.one (At.bool (z8k t1 b0 q06 t10)))))] [(Blk.mk Bool.false (Body.fl .f32 b0)), (Blk.mk Bool.false (Body.fl .f32 b1)), (Blk.mk Bool.false (Body.fl .f32 b2)), (Blk.mk Bool.true (Body.cells [(At.vw 0 0 q06 1), (At.vw 1 0 q08 1), (At.vw 2 0 q09 1)])), (Blk.mk Bool.true (Body.cells [At.nilsl, At.nilsl, At.nilsl]))])))
noncomputable def zca : Nat → St → Option (Bool × LO) := lpT 3 (pSt [(pTm 1 (pV (pOne (pFlt .f32)))), (pTm 2 (pV (pOne (pFlt .f32)))), (pTm 3 (pV (pOne (pFlt .f32)))), (pTm 4 (pV (pOne (pPtr 3 (liN 0) 3)))), (pTm 8 (pV (pOne (pPtr 4 (liN 0) 3)))), (pTm 10 (pV (pOne (pInt .i64))))] [(pBlk Bool.false (pFl .f32)), (pBlk Bool.false (pFl .f32)), (pBlk Bool.false (pFl .f32)), (pBlk Bool.true (pCells [(pVw 0 (liN 0) 1), (pVw 1 (liN 0) 1), (pVw 2 (liN 0) 1)])), (pBlk Bool.true (pCells [pNil, pNil, pNil]))]) (fun hs => zbi (hvN (hGet hs 0)) (hvN (hGet hs 1)) (hvN (hGet hs 2)) (hvI (hGet hs 3)) (hvLn (hGet hs 4)) (hvLn (hGet hs 5)) (hvLn (hGet hs 6)) (hvN (hGet hs 7)) (hvN (hGet hs 8)) (hvN (hGet hs 9)))
def z7o (t1 : Nat) (t2 : Nat) (t3 : Nat) (b0 : List Nat) (b1 : List Nat) (b2 : List Nat) (q06 : Nat) (q08 : Nat) (q09 : Nat) : Option ((Int × Bool)) → Option (Ex × St)
  | none => none
  | some r => some ((Ex.exit 0), (St.mk [(1, (AV.v (TV.one (At.flt .f32 t1)))), (2, (AV.v (TV.one (At.flt .f32 t2)))), (3, (AV.v (TV.one (At.flt .f32 t3)))), (4, (AV.v (TV.one (At.ptr 3 0 3)))), (8, (AV.v (TV.one (At.ptr 4 0 3)))), (10, (AV.v (TV.one (At.int .i64 r.1)))), (35, (AV.v (TV.one (At.bool r.2))))] [(Blk.mk Bool.false (Body.fl .f32 b0)), (Blk.mk Bool.false (Body.fl .f32 b1)), (Blk.mk Bool.false (Body.fl .f32 b2)), (Blk.mk Bool.true (Body.cells [(At.vw 0 0 q06 1), (At.vw 1 0 q08 1), (At.vw 2 0 q09 1)])), (Blk.mk Bool.true (Body.cells [At.nilsl, At.nilsl, At.nilsl]))]))
def zfb (t1 : Nat) (t2 : Nat) (t3 : Nat) (b0 : List Nat) (b1 : List Nat) (b2 : List Nat) (q06 : Nat) (q08 : Nat) (q09 : Nat) (x : Option ((Int × Bool))) : LO := (LO.one (Ex.exit 0) (St.mk [(1, (AV.v (TV.one (At.flt .f32 t1)))), (2, (AV.v (TV.one (At.flt .f32 t2)))), (3, (AV.v (TV.one (At.flt .f32 t3)))), (4, (AV.v (TV.one (At.ptr 3 0 3)))), (8, (AV.v (TV.one (At.ptr 4 0 3)))), (10, (AV.v (TV.one (At.int .i64 (x.getD default).1)))), (35, (AV.v (TV.one (At.bool (x.getD default).2))))] [(Blk.mk Bool.false (Body.fl .f32 b0)), (Blk.mk Bool.false (Body.fl .f32 b1)), (Blk.mk Bool.false (Body.fl .f32 b2)), (Blk.mk Bool.true (Body.cells [(At.vw 0 0 q06 1), (At.vw 1 0 q08 1), (At.vw 2 0 q09 1)])), (Blk.mk Bool.true (Body.cells [At.nilsl, At.nilsl, At.nilsl]))]))
theorem zft (t1 : Nat) (t2 : Nat) (t3 : Nat) (b0 : List Nat) (b1 : List Nat) (b2 : List Nat) (q06 : Nat) (q08 : Nat) (q09 : Nat) : ∀ x : Option ((Int × Bool)), x.isSome = true → (z7o t1 t2 t3 b0 b1 b2 q06 q08 q09) x = some (pick (zfb t1 t2 t3 b0 b1 b2 q06 q08 q09 x))
  | none, h => by cases h
  | some r, _ => rfl
theorem zg0 (t1 : Nat) (t2 : Nat) (t3 : Nat) (t10 : Int) (b0 : List Nat) (b1 : List Nat) (b2 : List Nat) (q06 : Nat) (q08 : Nat) (q09 : Nat) (K : Ex → St → Option (Ex × St)) : evC (R := Ex × St) Γ13 (evFn Γ13 8 8) 22 3 fi22.nt fi22.live fi22.nl 8 (findL 4 (loopsIn fi22.code)) (St.mk [(1, (AV.v (TV.one (At.flt .f32 t1)))), (2, (AV.v (TV.one (At.flt .f32 t2)))), (3, (AV.v (TV.one (At.flt .f32 t3)))), (4, (AV.v (TV.one (At.ptr 3 0 3)))), (8, (AV.v (TV.one (At.ptr 4 0 3)))), (10, (AV.v (TV.one (At.int .i64 t10))))] [(Blk.mk Bool.false (Body.fl .f32 b0)), (Blk.mk Bool.false (Body.fl .f32 b1)), (Blk.mk Bool.false (Body.fl .f32 b2)), (Blk.mk Bool.true (Body.cells [(At.vw 0 0 q06 1), (At.vw 1 0 q08 1), (At.vw 2 0 q09 1)])), (Blk.mk Bool.true (Body.cells [At.nilsl, At.nilsl, At.nilsl]))]) K = z2l t1 b0 q06 t10 (fun t10' => K .normal (St.mk [(1, (AV.v (TV.one (At.flt .f32 t1)))), (2, (AV.v (TV.one (At.flt .f32 t2)))), (3, (AV.v (TV.one (At.flt .f32 t3)))), (4, (AV.v (TV.one (At.ptr 3 0 3)))), (8, (AV.v (TV.one (At.ptr 4 0 3)))), (10, (AV.v (TV.one (At.int .i64 t10'))))] [(Blk.mk Bool.false (Body.fl .f32 b0)), (Blk.mk Bool.false (Body.fl .f32 b1)), (Blk.mk Bool.false (Body.fl .f32 b2)), (Blk.mk Bool.true (Body.cells [(At.vw 0 0 q06 1), (At.vw 1 0 q08 1), (At.vw 2 0 q09 1)])), (Blk.mk Bool.true (Body.cells [At.nilsl, At.nilsl, At.nilsl]))])) (fun c0_ c1_ => K (Ex.exit 0) (St.mk [(1, (AV.v (TV.one (At.flt .f32 t1)))), (2, (AV.v (TV.one (At.flt .f32 t2)))), (3, (AV.v (TV.one (At.flt .f32 t3)))), (4, (AV.v (TV.one (At.ptr 3 0 3)))), (8, (AV.v (TV.one (At.ptr 4 0 3)))), (10, (AV.v (TV.one (At.int .i64 c0_)))), (35, (AV.v (TV.one (At.bool c1_))))] [(Blk.mk Bool.false (Body.fl .f32 b0)), (Blk.mk Bool.false (Body.fl .f32 b1)), (Blk.mk Bool.false (Body.fl .f32 b2)), (Blk.mk Bool.true (Body.cells [(At.vw 0 0 q06 1), (At.vw 1 0 q08 1), (At.vw 2 0 q09 1)])), (Blk.mk Bool.true (Body.cells [At.nilsl, At.nilsl, At.nilsl]))])) := by kernel_rfl
theorem zfy (t1 : Nat) (t2 : Nat) (t3 : Nat) (b0 : List Nat) (b1 : List Nat) (b2 : List Nat) (q06 : Nat) (q08 : Nat) (q09 : Nat) : ∀ (n : Nat) (t10 : Int), iter 22 4 3 (evC (R := Ex × St) Γ13 (evFn Γ13 8 8) 22 3 fi22.nt fi22.live fi22.nl 8 (findL 4 (loopsIn fi22.code))) n (St.mk [(1, (AV.v (TV.one (At.flt .f32 t1)))), (2, (AV.v (TV.one (At.flt .f32 t2)))), (3, (AV.v (TV.one (At.flt .f32 t3)))), (4, (AV.v (TV.one (At.ptr 3 0 3)))), (8, (AV.v (TV.one (At.ptr 4 0 3)))), (10, (AV.v (TV.one (At.int .i64 t10))))] [(Blk.mk Bool.false (Body.fl .f32 b0)), (Blk.mk Bool.false (Body.fl .f32 b1)), (Blk.mk Bool.false (Body.fl .f32 b2)), (Blk.mk Bool.true (Body.cells [(At.vw 0 0 q06 1), (At.vw 1 0 q08 1), (At.vw 2 0 q09 1)])), (Blk.mk Bool.true (Body.cells [At.nilsl, At.nilsl, At.nilsl]))]) (fun e st => some (e, st)) = (z7o t1 t2 t3 b0 b1 b2 q06 q08 q09) (z1i t1 b0 q06 n t10) := by
  intro n
  induction n with
  | zero => intros; rfl
  | succ n ih =>
    intro t10
    refine Eq.trans (iter_succ ..) (Eq.trans (zg0 t1 t2 t3 t10 b0 b1 b2 q06 q08 q09 (nextK 22 4 3 (evC (R := Ex × St) Γ13 (evFn Γ13 8 8) 22 3 fi22.nt fi22.live fi22.nl 8 (findL 4 (loopsIn fi22.code))) n (fun e st => some (e, st)))) (Eq.trans ?_ (ze1 t1 b0 q06 t10 (z7o t1 t2 t3 b0 b1 b2 q06 q08 q09) rfl (fun t10' => z1i t1 b0 q06 n t10') (fun c0_ c1_ => some (c0_, c1_)))))
    exact congrArg (fun kn_ => z2l t1 b0 q06 t10 kn_ (fun c0_ c1_ => (z7o t1 t2 t3 b0 b1 b2 q06 q08 q09) (some (c0_, c1_)))) (funext fun t10' => ih t10')
theorem ze8 : LoopOne Try.prog fnTab 22 4 zca := lp_of (Γ := Γ13) tyTab_ok (FnL.ok fnTab_ok _ _) (LpL.ok lt13_ok) (SumL.ok tb13_ok fnTab_ok _) mixed (fi := fi22) (by kernel_rfl) (by kernel_rfl) (by
  intro lo st out hp
  obtain ⟨hs, e1, e2, e3⟩ := lpT_inv hp
  clear hp
  obtain rfl : st = (St.mk [(1, (AV.v (TV.one (At.flt .f32 (hvN (hGet hs 0)))))), (2, (AV.v (TV.one (At.flt .f32 (hvN (hGet hs 1)))))), (3, (AV.v (TV.one (At.flt .f32 (hvN (hGet hs 2)))))), (4, (AV.v (TV.one (At.ptr 3 0 3)))), (8, (AV.v (TV.one (At.ptr 4 0 3)))), (10, (AV.v (TV.one (At.int .i64 (hvI (hGet hs 3))))))] [(Blk.mk Bool.false (Body.fl .f32 (hvLn (hGet hs 4)))), (Blk.mk Bool.false (Body.fl .f32 (hvLn (hGet hs 5)))), (Blk.mk Bool.false (Body.fl .f32 (hvLn (hGet hs 6)))), (Blk.mk Bool.true (Body.cells [(At.vw 0 0 (hvN (hGet hs 7)) 1), (At.vw 1 0 (hvN (hGet hs 8)) 1), (At.vw 2 0 (hvN (hGet hs 9)) 1)])), (Blk.mk Bool.true (Body.cells [At.nilsl, At.nilsl, At.nilsl]))]) := e2.trans (by kernel_rfl)
  clear e2
  subst e1
  unfold zbi at e3
  injection e3 with h1 h2
  subst h2
  exact ⟨8, 8, big, Eq.trans (zfy (hvN (hGet hs 0)) (hvN (hGet hs 1)) (hvN (hGet hs 2)) (hvLn (hGet hs 4)) (hvLn (hGet hs 5)) (hvLn (hGet hs 6)) (hvN (hGet hs 7)) (hvN (hGet hs 8)) (hvN (hGet hs 9)) big (hvI (hGet hs 3))) (zft (hvN (hGet hs 0)) (hvN (hGet hs 1)) (hvN (hGet hs 2)) (hvLn (hGet hs 4)) (hvLn (hGet hs 5)) (hvLn (hGet hs 6)) (hvN (hGet hs 7)) (hvN (hGet hs 8)) (hvN (hGet hs 9)) (z1i (hvN (hGet hs 0)) (hvLn (hGet hs 4)) (hvN (hGet hs 7)) big (hvI (hGet hs 3))) h1)⟩)
noncomputable def tb14 : List (Nat × (List PT → Option (Bool × AV × List Blk))) := tb13
noncomputable def lt14 : List ((Nat × Nat) × (Nat → St → Option (Bool × LO))) := ((22, 4), zca) :: lt13
noncomputable def Γ14 : Ctx := ⟨tyTab, fnTab, tblSum tb14, tblLp lt14⟩
theorem tb14_ok : SumL Try.prog tb14 := tb13_ok
theorem lt14_ok : LpL Try.prog fnTab lt14 := LpL.cons ze8 (lt13_ok)
noncomputable def zbm : List PT → Option (Bool × AV × List Blk)
  | [.agg [.row 1 q00 (.fl .f32 q03), .row 1 q01 (.fl .f32 q04), .row 1 q02 (.fl .f32 q05)], .one (.s (.flt .f32 x1)), .one (.s (.flt .f32 x2)), .one (.s (.flt .f32 x3))] => some ((zai q00 q03 q01 q04 q02 q05 x1 x2 x3), ((AV.tup [(TV.agg [(At.sl 0 0 (z9w q00 q03 q01 q04 q02 q05 x1 x2 x3) 1), (At.sl 1 0 (z9u q00 q03 q01 q04 q02 q05 x1 x2 x3) 1), (At.sl 2 0 (z9m q00 q03 q01 q04 q02 q05 x1 x2 x3) 1)]), (TV.one (At.bool (z9p q00 q03 q01 q04 q02 q05 x1 x2 x3)))]), [(Blk.mk Bool.true (Body.fl .f32 (za1 q00 q03 q01 q04 q02 q05 x1 x2 x3))), (Blk.mk Bool.true (Body.fl .f32 (za3 q00 q03 q01 q04 q02 q05 x1 x2 x3))), (Blk.mk Bool.true (Body.fl .f32 (z9x q00 q03 q01 q04 q02 q05 x1 x2 x3)))]))
  | _ => none
def zdx (q00 : Nat) (q03 : List Nat) (q01 : Nat) (q04 : List Nat) (q02 : Nat) (q05 : List Nat) (x1 : Nat) (x2 : Nat) (x3 : Nat) : Option (Nat × Nat × Nat × Bool × (List Nat) × (List Nat) × (List Nat)) → Option (AV × List Blk)
  | some r => some ((AV.tup [(TV.agg [(At.sl 0 0 r.1 1), (At.sl 1 0 r.2.1 1), (At.sl 2 0 r.2.2.1 1)]), (TV.one (At.bool r.2.2.2.1))]), [(Blk.mk Bool.true (Body.fl .f32 r.2.2.2.2.1)), (Blk.mk Bool.true (Body.fl .f32 r.2.2.2.2.2.1)), (Blk.mk Bool.true (Body.fl .f32 r.2.2.2.2.2.2))])
  | none => none
theorem zgt (q00 : Nat) (q03 : List Nat) (q01 : Nat) (q04 : List Nat) (q02 : Nat) (q05 : List Nat) (x1 : Nat) (x2 : Nat) (x3 : Nat) : evFn Γ14 8 8 22 (impTs 0 [.agg [.row 1 q00 (.fl .f32 q03), .row 1 q01 (.fl .f32 q04), .row 1 q02 (.fl .f32 q05)], .one (.s (.flt .f32 x1)), .one (.s (.flt .f32 x2)), .one (.s (.flt .f32 x3))]).1 (impTs 0 [.agg [.row 1 q00 (.fl .f32 q03), .row 1 q01 (.fl .f32 q04), .row 1 q02 (.fl .f32 q05)], .one (.s (.flt .f32 x1)), .one (.s (.flt .f32 x2)), .one (.s (.flt .f32 x3))]).2 (expo (impTs 0 [.agg [.row 1 q00 (.fl .f32 q03), .row 1 q01 (.fl .f32 q04), .row 1 q02 (.fl .f32 q05)], .one (.s (.flt .f32 x1)), .one (.s (.flt .f32 x2)), .one (.s (.flt .f32 x3))]).2.length) = z40 q00 q03 q01 q04 q02 q05 x1 x2 x3 (fun c0_ c1_ c2_ c3_ c4_ c5_ c6_ => some ((AV.tup [(TV.agg [(At.sl 0 0 c0_ 1), (At.sl 1 0 c1_ 1), (At.sl 2 0 c2_ 1)]), (TV.one (At.bool c3_))]), [(Blk.mk Bool.true (Body.fl .f32 c4_)), (Blk.mk Bool.true (Body.fl .f32 c5_)), (Blk.mk Bool.true (Body.fl .f32 c6_))])) := by kernel_rfl
theorem zfo : SumOne Try.prog 22 zbm := sum_of (Γ := Γ14) (fuel := 8) (d := 8) tyTab_ok (FnL.ok fnTab_ok _ _) (LpL.ok lt14_ok) (SumL.ok tb14_ok fnTab_ok _) mixed (by
  intro pts v news hp hc
  clear hc
  unfold zbm at hp
  split at hp
  · rename_i q00 q03 q01 q04 q02 q05 x1 x2 x3
    exact Eq.trans (Eq.trans (zgt q00 q03 q01 q04 q02 q05 x1 x2 x3) (zfe q00 q03 q01 q04 q02 q05 x1 x2 x3 (zdx q00 q03 q01 q04 q02 q05 x1 x2 x3) rfl (fun c0_ c1_ c2_ c3_ c4_ c5_ c6_ => some (c0_, c1_, c2_, c3_, c4_, c5_, c6_)))) (fin_out (o := (zdx q00 q03 q01 q04 q02 q05 x1 x2 x3)) (x := z1e q00 q03 q01 q04 q02 q05 x1 x2 x3) (d := default) (V := fun r => ((AV.tup [(TV.agg [(At.sl 0 0 r.1 1), (At.sl 1 0 r.2.1 1), (At.sl 2 0 r.2.2.1 1)]), (TV.one (At.bool r.2.2.2.1))]), [(Blk.mk Bool.true (Body.fl .f32 r.2.2.2.2.1)), (Blk.mk Bool.true (Body.fl .f32 r.2.2.2.2.2.1)), (Blk.mk Bool.true (Body.fl .f32 r.2.2.2.2.2.2))])) (fun r => rfl) hp)
  · cases hp)
noncomputable def tb15 : List (Nat × (List PT → Option (Bool × AV × List Blk))) := (22, zbm) :: tb14
noncomputable def lt15 : List ((Nat × Nat) × (Nat → St → Option (Bool × LO))) := lt14
noncomputable def Γ15 : Ctx := ⟨tyTab, fnTab, tblSum tb15, tblLp lt15⟩
theorem tb15_ok : SumL Try.prog tb15 := SumL.cons zfo (tb14_ok)
theorem lt15_ok : LpL Try.prog fnTab lt15 := lt14_ok
noncomputable def tb16 : List (Nat × (List PT → Option (Bool × AV × List Blk))) := tb15
noncomputable def lt16 : List ((Nat × Nat) × (Nat → St → Option (Bool × LO))) := lt15
noncomputable def Γ16 : Ctx := ⟨tyTab, fnTab, tblSum tb16, tblLp lt16⟩
theorem tb16_ok : SumL Try.prog tb16 := tb15_ok
theorem lt16_ok : LpL Try.prog fnTab lt16 := lt15_ok
noncomputable def z4g (an : Nat) (k : Int) (i : Int) (b0 : List Nat) (b1 : List Nat) (b2 : List Nat) (q06 : Nat) (q08 : Nat) (q09 : Nat) (q0n : Nat) (q0l : Nat) (q0m : Nat) (b5 : List Nat) (b6 : List Nat) (b7 : List Nat) (q0i : Nat) (q0j : Nat) (q0k : Nat) (b9 : List Nat) (b10 : List Nat) (b11 : List Nat) (q0g : Nat) (q0f : Nat) (q0h : Nat) (b13 : List Nat) (b14 : List Nat) (b15 : List Nat) (q0y : Nat) (q0z : Nat) (q10 : Nat) : Bool × LO := ((laws_FnExactAddKnot__markFloat32S_l2_p an k i b9), (LO.one (Ex.exit 0) (St.mk [(0, (AV.v (TV.one (At.sl 9 0 an 1)))), (1, (AV.v (TV.one (At.int .i64 (laws_FnExactAddKnot__markFloat32S_l2_a0_0 an k i b9))))), (5, (AV.v (TV.one (At.int .i64 (laws_FnExactAddKnot__markFloat32S_l2_a0_1 an k i b9))))), (9, (AV.v (TV.one (At.bool (laws_FnExactAddKnot__markFloat32S_l2_a0_2 an k i b9)))))] [(Blk.mk Bool.false (Body.fl .f32 b0)), (Blk.mk Bool.false (Body.fl .f32 b1)), (Blk.mk Bool.false (Body.fl .f32 b2)), (Blk.mk Bool.true (Body.cells [(At.vw 0 0 q06 1), (At.vw 1 0 q08 1), (At.vw 2 0 q09 1)])), (Blk.mk Bool.true (Body.cells [(At.sl 5 0 q0n 1), (At.sl 6 0 q0l 1), (At.sl 7 0 q0m 1)])), (Blk.mk Bool.true (Body.fl .f32 b5)), (Blk.mk Bool.true (Body.fl .f32 b6)), (Blk.mk Bool.true (Body.fl .f32 b7)), (Blk.mk Bool.true (Body.cells [(At.sl 9 0 q0i 1), (At.sl 10 0 q0j 1), (At.sl 11 0 q0k 1)])), (Blk.mk Bool.true (Body.fl .f32 (laws_FnExactAddKnot__markFloat32S_l2_a0_3 an k i b9))), (Blk.mk Bool.true (Body.fl .f32 b10)), (Blk.mk Bool.true (Body.fl .f32 b11)), (Blk.mk Bool.true (Body.cells [(At.sl 13 0 q0g 1), (At.sl 14 0 q0f 1), (At.sl 15 0 q0h 1)])), (Blk.mk Bool.true (Body.fl .f32 b13)), (Blk.mk Bool.true (Body.fl .f32 b14)), (Blk.mk Bool.true (Body.fl .f32 b15)), (Blk.mk Bool.true (Body.cells [(At.sl 9 0 q0y 1), (At.sl 10 0 q0z 1), (At.sl 11 0 q10 1)]))])))
noncomputable def z4x : Nat → St → Option (Bool × LO) := lpT 17 (pSt [(pTm 0 (pV (pOne (pSl 9 (liN 0) 1)))), (pTm 1 (pV (pOne (pInt .i64)))), (pTm 5 (pV (pOne (pInt .i64))))] [(pBlk Bool.false (pFl .f32)), (pBlk Bool.false (pFl .f32)), (pBlk Bool.false (pFl .f32)), (pBlk Bool.true (pCells [(pVw 0 (liN 0) 1), (pVw 1 (liN 0) 1), (pVw 2 (liN 0) 1)])), (pBlk Bool.true (pCells [(pSl 5 (liN 0) 1), (pSl 6 (liN 0) 1), (pSl 7 (liN 0) 1)])), (pBlk Bool.true (pFl .f32)), (pBlk Bool.true (pFl .f32)), (pBlk Bool.true (pFl .f32)), (pBlk Bool.true (pCells [(pSl 9 (liN 0) 1), (pSl 10 (liN 0) 1), (pSl 11 (liN 0) 1)])), (pBlk Bool.true (pFl .f32)), (pBlk Bool.true (pFl .f32)), (pBlk Bool.true (pFl .f32)), (pBlk Bool.true (pCells [(pSl 13 (liN 0) 1), (pSl 14 (liN 0) 1), (pSl 15 (liN 0) 1)])), (pBlk Bool.true (pFl .f32)), (pBlk Bool.true (pFl .f32)), (pBlk Bool.true (pFl .f32)), (pBlk Bool.true (pCells [(pSl 9 (liN 0) 1), (pSl 10 (liN 0) 1), (pSl 11 (liN 0) 1)]))]) (fun hs => z4g (hvN (hGet hs 0)) (hvI (hGet hs 1)) (hvI (hGet hs 2)) (hvLn (hGet hs 3)) (hvLn (hGet hs 4)) (hvLn (hGet hs 5)) (hvN (hGet hs 6)) (hvN (hGet hs 7)) (hvN (hGet hs 8)) (hvN (hGet hs 9)) (hvN (hGet hs 10)) (hvN (hGet hs 11)) (hvLn (hGet hs 12)) (hvLn (hGet hs 13)) (hvLn (hGet hs 14)) (hvN (hGet hs 15)) (hvN (hGet hs 16)) (hvN (hGet hs 17)) (hvLn (hGet hs 18)) (hvLn (hGet hs 19)) (hvLn (hGet hs 20)) (hvN (hGet hs 21)) (hvN (hGet hs 22)) (hvN (hGet hs 23)) (hvLn (hGet hs 24)) (hvLn (hGet hs 25)) (hvLn (hGet hs 26)) (hvN (hGet hs 27)) (hvN (hGet hs 28)) (hvN (hGet hs 29)))
def z2b (an : Nat) (b0 : List Nat) (b1 : List Nat) (b2 : List Nat) (q06 : Nat) (q08 : Nat) (q09 : Nat) (q0n : Nat) (q0l : Nat) (q0m : Nat) (b5 : List Nat) (b6 : List Nat) (b7 : List Nat) (q0i : Nat) (q0j : Nat) (q0k : Nat) (b10 : List Nat) (b11 : List Nat) (q0g : Nat) (q0f : Nat) (q0h : Nat) (b13 : List Nat) (b14 : List Nat) (b15 : List Nat) (q0y : Nat) (q0z : Nat) (q10 : Nat) : Option ((Int × Int × Bool × (List Nat))) → Option (Ex × St)
  | none => none
  | some r => some ((Ex.exit 0), (St.mk [(0, (AV.v (TV.one (At.sl 9 0 an 1)))), (1, (AV.v (TV.one (At.int .i64 r.1)))), (5, (AV.v (TV.one (At.int .i64 r.2.1)))), (9, (AV.v (TV.one (At.bool r.2.2.1))))] [(Blk.mk Bool.false (Body.fl .f32 b0)), (Blk.mk Bool.false (Body.fl .f32 b1)), (Blk.mk Bool.false (Body.fl .f32 b2)), (Blk.mk Bool.true (Body.cells [(At.vw 0 0 q06 1), (At.vw 1 0 q08 1), (At.vw 2 0 q09 1)])), (Blk.mk Bool.true (Body.cells [(At.sl 5 0 q0n 1), (At.sl 6 0 q0l 1), (At.sl 7 0 q0m 1)])), (Blk.mk Bool.true (Body.fl .f32 b5)), (Blk.mk Bool.true (Body.fl .f32 b6)), (Blk.mk Bool.true (Body.fl .f32 b7)), (Blk.mk Bool.true (Body.cells [(At.sl 9 0 q0i 1), (At.sl 10 0 q0j 1), (At.sl 11 0 q0k 1)])), (Blk.mk Bool.true (Body.fl .f32 r.2.2.2)), (Blk.mk Bool.true (Body.fl .f32 b10)), (Blk.mk Bool.true (Body.fl .f32 b11)), (Blk.mk Bool.true (Body.cells [(At.sl 13 0 q0g 1), (At.sl 14 0 q0f 1), (At.sl 15 0 q0h 1)])), (Blk.mk Bool.true (Body.fl .f32 b13)), (Blk.mk Bool.true (Body.fl .f32 b14)), (Blk.mk Bool.true (Body.fl .f32 b15)), (Blk.mk Bool.true (Body.cells [(At.sl 9 0 q0y 1), (At.sl 10 0 q0z 1), (At.sl 11 0 q10 1)]))]))
def z9c (an : Nat) (b0 : List Nat) (b1 : List Nat) (b2 : List Nat) (q06 : Nat) (q08 : Nat) (q09 : Nat) (q0n : Nat) (q0l : Nat) (q0m : Nat) (b5 : List Nat) (b6 : List Nat) (b7 : List Nat) (q0i : Nat) (q0j : Nat) (q0k : Nat) (b10 : List Nat) (b11 : List Nat) (q0g : Nat) (q0f : Nat) (q0h : Nat) (b13 : List Nat) (b14 : List Nat) (b15 : List Nat) (q0y : Nat) (q0z : Nat) (q10 : Nat) (x : Option ((Int × Int × Bool × (List Nat)))) : LO := (LO.one (Ex.exit 0) (St.mk [(0, (AV.v (TV.one (At.sl 9 0 an 1)))), (1, (AV.v (TV.one (At.int .i64 (x.getD default).1)))), (5, (AV.v (TV.one (At.int .i64 (x.getD default).2.1)))), (9, (AV.v (TV.one (At.bool (x.getD default).2.2.1))))] [(Blk.mk Bool.false (Body.fl .f32 b0)), (Blk.mk Bool.false (Body.fl .f32 b1)), (Blk.mk Bool.false (Body.fl .f32 b2)), (Blk.mk Bool.true (Body.cells [(At.vw 0 0 q06 1), (At.vw 1 0 q08 1), (At.vw 2 0 q09 1)])), (Blk.mk Bool.true (Body.cells [(At.sl 5 0 q0n 1), (At.sl 6 0 q0l 1), (At.sl 7 0 q0m 1)])), (Blk.mk Bool.true (Body.fl .f32 b5)), (Blk.mk Bool.true (Body.fl .f32 b6)), (Blk.mk Bool.true (Body.fl .f32 b7)), (Blk.mk Bool.true (Body.cells [(At.sl 9 0 q0i 1), (At.sl 10 0 q0j 1), (At.sl 11 0 q0k 1)])), (Blk.mk Bool.true (Body.fl .f32 (x.getD default).2.2.2)), (Blk.mk Bool.true (Body.fl .f32 b10)), (Blk.mk Bool.true (Body.fl .f32 b11)), (Blk.mk Bool.true (Body.cells [(At.sl 13 0 q0g 1), (At.sl 14 0 q0f 1), (At.sl 15 0 q0h 1)])), (Blk.mk Bool.true (Body.fl .f32 b13)), (Blk.mk Bool.true (Body.fl .f32 b14)), (Blk.mk Bool.true (Body.fl .f32 b15)), (Blk.mk Bool.true (Body.cells [(At.sl 9 0 q0y 1), (At.sl 10 0 q0z 1), (At.sl 11 0 q10 1)]))]))
theorem z9j (an : Nat) (b0 : List Nat) (b1 : List Nat) (b2 : List Nat) (q06 : Nat) (q08 : Nat) (q09 : Nat) (q0n : Nat) (q0l : Nat) (q0m : Nat) (b5 : List Nat) (b6 : List Nat) (b7 : List Nat) (q0i : Nat) (q0j : Nat) (q0k : Nat) (b10 : List Nat) (b11 : List Nat) (q0g : Nat) (q0f : Nat) (q0h : Nat) (b13 : List Nat) (b14 : List Nat) (b15 : List Nat) (q0y : Nat) (q0z : Nat) (q10 : Nat) : ∀ x : Option ((Int × Int × Bool × (List Nat))), x.isSome = true → (z2b an b0 b1 b2 q06 q08 q09 q0n q0l q0m b5 b6 b7 q0i q0j q0k b10 b11 q0g q0f q0h b13 b14 b15 q0y q0z q10) x = some (pick (z9c an b0 b1 b2 q06 q08 q09 q0n q0l q0m b5 b6 b7 q0i q0j q0k b10 b11 q0g q0f q0h b13 b14 b15 q0y q0z q10 x))
  | none, h => by cases h
  | some r, _ => rfl
theorem z9h (an : Nat) (k : Int) (i : Int) (b0 : List Nat) (b1 : List Nat) (b2 : List Nat) (q06 : Nat) (q08 : Nat) (q09 : Nat) (q0n : Nat) (q0l : Nat) (q0m : Nat) (b5 : List Nat) (b6 : List Nat) (b7 : List Nat) (q0i : Nat) (q0j : Nat) (q0k : Nat) (b9 : List Nat) (b10 : List Nat) (b11 : List Nat) (q0g : Nat) (q0f : Nat) (q0h : Nat) (b13 : List Nat) (b14 : List Nat) (b15 : List Nat) (q0y : Nat) (q0z : Nat) (q10 : Nat) (K : Ex → St → Option (Ex × St)) : evC (R := Ex × St) Γ16 (evFn Γ16 8 8) 57 17 fi57.nt fi57.live fi57.nl 8 (findL 2 (loopsIn fi57.code)) (St.mk [(0, (AV.v (TV.one (At.sl 9 0 an 1)))), (1, (AV.v (TV.one (At.int .i64 k)))), (5, (AV.v (TV.one (At.int .i64 i))))] [(Blk.mk Bool.false (Body.fl .f32 b0)), (Blk.mk Bool.false (Body.fl .f32 b1)), (Blk.mk Bool.false (Body.fl .f32 b2)), (Blk.mk Bool.true (Body.cells [(At.vw 0 0 q06 1), (At.vw 1 0 q08 1), (At.vw 2 0 q09 1)])), (Blk.mk Bool.true (Body.cells [(At.sl 5 0 q0n 1), (At.sl 6 0 q0l 1), (At.sl 7 0 q0m 1)])), (Blk.mk Bool.true (Body.fl .f32 b5)), (Blk.mk Bool.true (Body.fl .f32 b6)), (Blk.mk Bool.true (Body.fl .f32 b7)), (Blk.mk Bool.true (Body.cells [(At.sl 9 0 q0i 1), (At.sl 10 0 q0j 1), (At.sl 11 0 q0k 1)])), (Blk.mk Bool.true (Body.fl .f32 b9)), (Blk.mk Bool.true (Body.fl .f32 b10)), (Blk.mk Bool.true (Body.fl .f32 b11)), (Blk.mk Bool.true (Body.cells [(At.sl 13 0 q0g 1), (At.sl 14 0 q0f 1), (At.sl 15 0 q0h 1)])), (Blk.mk Bool.true (Body.fl .f32 b13)), (Blk.mk Bool.true (Body.fl .f32 b14)), (Blk.mk Bool.true (Body.fl .f32 b15)), (Blk.mk Bool.true (Body.cells [(At.sl 9 0 q0y 1), (At.sl 10 0 q0z 1), (At.sl 11 0 q10 1)]))]) K = z0u an k i b9 (fun k' i' b9' => K .normal (St.mk [(0, (AV.v (TV.one (At.sl 9 0 an 1)))), (1, (AV.v (TV.one (At.int .i64 k')))), (5, (AV.v (TV.one (At.int .i64 i'))))] [(Blk.mk Bool.false (Body.fl .f32 b0)), (Blk.mk Bool.false (Body.fl .f32 b1)), (Blk.mk Bool.false (Body.fl .f32 b2)), (Blk.mk Bool.true (Body.cells [(At.vw 0 0 q06 1), (At.vw 1 0 q08 1), (At.vw 2 0 q09 1)])), (Blk.mk Bool.true (Body.cells [(At.sl 5 0 q0n 1), (At.sl 6 0 q0l 1), (At.sl 7 0 q0m 1)])), (Blk.mk Bool.true (Body.fl .f32 b5)), (Blk.mk Bool.true (Body.fl .f32 b6)), (Blk.mk Bool.true (Body.fl .f32 b7)), (Blk.mk Bool.true (Body.cells [(At.sl 9 0 q0i 1), (At.sl 10 0 q0j 1), (At.sl 11 0 q0k 1)])), (Blk.mk Bool.true (Body.fl .f32 b9')), (Blk.mk Bool.true (Body.fl .f32 b10)), (Blk.mk Bool.true (Body.fl .f32 b11)), (Blk.mk Bool.true (Body.cells [(At.sl 13 0 q0g 1), (At.sl 14 0 q0f 1), (At.sl 15 0 q0h 1)])), (Blk.mk Bool.true (Body.fl .f32 b13)), (Blk.mk Bool.true (Body.fl .f32 b14)), (Blk.mk Bool.true (Body.fl .f32 b15)), (Blk.mk Bool.true (Body.cells [(At.sl 9 0 q0y 1), (At.sl 10 0 q0z 1), (At.sl 11 0 q10 1)]))])) (fun c0_ c1_ c2_ c3_ => K (Ex.exit 0) (St.mk [(0, (AV.v (TV.one (At.sl 9 0 an 1)))), (1, (AV.v (TV.one (At.int .i64 c0_)))), (5, (AV.v (TV.one (At.int .i64 c1_)))), (9, (AV.v (TV.one (At.bool c2_))))] [(Blk.mk Bool.false (Body.fl .f32 b0)), (Blk.mk Bool.false (Body.fl .f32 b1)), (Blk.mk Bool.false (Body.fl .f32 b2)), (Blk.mk Bool.true (Body.cells [(At.vw 0 0 q06 1), (At.vw 1 0 q08 1), (At.vw 2 0 q09 1)])), (Blk.mk Bool.true (Body.cells [(At.sl 5 0 q0n 1), (At.sl 6 0 q0l 1), (At.sl 7 0 q0m 1)])), (Blk.mk Bool.true (Body.fl .f32 b5)), (Blk.mk Bool.true (Body.fl .f32 b6)), (Blk.mk Bool.true (Body.fl .f32 b7)), (Blk.mk Bool.true (Body.cells [(At.sl 9 0 q0i 1), (At.sl 10 0 q0j 1), (At.sl 11 0 q0k 1)])), (Blk.mk Bool.true (Body.fl .f32 c3_)), (Blk.mk Bool.true (Body.fl .f32 b10)), (Blk.mk Bool.true (Body.fl .f32 b11)), (Blk.mk Bool.true (Body.cells [(At.sl 13 0 q0g 1), (At.sl 14 0 q0f 1), (At.sl 15 0 q0h 1)])), (Blk.mk Bool.true (Body.fl .f32 b13)), (Blk.mk Bool.true (Body.fl .f32 b14)), (Blk.mk Bool.true (Body.fl .f32 b15)), (Blk.mk Bool.true (Body.cells [(At.sl 9 0 q0y 1), (At.sl 10 0 q0z 1), (At.sl 11 0 q10 1)]))])) := by kernel_rfl
theorem z9k (an : Nat) (b0 : List Nat) (b1 : List Nat) (b2 : List Nat) (q06 : Nat) (q08 : Nat) (q09 : Nat) (q0n : Nat) (q0l : Nat) (q0m : Nat) (b5 : List Nat) (b6 : List Nat) (b7 : List Nat) (q0i : Nat) (q0j : Nat) (q0k : Nat) (b10 : List Nat) (b11 : List Nat) (q0g : Nat) (q0f : Nat) (q0h : Nat) (b13 : List Nat) (b14 : List Nat) (b15 : List Nat) (q0y : Nat) (q0z : Nat) (q10 : Nat) : ∀ (n : Nat) (k : Int) (i : Int) (b9 : List Nat), iter 57 2 17 (evC (R := Ex × St) Γ16 (evFn Γ16 8 8) 57 17 fi57.nt fi57.live fi57.nl 8 (findL 2 (loopsIn fi57.code))) n (St.mk [(0, (AV.v (TV.one (At.sl 9 0 an 1)))), (1, (AV.v (TV.one (At.int .i64 k)))), (5, (AV.v (TV.one (At.int .i64 i))))] [(Blk.mk Bool.false (Body.fl .f32 b0)), (Blk.mk Bool.false (Body.fl .f32 b1)), (Blk.mk Bool.false (Body.fl .f32 b2)), (Blk.mk Bool.true (Body.cells [(At.vw 0 0 q06 1), (At.vw 1 0 q08 1), (At.vw 2 0 q09 1)])), (Blk.mk Bool.true (Body.cells [(At.sl 5 0 q0n 1), (At.sl 6 0 q0l 1), (At.sl 7 0 q0m 1)])), (Blk.mk Bool.true (Body.fl .f32 b5)), (Blk.mk Bool.true (Body.fl .f32 b6)), (Blk.mk Bool.true (Body.fl .f32 b7)), (Blk.mk Bool.true (Body.cells [(At.sl 9 0 q0i 1), (At.sl 10 0 q0j 1), (At.sl 11 0 q0k 1)])), (Blk.mk Bool.true (Body.fl .f32 b9)), (Blk.mk Bool.true (Body.fl .f32 b10)), (Blk.mk Bool.true (Body.fl .f32 b11)), (Blk.mk Bool.true (Body.cells [(At.sl 13 0 q0g 1), (At.sl 14 0 q0f 1), (At.sl 15 0 q0h 1)])), (Blk.mk Bool.true (Body.fl .f32 b13)), (Blk.mk Bool.true (Body.fl .f32 b14)), (Blk.mk Bool.true (Body.fl .f32 b15)), (Blk.mk Bool.true (Body.cells [(At.sl 9 0 q0y 1), (At.sl 10 0 q0z 1), (At.sl 11 0 q10 1)]))]) (fun e st => some (e, st)) = (z2b an b0 b1 b2 q06 q08 q09 q0n q0l q0m b5 b6 b7 q0i q0j q0k b10 b11 q0g q0f q0h b13 b14 b15 q0y q0z q10) (z0a an n k i b9) := by
  intro n
  induction n with
  | zero => intros; rfl
  | succ n ih =>
    intro k i b9
    refine Eq.trans (iter_succ ..) (Eq.trans (z9h an k i b0 b1 b2 q06 q08 q09 q0n q0l q0m b5 b6 b7 q0i q0j q0k b9 b10 b11 q0g q0f q0h b13 b14 b15 q0y q0z q10 (nextK 57 2 17 (evC (R := Ex × St) Γ16 (evFn Γ16 8 8) 57 17 fi57.nt fi57.live fi57.nl 8 (findL 2 (loopsIn fi57.code))) n (fun e st => some (e, st)))) (Eq.trans ?_ (z7v an k i b9 (z2b an b0 b1 b2 q06 q08 q09 q0n q0l q0m b5 b6 b7 q0i q0j q0k b10 b11 q0g q0f q0h b13 b14 b15 q0y q0z q10) rfl (fun k' i' b9' => z0a an n k' i' b9') (fun c0_ c1_ c2_ c3_ => some (c0_, c1_, c2_, c3_)))))
    exact congrArg (fun kn_ => z0u an k i b9 kn_ (fun c0_ c1_ c2_ c3_ => (z2b an b0 b1 b2 q06 q08 q09 q0n q0l q0m b5 b6 b7 q0i q0j q0k b10 b11 q0g q0f q0h b13 b14 b15 q0y q0z q10) (some (c0_, c1_, c2_, c3_)))) (funext fun k' => funext fun i' => funext fun b9' => ih k' i' b9')
theorem z8a : LoopOne Try.prog fnTab 57 2 z4x := lp_of (Γ := Γ16) tyTab_ok (FnL.ok fnTab_ok _ _) (LpL.ok lt16_ok) (SumL.ok tb16_ok fnTab_ok _) mixed (fi := fi57) (by kernel_rfl) (by kernel_rfl) (by
  intro lo st out hp
  obtain ⟨hs, e1, e2, e3⟩ := lpT_inv hp
  clear hp
  obtain rfl : st = (St.mk [(0, (AV.v (TV.one (At.sl 9 0 (hvN (hGet hs 0)) 1)))), (1, (AV.v (TV.one (At.int .i64 (hvI (hGet hs 1)))))), (5, (AV.v (TV.one (At.int .i64 (hvI (hGet hs 2))))))] [(Blk.mk Bool.false (Body.fl .f32 (hvLn (hGet hs 3)))), (Blk.mk Bool.false (Body.fl .f32 (hvLn (hGet hs 4)))), (Blk.mk Bool.false (Body.fl .f32 (hvLn (hGet hs 5)))), (Blk.mk Bool.true (Body.cells [(At.vw 0 0 (hvN (hGet hs 6)) 1), (At.vw 1 0 (hvN (hGet hs 7)) 1), (At.vw 2 0 (hvN (hGet hs 8)) 1)])), (Blk.mk Bool.true (Body.cells [(At.sl 5 0 (hvN (hGet hs 9)) 1), (At.sl 6 0 (hvN (hGet hs 10)) 1), (At.sl 7 0 (hvN (hGet hs 11)) 1)])), (Blk.mk Bool.true (Body.fl .f32 (hvLn (hGet hs 12)))), (Blk.mk Bool.true (Body.fl .f32 (hvLn (hGet hs 13)))), (Blk.mk Bool.true (Body.fl .f32 (hvLn (hGet hs 14)))), (Blk.mk Bool.true (Body.cells [(At.sl 9 0 (hvN (hGet hs 15)) 1), (At.sl 10 0 (hvN (hGet hs 16)) 1), (At.sl 11 0 (hvN (hGet hs 17)) 1)])), (Blk.mk Bool.true (Body.fl .f32 (hvLn (hGet hs 18)))), (Blk.mk Bool.true (Body.fl .f32 (hvLn (hGet hs 19)))), (Blk.mk Bool.true (Body.fl .f32 (hvLn (hGet hs 20)))), (Blk.mk Bool.true (Body.cells [(At.sl 13 0 (hvN (hGet hs 21)) 1), (At.sl 14 0 (hvN (hGet hs 22)) 1), (At.sl 15 0 (hvN (hGet hs 23)) 1)])), (Blk.mk Bool.true (Body.fl .f32 (hvLn (hGet hs 24)))), (Blk.mk Bool.true (Body.fl .f32 (hvLn (hGet hs 25)))), (Blk.mk Bool.true (Body.fl .f32 (hvLn (hGet hs 26)))), (Blk.mk Bool.true (Body.cells [(At.sl 9 0 (hvN (hGet hs 27)) 1), (At.sl 10 0 (hvN (hGet hs 28)) 1), (At.sl 11 0 (hvN (hGet hs 29)) 1)]))]) := e2.trans (by kernel_rfl)
  clear e2
  subst e1
  unfold z4g at e3
  injection e3 with h1 h2
  subst h2
  exact ⟨8, 8, big, Eq.trans (z9k (hvN (hGet hs 0)) (hvLn (hGet hs 3)) (hvLn (hGet hs 4)) (hvLn (hGet hs 5)) (hvN (hGet hs 6)) (hvN (hGet hs 7)) (hvN (hGet hs 8)) (hvN (hGet hs 9)) (hvN (hGet hs 10)) (hvN (hGet hs 11)) (hvLn (hGet hs 12)) (hvLn (hGet hs 13)) (hvLn (hGet hs 14)) (hvN (hGet hs 15)) (hvN (hGet hs 16)) (hvN (hGet hs 17)) (hvLn (hGet hs 19)) (hvLn (hGet hs 20)) (hvN (hGet hs 21)) (hvN (hGet hs 22)) (hvN (hGet hs 23)) (hvLn (hGet hs 24)) (hvLn (hGet hs 25)) (hvLn (hGet hs 26)) (hvN (hGet hs 27)) (hvN (hGet hs 28)) (hvN (hGet hs 29)) big (hvI (hGet hs 1)) (hvI (hGet hs 2)) (hvLn (hGet hs 18))) (z9j (hvN (hGet hs 0)) (hvLn (hGet hs 3)) (hvLn (hGet hs 4)) (hvLn (hGet hs 5)) (hvN (hGet hs 6)) (hvN (hGet hs 7)) (hvN (hGet hs 8)) (hvN (hGet hs 9)) (hvN (hGet hs 10)) (hvN (hGet hs 11)) (hvLn (hGet hs 12)) (hvLn (hGet hs 13)) (hvLn (hGet hs 14)) (hvN (hGet hs 15)) (hvN (hGet hs 16)) (hvN (hGet hs 17)) (hvLn (hGet hs 19)) (hvLn (hGet hs 20)) (hvN (hGet hs 21)) (hvN (hGet hs 22)) (hvN (hGet hs 23)) (hvLn (hGet hs 24)) (hvLn (hGet hs 25)) (hvLn (hGet hs 26)) (hvN (hGet hs 27)) (hvN (hGet hs 28)) (hvN (hGet hs 29)) (z0a (hvN (hGet hs 0)) big (hvI (hGet hs 1)) (hvI (hGet hs 2)) (hvLn (hGet hs 18))) h1)⟩)
noncomputable def tb17 : List (Nat × (List PT → Option (Bool × AV × List Blk))) := tb16
noncomputable def lt17 : List ((Nat × Nat) × (Nat → St → Option (Bool × LO))) := ((57, 2), z4x) :: lt16
noncomputable def Γ17 : Ctx := ⟨tyTab, fnTab, tblSum tb17, tblLp lt17⟩
theorem tb17_ok : SumL Try.prog tb17 := tb16_ok
theorem lt17_ok : LpL Try.prog fnTab lt17 := LpL.cons z8a (lt16_ok)
noncomputable def tb18 : List (Nat × (List PT → Option (Bool × AV × List Blk))) := tb17
noncomputable def lt18 : List ((Nat × Nat) × (Nat → St → Option (Bool × LO))) := lt17
noncomputable def Γ18 : Ctx := ⟨tyTab, fnTab, tblSum tb18, tblLp lt18⟩
theorem tb18_ok : SumL Try.prog tb18 := tb17_ok
theorem lt18_ok : LpL Try.prog fnTab lt18 := lt17_ok
noncomputable def z3p (an : Nat) (k : Int) (i : Int) (b0 : List Nat) (b1 : List Nat) (b2 : List Nat) (q06 : Nat) (q08 : Nat) (q09 : Nat) (q0n : Nat) (q0l : Nat) (q0m : Nat) (b5 : List Nat) (b6 : List Nat) (b7 : List Nat) (q0i : Nat) (q0j : Nat) (q0k : Nat) (b9 : List Nat) (b10 : List Nat) (b11 : List Nat) (q0g : Nat) (q0f : Nat) (q0h : Nat) (b13 : List Nat) (b14 : List Nat) (b15 : List Nat) (q0y : Nat) (q0z : Nat) (q10 : Nat) : Bool × LO := ((laws_FnExactAddKnot__markFloat32S_l2_2_p an k i b10), (LO.one (Ex.exit 0) (St.mk [(0, (AV.v (TV.one (At.sl 10 0 an 1)))), (1, (AV.v (TV.one (At.int .i64 (laws_FnExactAddKnot__markFloat32S_l2_2_a0_0 an k i b10))))), (5, (AV.v (TV.one (At.int .i64 (laws_FnExactAddKnot__markFloat32S_l2_2_a0_1 an k i b10))))), (9, (AV.v (TV.one (At.bool (laws_FnExactAddKnot__markFloat32S_l2_2_a0_2 an k i b10)))))] [(Blk.mk Bool.false (Body.fl .f32 b0)), (Blk.mk Bool.false (Body.fl .f32 b1)), (Blk.mk Bool.false (Body.fl .f32 b2)), (Blk.mk Bool.true (Body.cells [(At.vw 0 0 q06 1), (At.vw 1 0 q08 1), (At.vw 2 0 q09 1)])), (Blk.mk Bool.true (Body.cells [(At.sl 5 0 q0n 1), (At.sl 6 0 q0l 1), (At.sl 7 0 q0m 1)])), (Blk.mk Bool.true (Body.fl .f32 b5)), (Blk.mk Bool.true (Body.fl .f32 b6)), (Blk.mk Bool.true (Body.fl .f32 b7)), (Blk.mk Bool.true (Body.cells [(At.sl 9 0 q0i 1), (At.sl 10 0 q0j 1), (At.sl 11 0 q0k 1)])), (Blk.mk Bool.true (Body.fl .f32 b9)), (Blk.mk Bool.true (Body.fl .f32 (laws_FnExactAddKnot__markFloat32S_l2_2_a0_3 an k i b10))), (Blk.mk Bool.true (Body.fl .f32 b11)), (Blk.mk Bool.true (Body.cells [(At.sl 13 0 q0g 1), (At.sl 14 0 q0f 1), (At.sl 15 0 q0h 1)])), (Blk.mk Bool.true (Body.fl .f32 b13)), (Blk.mk Bool.true (Body.fl .f32 b14)), (Blk.mk Bool.true (Body.fl .f32 b15)), (Blk.mk Bool.true (Body.cells [(At.sl 9 0 q0y 1), (At.sl 10 0 q0z 1), (At.sl 11 0 q10 1)]))])))
noncomputable def z4b : Nat → St → Option (Bool × LO) := lpT 17 (pSt [(pTm 0 (pV (pOne (pSl 10 (liN 0) 1)))), (pTm 1 (pV (pOne (pInt .i64)))), (pTm 5 (pV (pOne (pInt .i64))))] [(pBlk Bool.false (pFl .f32)), (pBlk Bool.false (pFl .f32)), (pBlk Bool.false (pFl .f32)), (pBlk Bool.true (pCells [(pVw 0 (liN 0) 1), (pVw 1 (liN 0) 1), (pVw 2 (liN 0) 1)])), (pBlk Bool.true (pCells [(pSl 5 (liN 0) 1), (pSl 6 (liN 0) 1), (pSl 7 (liN 0) 1)])), (pBlk Bool.true (pFl .f32)), (pBlk Bool.true (pFl .f32)), (pBlk Bool.true (pFl .f32)), (pBlk Bool.true (pCells [(pSl 9 (liN 0) 1), (pSl 10 (liN 0) 1), (pSl 11 (liN 0) 1)])), (pBlk Bool.true (pFl .f32)), (pBlk Bool.true (pFl .f32)), (pBlk Bool.true (pFl .f32)), (pBlk Bool.true (pCells [(pSl 13 (liN 0) 1), (pSl 14 (liN 0) 1), (pSl 15 (liN 0) 1)])), (pBlk Bool.true (pFl .f32)), (pBlk Bool.true (pFl .f32)), (pBlk Bool.true (pFl .f32)), (pBlk Bool.true (pCells [(pSl 9 (liN 0) 1), (pSl 10 (liN 0) 1), (pSl 11 (liN 0) 1)]))]) (fun hs => z3p (hvN (hGet hs 0)) (hvI (hGet hs 1)) (hvI (hGet hs 2)) (hvLn (hGet hs 3)) (hvLn (hGet hs 4)) (hvLn (hGet hs 5)) (hvN (hGet hs 6)) (hvN (hGet hs 7)) (hvN (hGet hs 8)) (hvN (hGet hs 9)) (hvN (hGet hs 10)) (hvN (hGet hs 11)) (hvLn (hGet hs 12)) (hvLn (hGet hs 13)) (hvLn (hGet hs 14)) (hvN (hGet hs 15)) (hvN (hGet hs 16)) (hvN (hGet hs 17)) (hvLn (hGet hs 18)) (hvLn (hGet hs 19)) (hvLn (hGet hs 20)) (hvN (hGet hs 21)) (hvN (hGet hs 22)) (hvN (hGet hs 23)) (hvLn (hGet hs 24)) (hvLn (hGet hs 25)) (hvLn (hGet hs 26)) (hvN (hGet hs 27)) (hvN (hGet hs 28)) (hvN (hGet hs 29)))
def z1y (an : Nat) (b0 : List Nat) (b1 : List Nat) (b2 : List Nat) (q06 : Nat) (q08 : Nat) (q09 : Nat) (q0n : Nat) (q0l : Nat) (q0m : Nat) (b5 : List Nat) (b6 : List Nat) (b7 : List Nat) (q0i : Nat) (q0j : Nat) (q0k : Nat) (b9 : List Nat) (b11 : List Nat) (q0g : Nat) (q0f : Nat) (q0h : Nat) (b13 : List Nat) (b14 : List Nat) (b15 : List Nat) (q0y : Nat) (q0z : Nat) (q10 : Nat) : Option ((Int × Int × Bool × (List Nat))) → Option (Ex × St)
  | none => none
  | some r => some ((Ex.exit 0), (St.mk [(0, (AV.v (TV.one (At.sl 10 0 an 1)))), (1, (AV.v (TV.one (At.int .i64 r.1)))), (5, (AV.v (TV.one (At.int .i64 r.2.1)))), (9, (AV.v (TV.one (At.bool r.2.2.1))))] [(Blk.mk Bool.false (Body.fl .f32 b0)), (Blk.mk Bool.false (Body.fl .f32 b1)), (Blk.mk Bool.false (Body.fl .f32 b2)), (Blk.mk Bool.true (Body.cells [(At.vw 0 0 q06 1), (At.vw 1 0 q08 1), (At.vw 2 0 q09 1)])), (Blk.mk Bool.true (Body.cells [(At.sl 5 0 q0n 1), (At.sl 6 0 q0l 1), (At.sl 7 0 q0m 1)])), (Blk.mk Bool.true (Body.fl .f32 b5)), (Blk.mk Bool.true (Body.fl .f32 b6)), (Blk.mk Bool.true (Body.fl .f32 b7)), (Blk.mk Bool.true (Body.cells [(At.sl 9 0 q0i 1), (At.sl 10 0 q0j 1), (At.sl 11 0 q0k 1)])), (Blk.mk Bool.true (Body.fl .f32 b9)), (Blk.mk Bool.true (Body.fl .f32 r.2.2.2)), (Blk.mk Bool.true (Body.fl .f32 b11)), (Blk.mk Bool.true (Body.cells [(At.sl 13 0 q0g 1), (At.sl 14 0 q0f 1), (At.sl 15 0 q0h 1)])), (Blk.mk Bool.true (Body.fl .f32 b13)), (Blk.mk Bool.true (Body.fl .f32 b14)), (Blk.mk Bool.true (Body.fl .f32 b15)), (Blk.mk Bool.true (Body.cells [(At.sl 9 0 q0y 1), (At.sl 10 0 q0z 1), (At.sl 11 0 q10 1)]))]))
def z87 (an : Nat) (b0 : List Nat) (b1 : List Nat) (b2 : List Nat) (q06 : Nat) (q08 : Nat) (q09 : Nat) (q0n : Nat) (q0l : Nat) (q0m : Nat) (b5 : List Nat) (b6 : List Nat) (b7 : List Nat) (q0i : Nat) (q0j : Nat) (q0k : Nat) (b9 : List Nat) (b11 : List Nat) (q0g : Nat) (q0f : Nat) (q0h : Nat) (b13 : List Nat) (b14 : List Nat) (b15 : List Nat) (q0y : Nat) (q0z : Nat) (q10 : Nat) (x : Option ((Int × Int × Bool × (List Nat)))) : LO := (LO.one (Ex.exit 0) (St.mk [(0, (AV.v (TV.one (At.sl 10 0 an 1)))), (1, (AV.v (TV.one (At.int .i64 (x.getD default).1)))), (5, (AV.v (TV.one (At.int .i64 (x.getD default).2.1)))), (9, (AV.v (TV.one (At.bool (x.getD default).2.2.1))))] [(Blk.mk Bool.false (Body.fl .f32 b0)), (Blk.mk Bool.false (Body.fl .f32 b1)), (Blk.mk Bool.false (Body.fl .f32 b2)), (Blk.mk Bool.true (Body.cells [(At.vw 0 0 q06 1), (At.vw 1 0 q08 1), (At.vw 2 0 q09 1)])), (Blk.mk Bool.true (Body.cells [(At.sl 5 0 q0n 1), (At.sl 6 0 q0l 1), (At.sl 7 0 q0m 1)])), (Blk.mk Bool.true (Body.fl .f32 b5)), (Blk.mk Bool.true (Body.fl .f32 b6)), (Blk.mk Bool.true (Body.fl .f32 b7)), (Blk.mk Bool.true (Body.cells [(At.sl 9 0 q0i 1), (At.sl 10 0 q0j 1), (At.sl 11 0 q0k 1)])), (Blk.mk Bool.true (Body.fl .f32 b9)), (Blk.mk Bool.true (Body.fl .f32 (x.getD default).2.2.2)), (Blk.mk Bool.true (Body.fl .f32 b11)), (Blk.mk Bool.true (Body.cells [(At.sl 13 0 q0g 1), (At.sl 14 0 q0f 1), (At.sl 15 0 q0h 1)])), (Blk.mk Bool.true (Body.fl .f32 b13)), (Blk.mk Bool.true (Body.fl .f32 b14)), (Blk.mk Bool.true (Body.fl .f32 b15)), (Blk.mk Bool.true (Body.cells [(At.sl 9 0 q0y 1), (At.sl 10 0 q0z 1), (At.sl 11 0 q10 1)]))]))
theorem z8l (an : Nat) (b0 : List Nat) (b1 : List Nat) (b2 : List Nat) (q06 : Nat) (q08 : Nat) (q09 : Nat) (q0n : Nat) (q0l : Nat) (q0m : Nat) (b5 : List Nat) (b6 : List Nat) (b7 : List Nat) (q0i : Nat) (q0j : Nat) (q0k : Nat) (b9 : List Nat) (b11 : List Nat) (q0g : Nat) (q0f : Nat) (q0h : Nat) (b13 : List Nat) (b14 : List Nat) (b15 : List Nat) (q0y : Nat) (q0z : Nat) (q10 : Nat) : ∀ x : Option ((Int × Int × Bool × (List Nat))), x.isSome = true → (z1y an b0 b1 b2 q06 q08 q09 q0n q0l q0m b5 b6 b7 q0i q0j q0k b9 b11 q0g q0f q0h b13 b14 b15 q0y q0z q10) x = some (pick (z87 an b0 b1 b2 q06 q08 q09 q0n q0l q0m b5 b6 b7 q0i q0j q0k b9 b11 q0g q0f q0h b13 b14 b15 q0y q0z q10 x))
  | none, h => by cases h
  | some r, _ => rfl
theorem z8s (an : Nat) (k : Int) (i : Int) (b0 : List Nat) (b1 : List Nat) (b2 : List Nat) (q06 : Nat) (q08 : Nat) (q09 : Nat) (q0n : Nat) (q0l : Nat) (q0m : Nat) (b5 : List Nat) (b6 : List Nat) (b7 : List Nat) (q0i : Nat) (q0j : Nat) (q0k : Nat) (b9 : List Nat) (b10 : List Nat) (b11 : List Nat) (q0g : Nat) (q0f : Nat) (q0h : Nat) (b13 : List Nat) (b14 : List Nat) (b15 : List Nat) (q0y : Nat) (q0z : Nat) (q10 : Nat) (K : Ex → St → Option (Ex × St)) : evC (R := Ex × St) Γ18 (evFn Γ18 8 8) 57 17 fi57.nt fi57.live fi57.nl 8 (findL 2 (loopsIn fi57.code)) (St.mk [(0, (AV.v (TV.one (At.sl 10 0 an 1)))), (1, (AV.v (TV.one (At.int .i64 k)))), (5, (AV.v (TV.one (At.int .i64 i))))] [(Blk.mk Bool.false (Body.fl .f32 b0)), (Blk.mk Bool.false (Body.fl .f32 b1)), (Blk.mk Bool.false (Body.fl .f32 b2)), (Blk.mk Bool.true (Body.cells [(At.vw 0 0 q06 1), (At.vw 1 0 q08 1), (At.vw 2 0 q09 1)])), (Blk.mk Bool.true (Body.cells [(At.sl 5 0 q0n 1), (At.sl 6 0 q0l 1), (At.sl 7 0 q0m 1)])), (Blk.mk Bool.true (Body.fl .f32 b5)), (Blk.mk Bool.true (Body.fl .f32 b6)), (Blk.mk Bool.true (Body.fl .f32 b7)), (Blk.mk Bool.true (Body.cells [(At.sl 9 0 q0i 1), (At.sl 10 0 q0j 1), (At.sl 11 0 q0k 1)])), (Blk.mk Bool.true (Body.fl .f32 b9)), (Blk.mk Bool.true (Body.fl .f32 b10)), (Blk.mk Bool.true (Body.fl .f32 b11)), (Blk.mk Bool.true (Body.cells [(At.sl 13 0 q0g 1), (At.sl 14 0 q0f 1), (At.sl 15 0 q0h 1)])), (Blk.mk Bool.true (Body.fl .f32 b13)), (Blk.mk Bool.true (Body.fl .f32 b14)), (Blk.mk Bool.true (Body.fl .f32 b15)), (Blk.mk Bool.true (Body.cells [(At.sl 9 0 q0y 1), (At.sl 10 0 q0z 1), (At.sl 11 0 q10 1)]))]) K = z0q an k i b10 (fun k' i' b10' => K .normal (St.mk [(0, (AV.v (TV.one (At.sl 10 0 an 1)))), (1, (AV.v (TV.one (At.int .i64 k')))), (5, (AV.v (TV.one (At.int .i64 i'))))] [(Blk.mk Bool.false (Body.fl .f32 b0)), (Blk.mk Bool.false (Body.fl .f32 b1)), (Blk.mk Bool.false (Body.fl .f32 b2)), (Blk.mk Bool.true (Body.cells [(At.vw 0 0 q06 1), (At.vw 1 0 q08 1), (At.vw 2 0 q09 1)])), (Blk.mk Bool.true (Body.cells [(At.sl 5 0 q0n 1), (At.sl 6 0 q0l 1), (At.sl 7 0 q0m 1)])), (Blk.mk Bool.true (Body.fl .f32 b5)), (Blk.mk Bool.true (Body.fl .f32 b6)), (Blk.mk Bool.true (Body.fl .f32 b7)), (Blk.mk Bool.true (Body.cells [(At.sl 9 0 q0i 1), (At.sl 10 0 q0j 1), (At.sl 11 0 q0k 1)])), (Blk.mk Bool.true (Body.fl .f32 b9)), (Blk.mk Bool.true (Body.fl .f32 b10')), (Blk.mk Bool.true (Body.fl .f32 b11)), (Blk.mk Bool.true (Body.cells [(At.sl 13 0 q0g 1), (At.sl 14 0 q0f 1), (At.sl 15 0 q0h 1)])), (Blk.mk Bool.true (Body.fl .f32 b13)), (Blk.mk Bool.true (Body.fl .f32 b14)), (Blk.mk Bool.true (Body.fl .f32 b15)), (Blk.mk Bool.true (Body.cells [(At.sl 9 0 q0y 1), (At.sl 10 0 q0z 1), (At.sl 11 0 q10 1)]))])) (fun c0_ c1_ c2_ c3_ => K (Ex.exit 0) (St.mk [(0, (AV.v (TV.one (At.sl 10 0 an 1)))), (1, (AV.v (TV.one (At.int .i64 c0_)))), (5, (AV.v (TV.one (At.int .i64 c1_)))), (9, (AV.v (TV.one (At.bool c2_))))] [(Blk.mk Bool.false (Body.fl .f32 b0)), (Blk.mk Bool.false (Body.fl .f32 b1)), (Blk.mk Bool.false (Body.fl .f32 b2)), (Blk.mk Bool.true (Body.cells [(At.vw 0 0 q06 1), (At.vw 1 0 q08 1), (At.vw 2 0 q09 1)])), (Blk.mk Bool.true (Body.cells [(At.sl 5 0 q0n 1), (At.sl 6 0 q0l 1), (At.sl 7 0 q0m 1)])), (Blk.mk Bool.true (Body.fl .f32 b5)), (Blk.mk Bool.true (Body.fl .f32 b6)), (Blk.mk Bool.true (Body.fl .f32 b7)), (Blk.mk Bool.true (Body.cells [(At.sl 9 0 q0i 1), (At.sl 10 0 q0j 1), (At.sl 11 0 q0k 1)])), (Blk.mk Bool.true (Body.fl .f32 b9)), (Blk.mk Bool.true (Body.fl .f32 c3_)), (Blk.mk Bool.true (Body.fl .f32 b11)), (Blk.mk Bool.true (Body.cells [(At.sl 13 0 q0g 1), (At.sl 14 0 q0f 1), (At.sl 15 0 q0h 1)])), (Blk.mk Bool.true (Body.fl .f32 b13)), (Blk.mk Bool.true (Body.fl .f32 b14)), (Blk.mk Bool.true (Body.fl .f32 b15)), (Blk.mk Bool.true (Body.cells [(At.sl 9 0 q0y 1), (At.sl 10 0 q0z 1), (At.sl 11 0 q10 1)]))])) := by kernel_rfl
theorem z95 (an : Nat) (b0 : List Nat) (b1 : List Nat) (b2 : List Nat) (q06 : Nat) (q08 : Nat) (q09 : Nat) (q0n : Nat) (q0l : Nat) (q0m : Nat) (b5 : List Nat) (b6 : List Nat) (b7 : List Nat) (q0i : Nat) (q0j : Nat) (q0k : Nat) (b9 : List Nat) (b11 : List Nat) (q0g : Nat) (q0f : Nat) (q0h : Nat) (b13 : List Nat) (b14 : List Nat) (b15 : List Nat) (q0y : Nat) (q0z : Nat) (q10 : Nat) : ∀ (n : Nat) (k : Int) (i : Int) (b10 : List Nat), iter 57 2 17 (evC (R := Ex × St) Γ18 (evFn Γ18 8 8) 57 17 fi57.nt fi57.live fi57.nl 8 (findL 2 (loopsIn fi57.code))) n (St.mk [(0, (AV.v (TV.one (At.sl 10 0 an 1)))), (1, (AV.v (TV.one (At.int .i64 k)))), (5, (AV.v (TV.one (At.int .i64 i))))] [(Blk.mk Bool.false (Body.fl .f32 b0)), (Blk.mk Bool.false (Body.fl .f32 b1)), (Blk.mk Bool.false (Body.fl .f32 b2)), (Blk.mk Bool.true (Body.cells [(At.vw 0 0 q06 1), (At.vw 1 0 q08 1), (At.vw 2 0 q09 1)])), (Blk.mk Bool.true (Body.cells [(At.sl 5 0 q0n 1), (At.sl 6 0 q0l 1), (At.sl 7 0 q0m 1)])), (Blk.mk Bool.true (Body.fl .f32 b5)), (Blk.mk Bool.true (Body.fl .f32 b6)), (Blk.mk Bool.true (Body.fl .f32 b7)), (Blk.mk Bool.true (Body.cells [(At.sl 9 0 q0i 1), (At.sl 10 0 q0j 1), (At.sl 11 0 q0k 1)])), (Blk.mk Bool.true (Body.fl .f32 b9)), (Blk.mk Bool.true (Body.fl .f32 b10)), (Blk.mk Bool.true (Body.fl .f32 b11)), (Blk.mk Bool.true (Body.cells [(At.sl 13 0 q0g 1), (At.sl 14 0 q0f 1), (At.sl 15 0 q0h 1)])), (Blk.mk Bool.true (Body.fl .f32 b13)), (Blk.mk Bool.true (Body.fl .f32 b14)), (Blk.mk Bool.true (Body.fl .f32 b15)), (Blk.mk Bool.true (Body.cells [(At.sl 9 0 q0y 1), (At.sl 10 0 q0z 1), (At.sl 11 0 q10 1)]))]) (fun e st => some (e, st)) = (z1y an b0 b1 b2 q06 q08 q09 q0n q0l q0m b5 b6 b7 q0i q0j q0k b9 b11 q0g q0f q0h b13 b14 b15 q0y q0z q10) (z09 an n k i b10) := by
  intro n
  induction n with
  | zero => intros; rfl
  | succ n ih =>
    intro k i b10
    refine Eq.trans (iter_succ ..) (Eq.trans (z8s an k i b0 b1 b2 q06 q08 q09 q0n q0l q0m b5 b6 b7 q0i q0j q0k b9 b10 b11 q0g q0f q0h b13 b14 b15 q0y q0z q10 (nextK 57 2 17 (evC (R := Ex × St) Γ18 (evFn Γ18 8 8) 57 17 fi57.nt fi57.live fi57.nl 8 (findL 2 (loopsIn fi57.code))) n (fun e st => some (e, st)))) (Eq.trans ?_ (z72 an k i b10 (z1y an b0 b1 b2 q06 q08 q09 q0n q0l q0m b5 b6 b7 q0i q0j q0k b9 b11 q0g q0f q0h b13 b14 b15 q0y q0z q10) rfl (fun k' i' b10' => z09 an n k' i' b10') (fun c0_ c1_ c2_ c3_ => some (c0_, c1_, c2_, c3_)))))
    exact congrArg (fun kn_ => z0q an k i b10 kn_ (fun c0_ c1_ c2_ c3_ => (z1y an b0 b1 b2 q06 q08 q09 q0n q0l q0m b5 b6 b7 q0i q0j q0k b9 b11 q0g q0f q0h b13 b14 b15 q0y q0z q10) (some (c0_, c1_, c2_, c3_)))) (funext fun k' => funext fun i' => funext fun b10' => ih k' i' b10')
theorem z75 : LoopOne Try.prog fnTab 57 2 z4b := lp_of (Γ := Γ18) tyTab_ok (FnL.ok fnTab_ok _ _) (LpL.ok lt18_ok) (SumL.ok tb18_ok fnTab_ok _) mixed (fi := fi57) (by kernel_rfl) (by kernel_rfl) (by
  intro lo st out hp
  obtain ⟨hs, e1, e2, e3⟩ := lpT_inv hp
  clear hp
  obtain rfl : st = (St.mk [(0, (AV.v (TV.one (At.sl 10 0 (hvN (hGet hs 0)) 1)))), (1, (AV.v (TV.one (At.int .i64 (hvI (hGet hs 1)))))), (5, (AV.v (TV.one (At.int .i64 (hvI (hGet hs 2))))))] [(Blk.mk Bool.false (Body.fl .f32 (hvLn (hGet hs 3)))), (Blk.mk Bool.false (Body.fl .f32 (hvLn (hGet hs 4)))), (Blk.mk Bool.false (Body.fl .f32 (hvLn (hGet hs 5)))), (Blk.mk Bool.true (Body.cells [(At.vw 0 0 (hvN (hGet hs 6)) 1), (At.vw 1 0 (hvN (hGet hs 7)) 1), (At.vw 2 0 (hvN (hGet hs 8)) 1)])), (Blk.mk Bool.true (Body.cells [(At.sl 5 0 (hvN (hGet hs 9)) 1), (At.sl 6 0 (hvN (hGet hs 10)) 1), (At.sl 7 0 (hvN (hGet hs 11)) 1)])), (Blk.mk Bool.true (Body.fl .f32 (hvLn (hGet hs 12)))), (Blk.mk Bool.true (Body.fl .f32 (hvLn (hGet hs 13)))), (Blk.mk Bool.true (Body.fl .f32 (hvLn (hGet hs 14)))), (Blk.mk Bool.true (Body.cells [(At.sl 9 0 (hvN (hGet hs 15)) 1), (At.sl 10 0 (hvN (hGet hs 16)) 1), (At.sl 11 0 (hvN (hGet hs 17)) 1)])), (Blk.mk Bool.true (Body.fl .f32 (hvLn (hGet hs 18)))), (Blk.mk Bool.true (Body.fl .f32 (hvLn (hGet hs 19)))), (Blk.mk Bool.true (Body.fl .f32 (hvLn (hGet hs 20)))), (Blk.mk Bool.true (Body.cells [(At.sl 13 0 (hvN (hGet hs 21)) 1), (At.sl 14 0 (hvN (hGet hs 22)) 1), (At.sl 15 0 (hvN (hGet hs 23)) 1)])), (Blk.mk Bool.true (Body.fl .f32 (hvLn (hGet hs 24)))), (Blk.mk Bool.true (Body.fl .f32 (hvLn (hGet hs 25)))), (Blk.mk Bool.true (Body.fl .f32 (hvLn (hGet hs 26)))), (Blk.mk Bool.true (Body.cells [(At.sl 9 0 (hvN (hGet hs 27)) 1), (At.sl 10 0 (hvN (hGet hs 28)) 1), (At.sl 11 0 (hvN (hGet hs 29)) 1)]))]) := e2.trans (by kernel_rfl)
  clear e2
  subst e1
  unfold z3p at e3
  injection e3 with h1 h2
  subst h2
  exact ⟨8, 8, big, Eq.trans (z95 (hvN (hGet hs 0)) (hvLn (hGet hs 3)) (hvLn (hGet hs 4)) (hvLn (hGet hs 5)) (hvN (hGet hs 6)) (hvN (hGet hs 7)) (hvN (hGet hs 8)) (hvN (hGet hs 9)) (hvN (hGet hs 10)) (hvN (hGet hs 11)) (hvLn (hGet hs 12)) (hvLn (hGet hs 13)) (hvLn (hGet hs 14)) (hvN (hGet hs 15)) (hvN (hGet hs 16)) (hvN (hGet hs 17)) (hvLn (hGet hs 18)) (hvLn (hGet hs 20)) (hvN (hGet hs 21)) (hvN (hGet hs 22)) (hvN (hGet hs 23)) (hvLn (hGet hs 24)) (hvLn (hGet hs 25)) (hvLn (hGet hs 26)) (hvN (hGet hs 27)) (hvN (hGet hs 28)) (hvN (hGet hs 29)) big (hvI (hGet hs 1)) (hvI (hGet hs 2)) (hvLn (hGet hs 19))) (z8l (hvN (hGet hs 0)) (hvLn (hGet hs 3)) (hvLn (hGet hs 4)) (hvLn (hGet hs 5)) (hvN (hGet hs 6)) (hvN (hGet hs 7)) (hvN (hGet hs 8)) (hvN (hGet hs 9)) (hvN (hGet hs 10)) (hvN (hGet hs 11)) (hvLn (hGet hs 12)) (hvLn (hGet hs 13)) (hvLn (hGet hs 14)) (hvN (hGet hs 15)) (hvN (hGet hs 16)) (hvN (hGet hs 17)) (hvLn (hGet hs 18)) (hvLn (hGet hs 20)) (hvN (hGet hs 21)) (hvN (hGet hs 22)) (hvN (hGet hs 23)) (hvLn (hGet hs 24)) (hvLn (hGet hs 25)) (hvLn (hGet hs 26)) (hvN (hGet hs 27)) (hvN (hGet hs 28)) (hvN (hGet hs 29)) (z09 (hvN (hGet hs 0)) big (hvI (hGet hs 1)) (hvI (hGet hs 2)) (hvLn (hGet hs 19))) h1)⟩)
noncomputable def tb19 : List (Nat × (List PT → Option (Bool × AV × List Blk))) := tb18
noncomputable def lt19 : List ((Nat × Nat) × (Nat → St → Option (Bool × LO))) := ((57, 2), z4b) :: lt18
noncomputable def Γ19 : Ctx := ⟨tyTab, fnTab, tblSum tb19, tblLp lt19⟩
theorem tb19_ok : SumL Try.prog tb19 := tb18_ok
theorem lt19_ok : LpL Try.prog fnTab lt19 := LpL.cons z75 (lt18_ok)
noncomputable def tb20 : List (Nat × (List PT → Option (Bool × AV × List Blk))) := tb19
noncomputable def lt20 : List ((Nat × Nat) × (Nat → St → Option (Bool × LO))) := lt19
noncomputable def Γ20 : Ctx := ⟨tyTab, fnTab, tblSum tb20, tblLp lt20⟩
theorem tb20_ok : SumL Try.prog tb20 := tb19_ok
theorem lt20_ok : LpL Try.prog fnTab lt20 := lt19_ok
noncomputable def z3y (an : Nat) (k : Int) (i : Int) (b0 : List Nat) (b1 : List Nat) (b2 : List Nat) (q06 : Nat) (q08 : Nat) (q09 : Nat) (q0n : Nat) (q0l : Nat) (q0m : Nat) (b5 : List Nat) (b6 : List Nat) (b7 : List Nat) (q0i : Nat) (q0j : Nat) (q0k : Nat) (b9 : List Nat) (b10 : List Nat) (b11 : List Nat) (q0g : Nat) (q0f : Nat) (q0h : Nat) (b13 : List Nat) (b14 : List Nat) (b15 : List Nat) (q0y : Nat) (q0z : Nat) (q10 : Nat) : Bool × LO := ((laws_FnExactAddKnot__markFloat32S_l2_3_p an k i b11), (LO.one (Ex.exit 0) (St.mk [(0, (AV.v (TV.one (At.sl 11 0 an 1)))), (1, (AV.v (TV.one (At.int .i64 (laws_FnExactAddKnot__markFloat32S_l2_3_a0_0 an k i b11))))), (5, (AV.v (TV.one (At.int .i64 (laws_FnExactAddKnot__markFloat32S_l2_3_a0_1 an k i b11))))), (9, (AV.v (TV.one (At.bool (laws_FnExactAddKnot__markFloat32S_l2_3_a0_2 an k i b11)))))] [(Blk.mk Bool.false (Body.fl .f32 b0)), (Blk.mk Bool.false (Body.fl .f32 b1)), (Blk.mk Bool.false (Body.fl .f32 b2)), (Blk.mk Bool.true (Body.cells [(At.vw 0 0 q06 1), (At.vw 1 0 q08 1), (At.vw 2 0 q09 1)])), (Blk.mk Bool.true (Body.cells [(At.sl 5 0 q0n 1), (At.sl 6 0 q0l 1), (At.sl 7 0 q0m 1)])), (Blk.mk Bool.true (Body.fl .f32 b5)), (Blk.mk Bool.true (Body.fl .f32 b6)), (Blk.mk Bool.true (Body.fl .f32 b7)), (Blk.mk Bool.true (Body.cells [(At.sl 9 0 q0i 1), (At.sl 10 0 q0j 1), (At.sl 11 0 q0k 1)])), (Blk.mk Bool.true (Body.fl .f32 b9)), (Blk.mk Bool.true (Body.fl .f32 b10)), (Blk.mk Bool.true (Body.fl .f32 (laws_FnExactAddKnot__markFloat32S_l2_3_a0_3 an k i b11))), (Blk.mk Bool.true (Body.cells [(At.sl 13 0 q0g 1), (At.sl 14 0 q0f 1), (At.sl 15 0 q0h 1)])), (Blk.mk Bool.true (Body.fl .f32 b13)), (Blk.mk Bool.true (Body.fl .f32 b14)), (Blk.mk Bool.true (Body.fl .f32 b15)), (Blk.mk Bool.true (Body.cells [(At.sl 9 0 q0y 1), (At.sl 10 0 q0z 1), (At.sl 11 0 q10 1)]))])))
noncomputable def z49 : Nat → St → Option (Bool × LO) := lpT 17 (pSt [(pTm 0 (pV (pOne (pSl 11 (liN 0) 1)))), (pTm 1 (pV (pOne (pInt .i64)))), (pTm 5 (pV (pOne (pInt .i64))))] [(pBlk Bool.false (pFl .f32)), (pBlk Bool.false (pFl .f32)), (pBlk Bool.false (pFl .f32)), (pBlk Bool.true (pCells [(pVw 0 (liN 0) 1), (pVw 1 (liN 0) 1), (pVw 2 (liN 0) 1)])), (pBlk Bool.true (pCells [(pSl 5 (liN 0) 1), (pSl 6 (liN 0) 1), (pSl 7 (liN 0) 1)])), (pBlk Bool.true (pFl .f32)), (pBlk Bool.true (pFl .f32)), (pBlk Bool.true (pFl .f32)), (pBlk Bool.true (pCells [(pSl 9 (liN 0) 1), (pSl 10 (liN 0) 1), (pSl 11 (liN 0) 1)])), (pBlk Bool.true (pFl .f32)), (pBlk Bool.true (pFl .f32)), (pBlk Bool.true (pFl .f32)), (pBlk Bool.true (pCells [(pSl 13 (liN 0) 1), (pSl 14 (liN 0) 1), (pSl 15 (liN 0) 1)])), (pBlk Bool.true (pFl .f32)), (pBlk Bool.true (pFl .f32)), (pBlk Bool.true (pFl .f32)), (pBlk Bool.true (pCells [(pSl 9 (liN 0) 1), (pSl 10 (liN 0) 1), (pSl 11 (liN 0) 1)]))]) (fun hs => z3y (hvN (hGet hs 0)) (hvI (hGet hs 1)) (hvI (hGet hs 2)) (hvLn (hGet hs 3)) (hvLn (hGet hs 4)) (hvLn (hGet hs 5)) (hvN (hGet hs 6)) (hvN (hGet hs 7)) (hvN (hGet hs 8)) (hvN (hGet hs 9)) (hvN (hGet hs 10)) (hvN (hGet hs 11)) (hvLn (hGet hs 12)) (hvLn (hGet hs 13)) (hvLn (hGet hs 14)) (hvN (hGet hs 15)) (hvN (hGet hs 16)) (hvN (hGet hs 17)) (hvLn (hGet hs 18)) (hvLn (hGet hs 19)) (hvLn (hGet hs 20)) (hvN (hGet hs 21)) (hvN (hGet hs 22)) (hvN (hGet hs 23)) (hvLn (hGet hs 24)) (hvLn (hGet hs 25)) (hvLn (hGet hs 26)) (hvN (hGet hs 27)) (hvN (hGet hs 28)) (hvN (hGet hs 29)))
def z23 (an : Nat) (b0 : List Nat) (b1 : List Nat) (b2 : List Nat) (q06 : Nat) (q08 : Nat) (q09 : Nat) (q0n : Nat) (q0l : Nat) (q0m : Nat) (b5 : List Nat) (b6 : List Nat) (b7 : List Nat) (q0i : Nat) (q0j : Nat) (q0k : Nat) (b9 : List Nat) (b10 : List Nat) (q0g : Nat) (q0f : Nat) (q0h : Nat) (b13 : List Nat) (b14 : List Nat) (b15 : List Nat) (q0y : Nat) (q0z : Nat) (q10 : Nat) : Option ((Int × Int × Bool × (List Nat))) → Option (Ex × St)
  | none => none
  | some r => some ((Ex.exit 0), (St.mk [(0, (AV.v (TV.one (At.sl 11 0 an 1)))), (1, (AV.v (TV.one (At.int .i64 r.1)))), (5, (AV.v (TV.one (At.int .i64 r.2.1)))), (9, (AV.v (TV.one (At.bool r.2.2.1))))] [(Blk.mk Bool.false (Body.fl .f32 b0)), (Blk.mk Bool.false (Body.fl .f32 b1)), (Blk.mk Bool.false (Body.fl .f32 b2)), (Blk.mk Bool.true (Body.cells [(At.vw 0 0 q06 1), (At.vw 1 0 q08 1), (At.vw 2 0 q09 1)])), (Blk.mk Bool.true (Body.cells [(At.sl 5 0 q0n 1), (At.sl 6 0 q0l 1), (At.sl 7 0 q0m 1)])), (Blk.mk Bool.true (Body.fl .f32 b5)), (Blk.mk Bool.true (Body.fl .f32 b6)), (Blk.mk Bool.true (Body.fl .f32 b7)), (Blk.mk Bool.true (Body.cells [(At.sl 9 0 q0i 1), (At.sl 10 0 q0j 1), (At.sl 11 0 q0k 1)])), (Blk.mk Bool.true (Body.fl .f32 b9)), (Blk.mk Bool.true (Body.fl .f32 b10)), (Blk.mk Bool.true (Body.fl .f32 r.2.2.2)), (Blk.mk Bool.true (Body.cells [(At.sl 13 0 q0g 1), (At.sl 14 0 q0f 1), (At.sl 15 0 q0h 1)])), (Blk.mk Bool.true (Body.fl .f32 b13)), (Blk.mk Bool.true (Body.fl .f32 b14)), (Blk.mk Bool.true (Body.fl .f32 b15)), (Blk.mk Bool.true (Body.cells [(At.sl 9 0 q0y 1), (At.sl 10 0 q0z 1), (At.sl 11 0 q10 1)]))]))
def z8e (an : Nat) (b0 : List Nat) (b1 : List Nat) (b2 : List Nat) (q06 : Nat) (q08 : Nat) (q09 : Nat) (q0n : Nat) (q0l : Nat) (q0m : Nat) (b5 : List Nat) (b6 : List Nat) (b7 : List Nat) (q0i : Nat) (q0j : Nat) (q0k : Nat) (b9 : List Nat) (b10 : List Nat) (q0g : Nat) (q0f : Nat) (q0h : Nat) (b13 : List Nat) (b14 : List Nat) (b15 : List Nat) (q0y : Nat) (q0z : Nat) (q10 : Nat) (x : Option ((Int × Int × Bool × (List Nat)))) : LO := (LO.one (Ex.exit 0) (St.mk [(0, (AV.v (TV.one (At.sl 11 0 an 1)))), (1, (AV.v (TV.one (At.int .i64 (x.getD default).1)))), (5, (AV.v (TV.one (At.int .i64 (x.getD default).2.1)))), (9, (AV.v (TV.one (At.bool (x.getD default).2.2.1))))] [(Blk.mk Bool.false (Body.fl .f32 b0)), (Blk.mk Bool.false (Body.fl .f32 b1)), (Blk.mk Bool.false (Body.fl .f32 b2)), (Blk.mk Bool.true (Body.cells [(At.vw 0 0 q06 1), (At.vw 1 0 q08 1), (At.vw 2 0 q09 1)])), (Blk.mk Bool.true (Body.cells [(At.sl 5 0 q0n 1), (At.sl 6 0 q0l 1), (At.sl 7 0 q0m 1)])), (Blk.mk Bool.true (Body.fl .f32 b5)), (Blk.mk Bool.true (Body.fl .f32 b6)), (Blk.mk Bool.true (Body.fl .f32 b7)), (Blk.mk Bool.true (Body.cells [(At.sl 9 0 q0i 1), (At.sl 10 0 q0j 1), (At.sl 11 0 q0k 1)])), (Blk.mk Bool.true (Body.fl .f32 b9)), (Blk.mk Bool.true (Body.fl .f32 b10)), (Blk.mk Bool.true (Body.fl .f32 (x.getD default).2.2.2)), (Blk.mk Bool.true (Body.cells [(At.sl 13 0 q0g 1), (At.sl 14 0 q0f 1), (At.sl 15 0 q0h 1)])), (Blk.mk Bool.true (Body.fl .f32 b13)), (Blk.mk Bool.true (Body.fl .f32 b14)), (Blk.mk Bool.true (Body.fl .f32 b15)), (Blk.mk Bool.true (Body.cells [(At.sl 9 0 q0y 1), (At.sl 10 0 q0z 1), (At.sl 11 0 q10 1)]))]))
theorem z8y (an : Nat) (b0 : List Nat) (b1 : List Nat) (b2 : List Nat) (q06 : Nat) (q08 : Nat) (q09 : Nat) (q0n : Nat) (q0l : Nat) (q0m : Nat) (b5 : List Nat) (b6 : List Nat) (b7 : List Nat) (q0i : Nat) (q0j : Nat) (q0k : Nat) (b9 : List Nat) (b10 : List Nat) (q0g : Nat) (q0f : Nat) (q0h : Nat) (b13 : List Nat) (b14 : List Nat) (b15 : List Nat) (q0y : Nat) (q0z : Nat) (q10 : Nat) : ∀ x : Option ((Int × Int × Bool × (List Nat))), x.isSome = true → (z23 an b0 b1 b2 q06 q08 q09 q0n q0l q0m b5 b6 b7 q0i q0j q0k b9 b10 q0g q0f q0h b13 b14 b15 q0y q0z q10) x = some (pick (z8e an b0 b1 b2 q06 q08 q09 q0n q0l q0m b5 b6 b7 q0i q0j q0k b9 b10 q0g q0f q0h b13 b14 b15 q0y q0z q10 x))
  | none, h => by cases h
  | some r, _ => rfl
theorem z8n (an : Nat) (k : Int) (i : Int) (b0 : List Nat) (b1 : List Nat) (b2 : List Nat) (q06 : Nat) (q08 : Nat) (q09 : Nat) (q0n : Nat) (q0l : Nat) (q0m : Nat) (b5 : List Nat) (b6 : List Nat) (b7 : List Nat) (q0i : Nat) (q0j : Nat) (q0k : Nat) (b9 : List Nat) (b10 : List Nat) (b11 : List Nat) (q0g : Nat) (q0f : Nat) (q0h : Nat) (b13 : List Nat) (b14 : List Nat) (b15 : List Nat) (q0y : Nat) (q0z : Nat) (q10 : Nat) (K : Ex → St → Option (Ex × St)) : evC (R := Ex × St) Γ20 (evFn Γ20 8 8) 57 17 fi57.nt fi57.live fi57.nl 8 (findL 2 (loopsIn fi57.code)) (St.mk [(0, (AV.v (TV.one (At.sl 11 0 an 1)))), (1, (AV.v (TV.one (At.int .i64 k)))), (5, (AV.v (TV.one (At.int .i64 i))))] [(Blk.mk Bool.false (Body.fl .f32 b0)), (Blk.mk Bool.false (Body.fl .f32 b1)), (Blk.mk Bool.false (Body.fl .f32 b2)), (Blk.mk Bool.true (Body.cells [(At.vw 0 0 q06 1), (At.vw 1 0 q08 1), (At.vw 2 0 q09 1)])), (Blk.mk Bool.true (Body.cells [(At.sl 5 0 q0n 1), (At.sl 6 0 q0l 1), (At.sl 7 0 q0m 1)])), (Blk.mk Bool.true (Body.fl .f32 b5)), (Blk.mk Bool.true (Body.fl .f32 b6)), (Blk.mk Bool.true (Body.fl .f32 b7)), (Blk.mk Bool.true (Body.cells [(At.sl 9 0 q0i 1), (At.sl 10 0 q0j 1), (At.sl 11 0 q0k 1)])), (Blk.mk Bool.true (Body.fl .f32 b9)), (Blk.mk Bool.true (Body.fl .f32 b10)), (Blk.mk Bool.true (Body.fl .f32 b11)), (Blk.mk Bool.true (Body.cells [(At.sl 13 0 q0g 1), (At.sl 14 0 q0f 1), (At.sl 15 0 q0h 1)])), (Blk.mk Bool.true (Body.fl .f32 b13)), (Blk.mk Bool.true (Body.fl .f32 b14)), (Blk.mk Bool.true (Body.fl .f32 b15)), (Blk.mk Bool.true (Body.cells [(At.sl 9 0 q0y 1), (At.sl 10 0 q0z 1), (At.sl 11 0 q10 1)]))]) K = z0n an k i b11 (fun k' i' b11' => K .normal (St.mk [(0, (AV.v (TV.one (At.sl 11 0 an 1)))), (1, (AV.v (TV.one (At.int .i64 k')))), (5, (AV.v (TV.one (At.int .i64 i'))))] [(Blk.mk Bool.false (Body.fl .f32 b0)), (Blk.mk Bool.false (Body.fl .f32 b1)), (Blk.mk Bool.false (Body.fl .f32 b2)), (Blk.mk Bool.true (Body.cells [(At.vw 0 0 q06 1), (At.vw 1 0 q08 1), (At.vw 2 0 q09 1)])), (Blk.mk Bool.true (Body.cells [(At.sl 5 0 q0n 1), (At.sl 6 0 q0l 1), (At.sl 7 0 q0m 1)])), (Blk.mk Bool.true (Body.fl .f32 b5)), (Blk.mk Bool.true (Body.fl .f32 b6)), (Blk.mk Bool.true (Body.fl .f32 b7)), (Blk.mk Bool.true (Body.cells [(At.sl 9 0 q0i 1), (At.sl 10 0 q0j 1), (At.sl 11 0 q0k 1)])), (Blk.mk Bool.true (Body.fl .f32 b9)), (Blk.mk Bool.true (Body.fl .f32 b10)), (Blk.mk Bool.true (Body.fl .f32 b11')), (Blk.mk Bool.true (Body.cells [(At.sl 13 0 q0g 1), (At.sl 14 0 q0f 1), (At.sl 15 0 q0h 1)])), (Blk.mk Bool.true (Body.fl .f32 b13)), (Blk.mk Bool.true (Body.fl .f32 b14)), (Blk.mk Bool.true (Body.fl .f32 b15)), (Blk.mk Bool.true (Body.cells [(At.sl 9 0 q0y 1), (At.sl 10 0 q0z 1), (At.sl 11 0 q10 1)]))])) (fun c0_ c1_ c2_ c3_ => K (Ex.exit 0) (St.mk [(0, (AV.v (TV.one (At.sl 11 0 an 1)))), (1, (AV.v (TV.one (At.int .i64 c0_)))), (5, (AV.v (TV.one (At.int .i64 c1_)))), (9, (AV.v (TV.one (At.bool c2_))))] [(Blk.mk Bool.false (Body.fl .f32 b0)), (Blk.mk Bool.false (Body.fl .f32 b1)), (Blk.mk Bool.false (Body.fl .f32 b2)), (Blk.mk Bool.true (Body.cells [(At.vw 0 0 q06 1), (At.vw 1 0 q08 1), (At.vw 2 0 q09 1)])), (Blk.mk Bool.true (Body.cells [(At.sl 5 0 q0n 1), (At.sl 6 0 q0l 1), (At.sl 7 0 q0m 1)])), (Blk.mk Bool.true (Body.fl .f32 b5)), (Blk.mk Bool.true (Body.fl .f32 b6)), (Blk.mk Bool.true (Body.fl .f32 b7)), (Blk.mk Bool.true (Body.cells [(At.sl 9 0 q0i 1), (At.sl 10 0 q0j 1), (At.sl 11 0 q0k 1)])), (Blk.mk Bool.true (Body.fl .f32 b9)), (Blk.mk Bool.true (Body.fl .f32 b10)), (Blk.mk Bool.true (Body.fl .f32 c3_)), (Blk.mk Bool.true (Body.cells [(At.sl 13 0 q0g 1), (At.sl 14 0 q0f 1), (At.sl 15 0 q0h 1)])), (Blk.mk Bool.true (Body.fl .f32 b13)), (Blk.mk Bool.true (Body.fl .f32 b14)), (Blk.mk Bool.true (Body.fl .f32 b15)), (Blk.mk Bool.true (Body.cells [(At.sl 9 0 q0y 1), (At.sl 10 0 q0z 1), (At.sl 11 0 q10 1)]))])) := by kernel_rfl
theorem z91 (an : Nat) (b0 : List Nat) (b1 : List Nat) (b2 : List Nat) (q06 : Nat) (q08 : Nat) (q09 : Nat) (q0n : Nat) (q0l : Nat) (q0m : Nat) (b5 : List Nat) (b6 : List Nat) (b7 : List Nat) (q0i : Nat) (q0j : Nat) (q0k : Nat) (b9 : List Nat) (b10 : List Nat) (q0g : Nat) (q0f : Nat) (q0h : Nat) (b13 : List Nat) (b14 : List Nat) (b15 : List Nat) (q0y : Nat) (q0z : Nat) (q10 : Nat) : ∀ (n : Nat) (k : Int) (i : Int) (b11 : List Nat), iter 57 2 17 (evC (R := Ex × St) Γ20 (evFn Γ20 8 8) 57 17 fi57.nt fi57.live fi57.nl 8 (findL 2 (loopsIn fi57.code))) n (St.mk [(0, (AV.v (TV.one (At.sl 11 0 an 1)))), (1, (AV.v (TV.one (At.int .i64 k)))), (5, (AV.v (TV.one (At.int .i64 i))))] [(Blk.mk Bool.false (Body.fl .f32 b0)), (Blk.mk Bool.false (Body.fl .f32 b1)), (Blk.mk Bool.false (Body.fl .f32 b2)), (Blk.mk Bool.true (Body.cells [(At.vw 0 0 q06 1), (At.vw 1 0 q08 1), (At.vw 2 0 q09 1)])), (Blk.mk Bool.true (Body.cells [(At.sl 5 0 q0n 1), (At.sl 6 0 q0l 1), (At.sl 7 0 q0m 1)])), (Blk.mk Bool.true (Body.fl .f32 b5)), (Blk.mk Bool.true (Body.fl .f32 b6)), (Blk.mk Bool.true (Body.fl .f32 b7)), (Blk.mk Bool.true (Body.cells [(At.sl 9 0 q0i 1), (At.sl 10 0 q0j 1), (At.sl 11 0 q0k 1)])), (Blk.mk Bool.true (Body.fl .f32 b9)), (Blk.mk Bool.true (Body.fl .f32 b10)), (Blk.mk Bool.true (Body.fl .f32 b11)), (Blk.mk Bool.true (Body.cells [(At.sl 13 0 q0g 1), (At.sl 14 0 q0f 1), (At.sl 15 0 q0h 1)])), (Blk.mk Bool.true (Body.fl .f32 b13)), (Blk.mk Bool.true (Body.fl .f32 b14)), (Blk.mk Bool.true (Body.fl .f32 b15)), (Blk.mk Bool.true (Body.cells [(At.sl 9 0 q0y 1), (At.sl 10 0 q0z 1), (At.sl 11 0 q10 1)]))]) (fun e st => some (e, st)) = (z23 an b0 b1 b2 q06 q08 q09 q0n q0l q0m b5 b6 b7 q0i q0j q0k b9 b10 q0g q0f q0h b13 b14 b15 q0y q0z q10) (z06 an n k i b11) := by
  intro n
  induction n with
  | zero => intros; rfl
  | succ n ih =>
    intro k i b11
    refine Eq.trans (iter_succ ..) (Eq.trans (z8n an k i b0 b1 b2 q06 q08 q09 q0n q0l q0m b5 b6 b7 q0i q0j q0k b9 b10 b11 q0g q0f q0h b13 b14 b15 q0y q0z q10 (nextK 57 2 17 (evC (R := Ex × St) Γ20 (evFn Γ20 8 8) 57 17 fi57.nt fi57.live fi57.nl 8 (findL 2 (loopsIn fi57.code))) n (fun e st => some (e, st)))) (Eq.trans ?_ (z70 an k i b11 (z23 an b0 b1 b2 q06 q08 q09 q0n q0l q0m b5 b6 b7 q0i q0j q0k b9 b10 q0g q0f q0h b13 b14 b15 q0y q0z q10) rfl (fun k' i' b11' => z06 an n k' i' b11') (fun c0_ c1_ c2_ c3_ => some (c0_, c1_, c2_, c3_)))))
    exact congrArg (fun kn_ => z0n an k i b11 kn_ (fun c0_ c1_ c2_ c3_ => (z23 an b0 b1 b2 q06 q08 q09 q0n q0l q0m b5 b6 b7 q0i q0j q0k b9 b10 q0g q0f q0h b13 b14 b15 q0y q0z q10) (some (c0_, c1_, c2_, c3_)))) (funext fun k' => funext fun i' => funext fun b11' => ih k' i' b11')
theorem z79 : LoopOne Try.prog fnTab 57 2 z49 := lp_of (Γ := Γ20) tyTab_ok (FnL.ok fnTab_ok _ _) (LpL.ok lt20_ok) (SumL.ok tb20_ok fnTab_ok _) mixed (fi := fi57) (by kernel_rfl) (by kernel_rfl) (by
  intro lo st out hp
  obtain ⟨hs, e1, e2, e3⟩ := lpT_inv hp
  clear hp
  obtain rfl : st = (St.mk [(0, (AV.v (TV.one (At.sl 11 0 (hvN (hGet hs 0)) 1)))), (1, (AV.v (TV.one (At.int .i64 (hvI (hGet hs 1)))))), (5, (AV.v (TV.one (At.int .i64 (hvI (hGet hs 2))))))] [(Blk.mk Bool.false (Body.fl .f32 (hvLn (hGet hs 3)))), (Blk.mk Bool.false (Body.fl .f32 (hvLn (hGet hs 4)))), (Blk.mk Bool.false (Body.fl .f32 (hvLn (hGet hs 5)))), (Blk.mk Bool.true (Body.cells [(At.vw 0 0 (hvN (hGet hs 6)) 1), (At.vw 1 0 (hvN (hGet hs 7)) 1), (At.vw 2 0 (hvN (hGet hs 8)) 1)])), (Blk.mk Bool.true (Body.cells [(At.sl 5 0 (hvN (hGet hs 9)) 1), (At.sl 6 0 (hvN (hGet hs 10)) 1), (At.sl 7 0 (hvN (hGet hs 11)) 1)])), (Blk.mk Bool.true (Body.fl .f32 (hvLn (hGet hs 12)))), (Blk.mk Bool.true (Body.fl .f32 (hvLn (hGet hs 13)))), (Blk.mk Bool.true (Body.fl .f32 (hvLn (hGet hs 14)))), (Blk.mk Bool.true (Body.cells [(At.sl 9 0 (hvN (hGet hs 15)) 1), (At.sl 10 0 (hvN (hGet hs 16)) 1), (At.sl 11 0 (hvN (hGet hs 17)) 1)])), (Blk.mk Bool.true (Body.fl .f32 (hvLn (hGet hs 18)))), (Blk.mk Bool.true (Body.fl .f32 (hvLn (hGet hs 19)))), (Blk.mk Bool.true (Body.fl .f32 (hvLn (hGet hs 20)))), (Blk.mk Bool.true (Body.cells [(At.sl 13 0 (hvN (hGet hs 21)) 1), (At.sl 14 0 (hvN (hGet hs 22)) 1), (At.sl 15 0 (hvN (hGet hs 23)) 1)])), (Blk.mk Bool.true (Body.fl .f32 (hvLn (hGet hs 24)))), (Blk.mk Bool.true (Body.fl .f32 (hvLn (hGet hs 25)))), (Blk.mk Bool.true (Body.fl .f32 (hvLn (hGet hs 26)))), (Blk.mk Bool.true (Body.cells [(At.sl 9 0 (hvN (hGet hs 27)) 1), (At.sl 10 0 (hvN (hGet hs 28)) 1), (At.sl 11 0 (hvN (hGet hs 29)) 1)]))]) := e2.trans (by kernel_rfl)
  clear e2
  subst e1
  unfold z3y at e3
  injection e3 with h1 h2
  subst h2
  exact ⟨8, 8, big, Eq.trans (z91 (hvN (hGet hs 0)) (hvLn (hGet hs 3)) (hvLn (hGet hs 4)) (hvLn (hGet hs 5)) (hvN (hGet hs 6)) (hvN (hGet hs 7)) (hvN (hGet hs 8)) (hvN (hGet hs 9)) (hvN (hGet hs 10)) (hvN (hGet hs 11)) (hvLn (hGet hs 12)) (hvLn (hGet hs 13)) (hvLn (hGet hs 14)) (hvN (hGet hs 15)) (hvN (hGet hs 16)) (hvN (hGet hs 17)) (hvLn (hGet hs 18)) (hvLn (hGet hs 19)) (hvN (hGet hs 21)) (hvN (hGet hs 22)) (hvN (hGet hs 23)) (hvLn (hGet hs 24)) (hvLn (hGet hs 25)) (hvLn (hGet hs 26)) (hvN (hGet hs 27)) (hvN (hGet hs 28)) (hvN (hGet hs 29)) big (hvI (hGet hs 1)) (hvI (hGet hs 2)) (hvLn (hGet hs 20))) (z8y (hvN (hGet hs 0)) (hvLn (hGet hs 3)) (hvLn (hGet hs 4)) (hvLn (hGet hs 5)) (hvN (hGet hs 6)) (hvN (hGet hs 7)) (hvN (hGet hs 8)) (hvN (hGet hs 9)) (hvN (hGet hs 10)) (hvN (hGet hs 11)) (hvLn (hGet hs 12)) (hvLn (hGet hs 13)) (hvLn (hGet hs 14)) (hvN (hGet hs 15)) (hvN (hGet hs 16)) (hvN (hGet hs 17)) (hvLn (hGet hs 18)) (hvLn (hGet hs 19)) (hvN (hGet hs 21)) (hvN (hGet hs 22)) (hvN (hGet hs 23)) (hvLn (hGet hs 24)) (hvLn (hGet hs 25)) (hvLn (hGet hs 26)) (hvN (hGet hs 27)) (hvN (hGet hs 28)) (hvN (hGet hs 29)) (z06 (hvN (hGet hs 0)) big (hvI (hGet hs 1)) (hvI (hGet hs 2)) (hvLn (hGet hs 20))) h1)⟩)
noncomputable def tb21 : List (Nat × (List PT → Option (Bool × AV × List Blk))) := tb20
noncomputable def lt21 : List ((Nat × Nat) × (Nat → St → Option (Bool × LO))) := ((57, 2), z49) :: lt20
noncomputable def Γ21 : Ctx := ⟨tyTab, fnTab, tblSum tb21, tblLp lt21⟩
theorem tb21_ok : SumL Try.prog tb21 := tb20_ok
theorem lt21_ok : LpL Try.prog fnTab lt21 := LpL.cons z79 (lt20_ok)
noncomputable def tb22 : List (Nat × (List PT → Option (Bool × AV × List Blk))) := tb21
noncomputable def lt22 : List ((Nat × Nat) × (Nat → St → Option (Bool × LO))) := lt21
noncomputable def Γ22 : Ctx := ⟨tyTab, fnTab, tblSum tb22, tblLp lt22⟩
theorem tb22_ok : SumL Try.prog tb22 := tb21_ok
theorem lt22_ok : LpL Try.prog fnTab lt22 := lt21_ok
noncomputable def z3q (an : Nat) (k : Int) (i : Int) (b0 : List Nat) (b1 : List Nat) (b2 : List Nat) (q06 : Nat) (q08 : Nat) (q09 : Nat) (q0n : Nat) (q0l : Nat) (q0m : Nat) (b5 : List Nat) (b6 : List Nat) (b7 : List Nat) (q0i : Nat) (q0j : Nat) (q0k : Nat) (b9 : List Nat) (b10 : List Nat) (b11 : List Nat) (q0g : Nat) (q0f : Nat) (q0h : Nat) : Bool × LO := ((laws_FnExactAddKnot__markFloat32S_l2_4_p an k i b9), (LO.one (Ex.exit 0) (St.mk [(0, (AV.v (TV.one (At.sl 9 0 an 1)))), (1, (AV.v (TV.one (At.int .i64 (laws_FnExactAddKnot__markFloat32S_l2_4_a0_0 an k i b9))))), (5, (AV.v (TV.one (At.int .i64 (laws_FnExactAddKnot__markFloat32S_l2_4_a0_1 an k i b9))))), (9, (AV.v (TV.one (At.bool (laws_FnExactAddKnot__markFloat32S_l2_4_a0_2 an k i b9)))))] [(Blk.mk Bool.false (Body.fl .f32 b0)), (Blk.mk Bool.false (Body.fl .f32 b1)), (Blk.mk Bool.false (Body.fl .f32 b2)), (Blk.mk Bool.true (Body.cells [(At.vw 0 0 q06 1), (At.vw 1 0 q08 1), (At.vw 2 0 q09 1)])), (Blk.mk Bool.true (Body.cells [(At.sl 5 0 q0n 1), (At.sl 6 0 q0l 1), (At.sl 7 0 q0m 1)])), (Blk.mk Bool.true (Body.fl .f32 b5)), (Blk.mk Bool.true (Body.fl .f32 b6)), (Blk.mk Bool.true (Body.fl .f32 b7)), (Blk.mk Bool.true (Body.cells [(At.sl 9 0 q0i 1), (At.sl 10 0 q0j 1), (At.sl 11 0 q0k 1)])), (Blk.mk Bool.true (Body.fl .f32 (laws_FnExactAddKnot__markFloat32S_l2_4_a0_3 an k i b9))), (Blk.mk Bool.true (Body.fl .f32 b10)), (Blk.mk Bool.true (Body.fl .f32 b11)), (Blk.mk Bool.true (Body.cells [(At.sl 9 0 q0g 1), (At.sl 10 0 q0f 1), (At.sl 11 0 q0h 1)]))])))
noncomputable def z4f : Nat → St → Option (Bool × LO) := lpT 13 (pSt [(pTm 0 (pV (pOne (pSl 9 (liN 0) 1)))), (pTm 1 (pV (pOne (pInt .i64)))), (pTm 5 (pV (pOne (pInt .i64))))] [(pBlk Bool.false (pFl .f32)), (pBlk Bool.false (pFl .f32)), (pBlk Bool.false (pFl .f32)), (pBlk Bool.true (pCells [(pVw 0 (liN 0) 1), (pVw 1 (liN 0) 1), (pVw 2 (liN 0) 1)])), (pBlk Bool.true (pCells [(pSl 5 (liN 0) 1), (pSl 6 (liN 0) 1), (pSl 7 (liN 0) 1)])), (pBlk Bool.true (pFl .f32)), (pBlk Bool.true (pFl .f32)), (pBlk Bool.true (pFl .f32)), (pBlk Bool.true (pCells [(pSl 9 (liN 0) 1), (pSl 10 (liN 0) 1), (pSl 11 (liN 0) 1)])), (pBlk Bool.true (pFl .f32)), (pBlk Bool.true (pFl .f32)), (pBlk Bool.true (pFl .f32)), (pBlk Bool.true (pCells [(pSl 9 (liN 0) 1), (pSl 10 (liN 0) 1), (pSl 11 (liN 0) 1)]))]) (fun hs => z3q (hvN (hGet hs 0)) (hvI (hGet hs 1)) (hvI (hGet hs 2)) (hvLn (hGet hs 3)) (hvLn (hGet hs 4)) (hvLn (hGet hs 5)) (hvN (hGet hs 6)) (hvN (hGet hs 7)) (hvN (hGet hs 8)) (hvN (hGet hs 9)) (hvN (hGet hs 10)) (hvN (hGet hs 11)) (hvLn (hGet hs 12)) (hvLn (hGet hs 13)) (hvLn (hGet hs 14)) (hvN (hGet hs 15)) (hvN (hGet hs 16)) (hvN (hGet hs 17)) (hvLn (hGet hs 18)) (hvLn (hGet hs 19)) (hvLn (hGet hs 20)) (hvN (hGet hs 21)) (hvN (hGet hs 22)) (hvN (hGet hs 23)))
def z1w (an : Nat) (b0 : List Nat) (b1 : List Nat) (b2 : List Nat) (q06 : Nat) (q08 : Nat) (q09 : Nat) (q0n : Nat) (q0l : Nat) (q0m : Nat) (b5 : List Nat) (b6 : List Nat) (b7 : List Nat) (q0i : Nat) (q0j : Nat) (q0k : Nat) (b10 : List Nat) (b11 : List Nat) (q0g : Nat) (q0f : Nat) (q0h : Nat) : Option ((Int × Int × Bool × (List Nat))) → Option (Ex × St)
  | none => none
  | some r => some ((Ex.exit 0), (St.mk [(0, (AV.v (TV.one (At.sl 9 0 an 1)))), (1, (AV.v (TV.one (At.int .i64 r.1)))), (5, (AV.v (TV.one (At.int .i64 r.2.1)))), (9, (AV.v (TV.one (At.bool r.2.2.1))))] [(Blk.mk Bool.false (Body.fl .f32 b0)), (Blk.mk Bool.false (Body.fl .f32 b1)), (Blk.mk Bool.false (Body.fl .f32 b2)), (Blk.mk Bool.true (Body.cells [(At.vw 0 0 q06 1), (At.vw 1 0 q08 1), (At.vw 2 0 q09 1)])), (Blk.mk Bool.true (Body.cells [(At.sl 5 0 q0n 1), (At.sl 6 0 q0l 1), (At.sl 7 0 q0m 1)])), (Blk.mk Bool.true (Body.fl .f32 b5)), (Blk.mk Bool.true (Body.fl .f32 b6)), (Blk.mk Bool.true (Body.fl .f32 b7)), (Blk.mk Bool.true (Body.cells [(At.sl 9 0 q0i 1), (At.sl 10 0 q0j 1), (At.sl 11 0 q0k 1)])), (Blk.mk Bool.true (Body.fl .f32 r.2.2.2)), (Blk.mk Bool.true (Body.fl .f32 b10)), (Blk.mk Bool.true (Body.fl .f32 b11)), (Blk.mk Bool.true (Body.cells [(At.sl 9 0 q0g 1), (At.sl 10 0 q0f 1), (At.sl 11 0 q0h 1)]))]))
def z8d (an : Nat) (b0 : List Nat) (b1 : List Nat) (b2 : List Nat) (q06 : Nat) (q08 : Nat) (q09 : Nat) (q0n : Nat) (q0l : Nat) (q0m : Nat) (b5 : List Nat) (b6 : List Nat) (b7 : List Nat) (q0i : Nat) (q0j : Nat) (q0k : Nat) (b10 : List Nat) (b11 : List Nat) (q0g : Nat) (q0f : Nat) (q0h : Nat) (x : Option ((Int × Int × Bool × (List Nat)))) : LO := (LO.one (Ex.exit 0) (St.mk [(0, (AV.v (TV.one (At.sl 9 0 an 1)))), (1, (AV.v (TV.one (At.int .i64 (x.getD default).1)))), (5, (AV.v (TV.one (At.int .i64 (x.getD default).2.1)))), (9, (AV.v (TV.one (At.bool (x.getD default).2.2.1))))] [(Blk.mk Bool.false (Body.fl .f32 b0)), (Blk.mk Bool.false (Body.fl .f32 b1)), (Blk.mk Bool.false (Body.fl .f32 b2)), (Blk.mk Bool.true (Body.cells [(At.vw 0 0 q06 1), (At.vw 1 0 q08 1), (At.vw 2 0 q09 1)])), (Blk.mk Bool.true (Body.cells [(At.sl 5 0 q0n 1), (At.sl 6 0 q0l 1), (At.sl 7 0 q0m 1)])), (Blk.mk Bool.true (Body.fl .f32 b5)), (Blk.mk Bool.true (Body.fl .f32 b6)), (Blk.mk Bool.true (Body.fl .f32 b7)), (Blk.mk Bool.true (Body.cells [(At.sl 9 0 q0i 1), (At.sl 10 0 q0j 1), (At.sl 11 0 q0k 1)])), (Blk.mk Bool.true (Body.fl .f32 (x.getD default).2.2.2)), (Blk.mk Bool.true (Body.fl .f32 b10)), (Blk.mk Bool.true (Body.fl .f32 b11)), (Blk.mk Bool.true (Body.cells [(At.sl 9 0 q0g 1), (At.sl 10 0 q0f 1), (At.sl 11 0 q0h 1)]))]))
theorem z90 (an : Nat) (b0 : List Nat) (b1 : List Nat) (b2 : List Nat) (q06 : Nat) (q08 : Nat) (q09 : Nat) (q0n : Nat) (q0l : Nat) (q0m : Nat) (b5 : List Nat) (b6 : List Nat) (b7 : List Nat) (q0i : Nat) (q0j : Nat) (q0k : Nat) (b10 : List Nat) (b11 : List Nat) (q0g : Nat) (q0f : Nat) (q0h : Nat) : ∀ x : Option ((Int × Int × Bool × (List Nat))), x.isSome = true → (z1w an b0 b1 b2 q06 q08 q09 q0n q0l q0m b5 b6 b7 q0i q0j q0k b10 b11 q0g q0f q0h) x = some (pick (z8d an b0 b1 b2 q06 q08 q09 q0n q0l q0m b5 b6 b7 q0i q0j q0k b10 b11 q0g q0f q0h x))
  | none, h => by cases h
  | some r, _ => rfl
theorem z8h (an : Nat) (k : Int) (i : Int) (b0 : List Nat) (b1 : List Nat) (b2 : List Nat) (q06 : Nat) (q08 : Nat) (q09 : Nat) (q0n : Nat) (q0l : Nat) (q0m : Nat) (b5 : List Nat) (b6 : List Nat) (b7 : List Nat) (q0i : Nat) (q0j : Nat) (q0k : Nat) (b9 : List Nat) (b10 : List Nat) (b11 : List Nat) (q0g : Nat) (q0f : Nat) (q0h : Nat) (K : Ex → St → Option (Ex × St)) : evC (R := Ex × St) Γ22 (evFn Γ22 8 8) 57 13 fi57.nt fi57.live fi57.nl 8 (findL 2 (loopsIn fi57.code)) (St.mk [(0, (AV.v (TV.one (At.sl 9 0 an 1)))), (1, (AV.v (TV.one (At.int .i64 k)))), (5, (AV.v (TV.one (At.int .i64 i))))] [(Blk.mk Bool.false (Body.fl .f32 b0)), (Blk.mk Bool.false (Body.fl .f32 b1)), (Blk.mk Bool.false (Body.fl .f32 b2)), (Blk.mk Bool.true (Body.cells [(At.vw 0 0 q06 1), (At.vw 1 0 q08 1), (At.vw 2 0 q09 1)])), (Blk.mk Bool.true (Body.cells [(At.sl 5 0 q0n 1), (At.sl 6 0 q0l 1), (At.sl 7 0 q0m 1)])), (Blk.mk Bool.true (Body.fl .f32 b5)), (Blk.mk Bool.true (Body.fl .f32 b6)), (Blk.mk Bool.true (Body.fl .f32 b7)), (Blk.mk Bool.true (Body.cells [(At.sl 9 0 q0i 1), (At.sl 10 0 q0j 1), (At.sl 11 0 q0k 1)])), (Blk.mk Bool.true (Body.fl .f32 b9)), (Blk.mk Bool.true (Body.fl .f32 b10)), (Blk.mk Bool.true (Body.fl .f32 b11)), (Blk.mk Bool.true (Body.cells [(At.sl 9 0 q0g 1), (At.sl 10 0 q0f 1), (At.sl 11 0 q0h 1)]))]) K = z0r an k i b9 (fun k' i' b9' => K .normal (St.mk [(0, (AV.v (TV.one (At.sl 9 0 an 1)))), (1, (AV.v (TV.one (At.int .i64 k')))), (5, (AV.v (TV.one (At.int .i64 i'))))] [(Blk.mk Bool.false (Body.fl .f32 b0)), (Blk.mk Bool.false (Body.fl .f32 b1)), (Blk.mk Bool.false (Body.fl .f32 b2)), (Blk.mk Bool.true (Body.cells [(At.vw 0 0 q06 1), (At.vw 1 0 q08 1), (At.vw 2 0 q09 1)])), (Blk.mk Bool.true (Body.cells [(At.sl 5 0 q0n 1), (At.sl 6 0 q0l 1), (At.sl 7 0 q0m 1)])), (Blk.mk Bool.true (Body.fl .f32 b5)), (Blk.mk Bool.true (Body.fl .f32 b6)), (Blk.mk Bool.true (Body.fl .f32 b7)), (Blk.mk Bool.true (Body.cells [(At.sl 9 0 q0i 1), (At.sl 10 0 q0j 1), (At.sl 11 0 q0k 1)])), (Blk.mk Bool.true (Body.fl .f32 b9')), (Blk.mk Bool.true (Body.fl .f32 b10)), (Blk.mk Bool.true (Body.fl .f32 b11)), (Blk.mk Bool.true (Body.cells [(At.sl 9 0 q0g 1), (At.sl 10 0 q0f 1), (At.sl 11 0 q0h 1)]))])) (fun c0_ c1_ c2_ c3_ => K (Ex.exit 0) (St.mk [(0, (AV.v (TV.one (At.sl 9 0 an 1)))), (1, (AV.v (TV.one (At.int .i64 c0_)))), (5, (AV.v (TV.one (At.int .i64 c1_)))), (9, (AV.v (TV.one (At.bool c2_))))] [(Blk.mk Bool.false (Body.fl .f32 b0)), (Blk.mk Bool.false (Body.fl .f32 b1)), (Blk.mk Bool.false (Body.fl .f32 b2)), (Blk.mk Bool.true (Body.cells [(At.vw 0 0 q06 1), (At.vw 1 0 q08 1), (At.vw 2 0 q09 1)])), (Blk.mk Bool.true (Body.cells [(At.sl 5 0 q0n 1), (At.sl 6 0 q0l 1), (At.sl 7 0 q0m 1)])), (Blk.mk Bool.true (Body.fl .f32 b5)), (Blk.mk Bool.true (Body.fl .f32 b6)), (Blk.mk Bool.true (Body.fl .f32 b7)), (Blk.mk Bool.true (Body.cells [(At.sl 9 0 q0i 1), (At.sl 10 0 q0j 1), (At.sl 11 0 q0k 1)])), (Blk.mk Bool.true (Body.fl .f32 c3_)), (Blk.mk Bool.true (Body.fl .f32 b10)), (Blk.mk Bool.true (Body.fl .f32 b11)), (Blk.mk Bool.true (Body.cells [(At.sl 9 0 q0g 1), (At.sl 10 0 q0f 1), (At.sl 11 0 q0h 1)]))])) := by kernel_rfl
theorem z8q (an : Nat) (b0 : List Nat) (b1 : List Nat) (b2 : List Nat) (q06 : Nat) (q08 : Nat) (q09 : Nat) (q0n : Nat) (q0l : Nat) (q0m : Nat) (b5 : List Nat) (b6 : List Nat) (b7 : List Nat) (q0i : Nat) (q0j : Nat) (q0k : Nat) (b10 : List Nat) (b11 : List Nat) (q0g : Nat) (q0f : Nat) (q0h : Nat) : ∀ (n : Nat) (k : Int) (i : Int) (b9 : List Nat), iter 57 2 13 (evC (R := Ex × St) Γ22 (evFn Γ22 8 8) 57 13 fi57.nt fi57.live fi57.nl 8 (findL 2 (loopsIn fi57.code))) n (St.mk [(0, (AV.v (TV.one (At.sl 9 0 an 1)))), (1, (AV.v (TV.one (At.int .i64 k)))), (5, (AV.v (TV.one (At.int .i64 i))))] [(Blk.mk Bool.false (Body.fl .f32 b0)), (Blk.mk Bool.false (Body.fl .f32 b1)), (Blk.mk Bool.false (Body.fl .f32 b2)), (Blk.mk Bool.true (Body.cells [(At.vw 0 0 q06 1), (At.vw 1 0 q08 1), (At.vw 2 0 q09 1)])), (Blk.mk Bool.true (Body.cells [(At.sl 5 0 q0n 1), (At.sl 6 0 q0l 1), (At.sl 7 0 q0m 1)])), (Blk.mk Bool.true (Body.fl .f32 b5)), (Blk.mk Bool.true (Body.fl .f32 b6)), (Blk.mk Bool.true (Body.fl .f32 b7)), (Blk.mk Bool.true (Body.cells [(At.sl 9 0 q0i 1), (At.sl 10 0 q0j 1), (At.sl 11 0 q0k 1)])), (Blk.mk Bool.true (Body.fl .f32 b9)), (Blk.mk Bool.true (Body.fl .f32 b10)), (Blk.mk Bool.true (Body.fl .f32 b11)), (Blk.mk Bool.true (Body.cells [(At.sl 9 0 q0g 1), (At.sl 10 0 q0f 1), (At.sl 11 0 q0h 1)]))]) (fun e st => some (e, st)) = (z1w an b0 b1 b2 q06 q08 q09 q0n q0l q0m b5 b6 b7 q0i q0j q0k b10 b11 q0g q0f q0h) (z07 an n k i b9) := by
  intro n
  induction n with
  | zero => intros; rfl
  | succ n ih =>
    intro k i b9
    refine Eq.trans (iter_succ ..) (Eq.trans (z8h an k i b0 b1 b2 q06 q08 q09 q0n q0l q0m b5 b6 b7 q0i q0j q0k b9 b10 b11 q0g q0f q0h (nextK 57 2 13 (evC (R := Ex × St) Γ22 (evFn Γ22 8 8) 57 13 fi57.nt fi57.live fi57.nl 8 (findL 2 (loopsIn fi57.code))) n (fun e st => some (e, st)))) (Eq.trans ?_ (z6v an k i b9 (z1w an b0 b1 b2 q06 q08 q09 q0n q0l q0m b5 b6 b7 q0i q0j q0k b10 b11 q0g q0f q0h) rfl (fun k' i' b9' => z07 an n k' i' b9') (fun c0_ c1_ c2_ c3_ => some (c0_, c1_, c2_, c3_)))))
    exact congrArg (fun kn_ => z0r an k i b9 kn_ (fun c0_ c1_ c2_ c3_ => (z1w an b0 b1 b2 q06 q08 q09 q0n q0l q0m b5 b6 b7 q0i q0j q0k b10 b11 q0g q0f q0h) (some (c0_, c1_, c2_, c3_)))) (funext fun k' => funext fun i' => funext fun b9' => ih k' i' b9')
theorem z7b : LoopOne Try.prog fnTab 57 2 z4f := lp_of (Γ := Γ22) tyTab_ok (FnL.ok fnTab_ok _ _) (LpL.ok lt22_ok) (SumL.ok tb22_ok fnTab_ok _) mixed (fi := fi57) (by kernel_rfl) (by kernel_rfl) (by
  intro lo st out hp
  obtain ⟨hs, e1, e2, e3⟩ := lpT_inv hp
  clear hp
  obtain rfl : st = (St.mk [(0, (AV.v (TV.one (At.sl 9 0 (hvN (hGet hs 0)) 1)))), (1, (AV.v (TV.one (At.int .i64 (hvI (hGet hs 1)))))), (5, (AV.v (TV.one (At.int .i64 (hvI (hGet hs 2))))))] [(Blk.mk Bool.false (Body.fl .f32 (hvLn (hGet hs 3)))), (Blk.mk Bool.false (Body.fl .f32 (hvLn (hGet hs 4)))), (Blk.mk Bool.false (Body.fl .f32 (hvLn (hGet hs 5)))), (Blk.mk Bool.true (Body.cells [(At.vw 0 0 (hvN (hGet hs 6)) 1), (At.vw 1 0 (hvN (hGet hs 7)) 1), (At.vw 2 0 (hvN (hGet hs 8)) 1)])), (Blk.mk Bool.true (Body.cells [(At.sl 5 0 (hvN (hGet hs 9)) 1), (At.sl 6 0 (hvN (hGet hs 10)) 1), (At.sl 7 0 (hvN (hGet hs 11)) 1)])), (Blk.mk Bool.true (Body.fl .f32 (hvLn (hGet hs 12)))), (Blk.mk Bool.true (Body.fl .f32 (hvLn (hGet hs 13)))), (Blk.mk Bool.true (Body.fl .f32 (hvLn (hGet hs 14)))), (Blk.mk Bool.true (Body.cells [(At.sl 9 0 (hvN (hGet hs 15)) 1), (At.sl 10 0 (hvN (hGet hs 16)) 1), (At.sl 11 0 (hvN (hGet hs 17)) 1)])), (Blk.mk Bool.true (Body.fl .f32 (hvLn (hGet hs 18)))), (Blk.mk Bool.true (Body.fl .f32 (hvLn (hGet hs 19)))), (Blk.mk Bool.true (Body.fl .f32 (hvLn (hGet hs 20)))), (Blk.mk Bool.true (Body.cells [(At.sl 9 0 (hvN (hGet hs 21)) 1), (At.sl 10 0 (hvN (hGet hs 22)) 1), (At.sl 11 0 (hvN (hGet hs 23)) 1)]))]) := e2.trans (by kernel_rfl)
  clear e2
  subst e1
  unfold z3q at e3
  injection e3 with h1 h2
  subst h2
  exact ⟨8, 8, big, Eq.trans (z8q (hvN (hGet hs 0)) (hvLn (hGet hs 3)) (hvLn (hGet hs 4)) (hvLn (hGet hs 5)) (hvN (hGet hs 6)) (hvN (hGet hs 7)) (hvN (hGet hs 8)) (hvN (hGet hs 9)) (hvN (hGet hs 10)) (hvN (hGet hs 11)) (hvLn (hGet hs 12)) (hvLn (hGet hs 13)) (hvLn (hGet hs 14)) (hvN (hGet hs 15)) (hvN (hGet hs 16)) (hvN (hGet hs 17)) (hvLn (hGet hs 19)) (hvLn (hGet hs 20)) (hvN (hGet hs 21)) (hvN (hGet hs 22)) (hvN (hGet hs 23)) big (hvI (hGet hs 1)) (hvI (hGet hs 2)) (hvLn (hGet hs 18))) (z90 (hvN (hGet hs 0)) (hvLn (hGet hs 3)) (hvLn (hGet hs 4)) (hvLn (hGet hs 5)) (hvN (hGet hs 6)) (hvN (hGet hs 7)) (hvN (hGet hs 8)) (hvN (hGet hs 9)) (hvN (hGet hs 10)) (hvN (hGet hs 11)) (hvLn (hGet hs 12)) (hvLn (hGet hs 13)) (hvLn (hGet hs 14)) (hvN (hGet hs 15)) (hvN (hGet hs 16)) (hvN (hGet hs 17)) (hvLn (hGet hs 19)) (hvLn (hGet hs 20)) (hvN (hGet hs 21)) (hvN (hGet hs 22)) (hvN (hGet hs 23)) (z07 (hvN (hGet hs 0)) big (hvI (hGet hs 1)) (hvI (hGet hs 2)) (hvLn (hGet hs 18))) h1)⟩)
noncomputable def tb23 : List (Nat × (List PT → Option (Bool × AV × List Blk))) := tb22
noncomputable def lt23 : List ((Nat × Nat) × (Nat → St → Option (Bool × LO))) := ((57, 2), z4f) :: lt22
noncomputable def Γ23 : Ctx := ⟨tyTab, fnTab, tblSum tb23, tblLp lt23⟩
theorem tb23_ok : SumL Try.prog tb23 := tb22_ok
theorem lt23_ok : LpL Try.prog fnTab lt23 := LpL.cons z7b (lt22_ok)
noncomputable def tb24 : List (Nat × (List PT → Option (Bool × AV × List Blk))) := tb23
noncomputable def lt24 : List ((Nat × Nat) × (Nat → St → Option (Bool × LO))) := lt23
noncomputable def Γ24 : Ctx := ⟨tyTab, fnTab, tblSum tb24, tblLp lt24⟩
theorem tb24_ok : SumL Try.prog tb24 := tb23_ok
theorem lt24_ok : LpL Try.prog fnTab lt24 := lt23_ok
noncomputable def z3m (an : Nat) (k : Int) (i : Int) (b0 : List Nat) (b1 : List Nat) (b2 : List Nat) (q06 : Nat) (q08 : Nat) (q09 : Nat) (q0n : Nat) (q0l : Nat) (q0m : Nat) (b5 : List Nat) (b6 : List Nat) (b7 : List Nat) (q0i : Nat) (q0j : Nat) (q0k : Nat) (b9 : List Nat) (b10 : List Nat) (b11 : List Nat) (q0g : Nat) (q0f : Nat) (q0h : Nat) : Bool × LO := ((laws_FnExactAddKnot__markFloat32S_l2_5_p an k i b10), (LO.one (Ex.exit 0) (St.mk [(0, (AV.v (TV.one (At.sl 10 0 an 1)))), (1, (AV.v (TV.one (At.int .i64 (laws_FnExactAddKnot__markFloat32S_l2_5_a0_0 an k i b10))))), (5, (AV.v (TV.one (At.int .i64 (laws_FnExactAddKnot__markFloat32S_l2_5_a0_1 an k i b10))))), (9, (AV.v (TV.one (At.bool (laws_FnExactAddKnot__markFloat32S_l2_5_a0_2 an k i b10)))))] [(Blk.mk Bool.false (Body.fl .f32 b0)), (Blk.mk Bool.false (Body.fl .f32 b1)), (Blk.mk Bool.false (Body.fl .f32 b2)), (Blk.mk Bool.true (Body.cells [(At.vw 0 0 q06 1), (At.vw 1 0 q08 1), (At.vw 2 0 q09 1)])), (Blk.mk Bool.true (Body.cells [(At.sl 5 0 q0n 1), (At.sl 6 0 q0l 1), (At.sl 7 0 q0m 1)])), (Blk.mk Bool.true (Body.fl .f32 b5)), (Blk.mk Bool.true (Body.fl .f32 b6)), (Blk.mk Bool.true (Body.fl .f32 b7)), (Blk.mk Bool.true (Body.cells [(At.sl 9 0 q0i 1), (At.sl 10 0 q0j 1), (At.sl 11 0 q0k 1)])), (Blk.mk Bool.true (Body.fl .f32 b9)), (Blk.mk Bool.true (Body.fl .f32 (laws_FnExactAddKnot__markFloat32S_l2_5_a0_3 an k i b10))), (Blk.mk Bool.true (Body.fl .f32 b11)), (Blk.mk Bool.true (Body.cells [(At.sl 9 0 q0g 1), (At.sl 10 0 q0f 1), (At.sl 11 0 q0h 1)]))])))
noncomputable def z4c : Nat → St → Option (Bool × LO) := lpT 13 (pSt [(pTm 0 (pV (pOne (pSl 10 (liN 0) 1)))), (pTm 1 (pV (pOne (pInt .i64)))), (pTm 5 (pV (pOne (pInt .i64))))] [(pBlk Bool.false (pFl .f32)), (pBlk Bool.false (pFl .f32)), (pBlk Bool.false (pFl .f32)), (pBlk Bool.true (pCells [(pVw 0 (liN 0) 1), (pVw 1 (liN 0) 1), (pVw 2 (liN 0) 1)])), (pBlk Bool.true (pCells [(pSl 5 (liN 0) 1), (pSl 6 (liN 0) 1), (pSl 7 (liN 0) 1)])), (pBlk Bool.true (pFl .f32)), (pBlk Bool.true (pFl .f32)), (pBlk Bool.true (pFl .f32)), (pBlk Bool.true (pCells [(pSl 9 (liN 0) 1), (pSl 10 (liN 0) 1), (pSl 11 (liN 0) 1)])), (pBlk Bool.true (pFl .f32)), (pBlk Bool.true (pFl .f32)), (pBlk Bool.true (pFl .f32)), (pBlk Bool.true (pCells [(pSl 9 (liN 0) 1), (pSl 10 (liN 0) 1), (pSl 11 (liN 0) 1)]))]) (fun hs => z3m (hvN (hGet hs 0)) (hvI (hGet hs 1)) (hvI (hGet hs 2)) (hvLn (hGet hs 3)) (hvLn (hGet hs 4)) (hvLn (hGet hs 5)) (hvN (hGet hs 6)) (hvN (hGet hs 7)) (hvN (hGet hs 8)) (hvN (hGet hs 9)) (hvN (hGet hs 10)) (hvN (hGet hs 11)) (hvLn (hGet hs 12)) (hvLn (hGet hs 13)) (hvLn (hGet hs 14)) (hvN (hGet hs 15)) (hvN (hGet hs 16)) (hvN (hGet hs 17)) (hvLn (hGet hs 18)) (hvLn (hGet hs 19)) (hvLn (hGet hs 20)) (hvN (hGet hs 21)) (hvN (hGet hs 22)) (hvN (hGet hs 23)))
def z1x (an : Nat) (b0 : List Nat) (b1 : List Nat) (b2 : List Nat) (q06 : Nat) (q08 : Nat) (q09 : Nat) (q0n : Nat) (q0l : Nat) (q0m : Nat) (b5 : List Nat) (b6 : List Nat) (b7 : List Nat) (q0i : Nat) (q0j : Nat) (q0k : Nat) (b9 : List Nat) (b11 : List Nat) (q0g : Nat) (q0f : Nat) (q0h : Nat) : Option ((Int × Int × Bool × (List Nat))) → Option (Ex × St)
  | none => none
  | some r => some ((Ex.exit 0), (St.mk [(0, (AV.v (TV.one (At.sl 10 0 an 1)))), (1, (AV.v (TV.one (At.int .i64 r.1)))), (5, (AV.v (TV.one (At.int .i64 r.2.1)))), (9, (AV.v (TV.one (At.bool r.2.2.1))))] [(Blk.mk Bool.false (Body.fl .f32 b0)), (Blk.mk Bool.false (Body.fl .f32 b1)), (Blk.mk Bool.false (Body.fl .f32 b2)), (Blk.mk Bool.true (Body.cells [(At.vw 0 0 q06 1), (At.vw 1 0 q08 1), (At.vw 2 0 q09 1)])), (Blk.mk Bool.true (Body.cells [(At.sl 5 0 q0n 1), (At.sl 6 0 q0l 1), (At.sl 7 0 q0m 1)])), (Blk.mk Bool.true (Body.fl .f32 b5)), (Blk.mk Bool.true (Body.fl .f32 b6)), (Blk.mk Bool.true (Body.fl .f32 b7)), (Blk.mk Bool.true (Body.cells [(At.sl 9 0 q0i 1), (At.sl 10 0 q0j 1), (At.sl 11 0 q0k 1)])), (Blk.mk Bool.true (Body.fl .f32 b9)), (Blk.mk Bool.true (Body.fl .f32 r.2.2.2)), (Blk.mk Bool.true (Body.fl .f32 b11)), (Blk.mk Bool.true (Body.cells [(At.sl 9 0 q0g 1), (At.sl 10 0 q0f 1), (At.sl 11 0 q0h 1)]))]))
def z84 (an : Nat) (b0 : List Nat) (b1 : List Nat) (b2 : List Nat) (q06 : Nat) (q08 : Nat) (q09 : Nat) (q0n : Nat) (q0l : Nat) (q0m : Nat) (b5 : List Nat) (b6 : List Nat) (b7 : List Nat) (q0i : Nat) (q0j : Nat) (q0k : Nat) (b9 : List Nat) (b11 : List Nat) (q0g : Nat) (q0f : Nat) (q0h : Nat) (x : Option ((Int × Int × Bool × (List Nat)))) : LO := (LO.one (Ex.exit 0) (St.mk [(0, (AV.v (TV.one (At.sl 10 0 an 1)))), (1, (AV.v (TV.one (At.int .i64 (x.getD default).1)))), (5, (AV.v (TV.one (At.int .i64 (x.getD default).2.1)))), (9, (AV.v (TV.one (At.bool (x.getD default).2.2.1))))] [(Blk.mk Bool.false (Body.fl .f32 b0)), (Blk.mk Bool.false (Body.fl .f32 b1)), (Blk.mk Bool.false (Body.fl .f32 b2)), (Blk.mk Bool.true (Body.cells [(At.vw 0 0 q06 1), (At.vw 1 0 q08 1), (At.vw 2 0 q09 1)])), (Blk.mk Bool.true (Body.cells [(At.sl 5 0 q0n 1), (At.sl 6 0 q0l 1), (At.sl 7 0 q0m 1)])), (Blk.mk Bool.true (Body.fl .f32 b5)), (Blk.mk Bool.true (Body.fl .f32 b6)), (Blk.mk Bool.true (Body.fl .f32 b7)), (Blk.mk Bool.true (Body.cells [(At.sl 9 0 q0i 1), (At.sl 10 0 q0j 1), (At.sl 11 0 q0k 1)])), (Blk.mk Bool.true (Body.fl .f32 b9)), (Blk.mk Bool.true (Body.fl .f32 (x.getD default).2.2.2)), (Blk.mk Bool.true (Body.fl .f32 b11)), (Blk.mk Bool.true (Body.cells [(At.sl 9 0 q0g 1), (At.sl 10 0 q0f 1), (At.sl 11 0 q0h 1)]))]))
theorem z8z (an : Nat) (b0 : List Nat) (b1 : List Nat) (b2 : List Nat) (q06 : Nat) (q08 : Nat) (q09 : Nat) (q0n : Nat) (q0l : Nat) (q0m : Nat) (b5 : List Nat) (b6 : List Nat) (b7 : List Nat) (q0i : Nat) (q0j : Nat) (q0k : Nat) (b9 : List Nat) (b11 : List Nat) (q0g : Nat) (q0f : Nat) (q0h : Nat) : ∀ x : Option ((Int × Int × Bool × (List Nat))), x.isSome = true → (z1x an b0 b1 b2 q06 q08 q09 q0n q0l q0m b5 b6 b7 q0i q0j q0k b9 b11 q0g q0f q0h) x = some (pick (z84 an b0 b1 b2 q06 q08 q09 q0n q0l q0m b5 b6 b7 q0i q0j q0k b9 b11 q0g q0f q0h x))
  | none, h => by cases h
  | some r, _ => rfl
theorem z8o (an : Nat) (k : Int) (i : Int) (b0 : List Nat) (b1 : List Nat) (b2 : List Nat) (q06 : Nat) (q08 : Nat) (q09 : Nat) (q0n : Nat) (q0l : Nat) (q0m : Nat) (b5 : List Nat) (b6 : List Nat) (b7 : List Nat) (q0i : Nat) (q0j : Nat) (q0k : Nat) (b9 : List Nat) (b10 : List Nat) (b11 : List Nat) (q0g : Nat) (q0f : Nat) (q0h : Nat) (K : Ex → St → Option (Ex × St)) : evC (R := Ex × St) Γ24 (evFn Γ24 8 8) 57 13 fi57.nt fi57.live fi57.nl 8 (findL 2 (loopsIn fi57.code)) (St.mk [(0, (AV.v (TV.one (At.sl 10 0 an 1)))), (1, (AV.v (TV.one (At.int .i64 k)))), (5, (AV.v (TV.one (At.int .i64 i))))] [(Blk.mk Bool.false (Body.fl .f32 b0)), (Blk.mk Bool.false (Body.fl .f32 b1)), (Blk.mk Bool.false (Body.fl .f32 b2)), (Blk.mk Bool.true (Body.cells [(At.vw 0 0 q06 1), (At.vw 1 0 q08 1), (At.vw 2 0 q09 1)])), (Blk.mk Bool.true (Body.cells [(At.sl 5 0 q0n 1), (At.sl 6 0 q0l 1), (At.sl 7 0 q0m 1)])), (Blk.mk Bool.true (Body.fl .f32 b5)), (Blk.mk Bool.true (Body.fl .f32 b6)), (Blk.mk Bool.true (Body.fl .f32 b7)), (Blk.mk Bool.true (Body.cells [(At.sl 9 0 q0i 1), (At.sl 10 0 q0j 1), (At.sl 11 0 q0k 1)])), (Blk.mk Bool.true (Body.fl .f32 b9)), (Blk.mk Bool.true (Body.fl .f32 b10)), (Blk.mk Bool.true (Body.fl .f32 b11)), (Blk.mk Bool.true (Body.cells [(At.sl 9 0 q0g 1), (At.sl 10 0 q0f 1), (At.sl 11 0 q0h 1)]))]) K = z0p an k i b10 (fun k' i' b10' => K .normal (St.mk [(0, (AV.v (TV.one (At.sl 10 0 an 1)))), (1, (AV.v (TV.one (At.int .i64 k')))), (5, (AV.v (TV.one (At.int .i64 i'))))] [(Blk.mk Bool.false (Body.fl .f32 b0)), (Blk.mk Bool.false (Body.fl .f32 b1)), (Blk.mk Bool.false (Body.fl .f32 b2)), (Blk.mk Bool.true (Body.cells [(At.vw 0 0 q06 1), (At.vw 1 0 q08 1), (At.vw 2 0 q09 1)])), (Blk.mk Bool.true (Body.cells [(At.sl 5 0 q0n 1), (At.sl 6 0 q0l 1), (At.sl 7 0 q0m 1)])), (Blk.mk Bool.true (Body.fl .f32 b5)), (Blk.mk Bool.true (Body.fl .f32 b6)), (Blk.mk Bool.true (Body.fl .f32 b7)), (Blk.mk Bool.true (Body.cells [(At.sl 9 0 q0i 1), (At.sl 10 0 q0j 1), (At.sl 11 0 q0k 1)])), (Blk.mk Bool.true (Body.fl .f32 b9)), (Blk.mk Bool.true (Body.fl .f32 b10')), (Blk.mk Bool.true (Body.fl .f32 b11)), (Blk.mk Bool.true (Body.cells [(At.sl 9 0 q0g 1), (At.sl 10 0 q0f 1), (At.sl 11 0 q0h 1)]))])) (fun c0_ c1_ c2_ c3_ => K (Ex.exit 0) (St.mk [(0, (AV.v (TV.one (At.sl 10 0 an 1)))), (1, (AV.v (TV.one (At.int .i64 c0_)))), (5, (AV.v (TV.one (At.int .i64 c1_)))), (9, (AV.v (TV.one (At.bool c2_))))] [(Blk.mk Bool.false (Body.fl .f32 b0)), (Blk.mk Bool.false (Body.fl .f32 b1)), (Blk.mk Bool.false (Body.fl .f32 b2)), (Blk.mk Bool.true (Body.cells [(At.vw 0 0 q06 1), (At.vw 1 0 q08 1), (At.vw 2 0 q09 1)])), (Blk.mk Bool.true (Body.cells [(At.sl 5 0 q0n 1), (At.sl 6 0 q0l 1), (At.sl 7 0 q0m 1)])), (Blk.mk Bool.true (Body.fl .f32 b5)), (Blk.mk Bool.true (Body.fl .f32 b6)), (Blk.mk Bool.true (Body.fl .f32 b7)), (Blk.mk Bool.true (Body.cells [(At.sl 9 0 q0i 1), (At.sl 10 0 q0j 1), (At.sl 11 0 q0k 1)])), (Blk.mk Bool.true (Body.fl .f32 b9)), (Blk.mk Bool.true (Body.fl .f32 c3_)), (Blk.mk Bool.true (Body.fl .f32 b11)), (Blk.mk Bool.true (Body.cells [(At.sl 9 0 q0g 1), (At.sl 10 0 q0f 1), (At.sl 11 0 q0h 1)]))])) := by kernel_rfl
theorem z8v (an : Nat) (b0 : List Nat) (b1 : List Nat) (b2 : List Nat) (q06 : Nat) (q08 : Nat) (q09 : Nat) (q0n : Nat) (q0l : Nat) (q0m : Nat) (b5 : List Nat) (b6 : List Nat) (b7 : List Nat) (q0i : Nat) (q0j : Nat) (q0k : Nat) (b9 : List Nat) (b11 : List Nat) (q0g : Nat) (q0f : Nat) (q0h : Nat) : ∀ (n : Nat) (k : Int) (i : Int) (b10 : List Nat), iter 57 2 13 (evC (R := Ex × St) Γ24 (evFn Γ24 8 8) 57 13 fi57.nt fi57.live fi57.nl 8 (findL 2 (loopsIn fi57.code))) n (St.mk [(0, (AV.v (TV.one (At.sl 10 0 an 1)))), (1, (AV.v (TV.one (At.int .i64 k)))), (5, (AV.v (TV.one (At.int .i64 i))))] [(Blk.mk Bool.false (Body.fl .f32 b0)), (Blk.mk Bool.false (Body.fl .f32 b1)), (Blk.mk Bool.false (Body.fl .f32 b2)), (Blk.mk Bool.true (Body.cells [(At.vw 0 0 q06 1), (At.vw 1 0 q08 1), (At.vw 2 0 q09 1)])), (Blk.mk Bool.true (Body.cells [(At.sl 5 0 q0n 1), (At.sl 6 0 q0l 1), (At.sl 7 0 q0m 1)])), (Blk.mk Bool.true (Body.fl .f32 b5)), (Blk.mk Bool.true (Body.fl .f32 b6)), (Blk.mk Bool.true (Body.fl .f32 b7)), (Blk.mk Bool.true (Body.cells [(At.sl 9 0 q0i 1), (At.sl 10 0 q0j 1), (At.sl 11 0 q0k 1)])), (Blk.mk Bool.true (Body.fl .f32 b9)), (Blk.mk Bool.true (Body.fl .f32 b10)), (Blk.mk Bool.true (Body.fl .f32 b11)), (Blk.mk Bool.true (Body.cells [(At.sl 9 0 q0g 1), (At.sl 10 0 q0f 1), (At.sl 11 0 q0h 1)]))]) (fun e st => some (e, st)) = (z1x an b0 b1 b2 q06 q08 q09 q0n q0l q0m b5 b6 b7 q0i q0j q0k b9 b11 q0g q0f q0h) (z08 an n k i b10) := by
  intro n
  induction n with
  | zero => intros; rfl
  | succ n ih =>
    intro k i b10
    refine Eq.trans (iter_succ ..) (Eq.trans (z8o an k i b0 b1 b2 q06 q08 q09 q0n q0l q0m b5 b6 b7 q0i q0j q0k b9 b10 b11 q0g q0f q0h (nextK 57 2 13 (evC (R := Ex × St) Γ24 (evFn Γ24 8 8) 57 13 fi57.nt fi57.live fi57.nl 8 (findL 2 (loopsIn fi57.code))) n (fun e st => some (e, st)))) (Eq.trans ?_ (z71 an k i b10 (z1x an b0 b1 b2 q06 q08 q09 q0n q0l q0m b5 b6 b7 q0i q0j q0k b9 b11 q0g q0f q0h) rfl (fun k' i' b10' => z08 an n k' i' b10') (fun c0_ c1_ c2_ c3_ => some (c0_, c1_, c2_, c3_)))))
    exact congrArg (fun kn_ => z0p an k i b10 kn_ (fun c0_ c1_ c2_ c3_ => (z1x an b0 b1 b2 q06 q08 q09 q0n q0l q0m b5 b6 b7 q0i q0j q0k b9 b11 q0g q0f q0h) (some (c0_, c1_, c2_, c3_)))) (funext fun k' => funext fun i' => funext fun b10' => ih k' i' b10')
theorem z7d : LoopOne Try.prog fnTab 57 2 z4c := lp_of (Γ := Γ24) tyTab_ok (FnL.ok fnTab_ok _ _) (LpL.ok lt24_ok) (SumL.ok tb24_ok fnTab_ok _) mixed (fi := fi57) (by kernel_rfl) (by kernel_rfl) (by
  intro lo st out hp
  obtain ⟨hs, e1, e2, e3⟩ := lpT_inv hp
  clear hp
  obtain rfl : st = (St.mk [(0, (AV.v (TV.one (At.sl 10 0 (hvN (hGet hs 0)) 1)))), (1, (AV.v (TV.one (At.int .i64 (hvI (hGet hs 1)))))), (5, (AV.v (TV.one (At.int .i64 (hvI (hGet hs 2))))))] [(Blk.mk Bool.false (Body.fl .f32 (hvLn (hGet hs 3)))), (Blk.mk Bool.false (Body.fl .f32 (hvLn (hGet hs 4)))), (Blk.mk Bool.false (Body.fl .f32 (hvLn (hGet hs 5)))), (Blk.mk Bool.true (Body.cells [(At.vw 0 0 (hvN (hGet hs 6)) 1), (At.vw 1 0 (hvN (hGet hs 7)) 1), (At.vw 2 0 (hvN (hGet hs 8)) 1)])), (Blk.mk Bool.true (Body.cells [(At.sl 5 0 (hvN (hGet hs 9)) 1), (At.sl 6 0 (hvN (hGet hs 10)) 1), (At.sl 7 0 (hvN (hGet hs 11)) 1)])), (Blk.mk Bool.true (Body.fl .f32 (hvLn (hGet hs 12)))), (Blk.mk Bool.true (Body.fl .f32 (hvLn (hGet hs 13)))), (Blk.mk Bool.true (Body.fl .f32 (hvLn (hGet hs 14)))), (Blk.mk Bool.true (Body.cells [(At.sl 9 0 (hvN (hGet hs 15)) 1), (At.sl 10 0 (hvN (hGet hs 16)) 1), (At.sl 11 0 (hvN (hGet hs 17)) 1)])), (Blk.mk Bool.true (Body.fl .f32 (hvLn (hGet hs 18)))), (Blk.mk Bool.true (Body.fl .f32 (hvLn (hGet hs 19)))), (Blk.mk Bool.true (Body.fl .f32 (hvLn (hGet hs 20)))), (Blk.mk Bool.true (Body.cells [(At.sl 9 0 (hvN (hGet hs 21)) 1), (At.sl 10 0 (hvN (hGet hs 22)) 1), (At.sl 11 0 (hvN (hGet hs 23)) 1)]))]) := e2.trans (by kernel_rfl)
  clear e2
  subst e1
  unfold z3m at e3
  injection e3 with h1 h2
  subst h2
  exact ⟨8, 8, big, Eq.trans (z8v (hvN (hGet hs 0)) (hvLn (hGet hs 3)) (hvLn (hGet hs 4)) (hvLn (hGet hs 5)) (hvN (hGet hs 6)) (hvN (hGet hs 7)) (hvN (hGet hs 8)) (hvN (hGet hs 9)) (hvN (hGet hs 10)) (hvN (hGet hs 11)) (hvLn (hGet hs 12)) (hvLn (hGet hs 13)) (hvLn (hGet hs 14)) (hvN (hGet hs 15)) (hvN (hGet hs 16)) (hvN (hGet hs 17)) (hvLn (hGet hs 18)) (hvLn (hGet hs 20)) (hvN (hGet hs 21)) (hvN (hGet hs 22)) (hvN (hGet hs 23)) big (hvI (hGet hs 1)) (hvI (hGet hs 2)) (hvLn (hGet hs 19))) (z8z (hvN (hGet hs 0)) (hvLn (hGet hs 3)) (hvLn (hGet hs 4)) (hvLn (hGet hs 5)) (hvN (hGet hs 6)) (hvN (hGet hs 7)) (hvN (hGet hs 8)) (hvN (hGet hs 9)) (hvN (hGet hs 10)) (hvN (hGet hs 11)) (hvLn (hGet hs 12)) (hvLn (hGet hs 13)) (hvLn (hGet hs 14)) (hvN (hGet hs 15)) (hvN (hGet hs 16)) (hvN (hGet hs 17)) (hvLn (hGet hs 18)) (hvLn (hGet hs 20)) (hvN (hGet hs 21)) (hvN (hGet hs 22)) (hvN (hGet hs 23)) (z08 (hvN (hGet hs 0)) big (hvI (hGet hs 1)) (hvI (hGet hs 2)) (hvLn (hGet hs 19))) h1)⟩)
noncomputable def tb25 : List (Nat × (List PT → Option (Bool × AV × List Blk))) := tb24
noncomputable def lt25 : List ((Nat × Nat) × (Nat → St → Option (Bool × LO))) := ((57, 2), z4c) :: lt24
noncomputable def Γ25 : Ctx := ⟨tyTab, fnTab, tblSum tb25, tblLp lt25⟩
theorem tb25_ok : SumL Try.prog tb25 := tb24_ok
theorem lt25_ok : LpL Try.prog fnTab lt25 := LpL.cons z7d (lt24_ok)
noncomputable def tb26 : List (Nat × (List PT → Option (Bool × AV × List Blk))) := tb25
noncomputable def lt26 : List ((Nat × Nat) × (Nat → St → Option (Bool × LO))) := lt25
noncomputable def Γ26 : Ctx := ⟨tyTab, fnTab, tblSum tb26, tblLp lt26⟩
theorem tb26_ok : SumL Try.prog tb26 := tb25_ok
theorem lt26_ok : LpL Try.prog fnTab lt26 := lt25_ok
noncomputable def z3t (an : Nat) (k : Int) (i : Int) (b0 : List Nat) (b1 : List Nat) (b2 : List Nat) (q06 : Nat) (q08 : Nat) (q09 : Nat) (q0n : Nat) (q0l : Nat) (q0m : Nat) (b5 : List Nat) (b6 : List Nat) (b7 : List Nat) (q0i : Nat) (q0j : Nat) (q0k : Nat) (b9 : List Nat) (b10 : List Nat) (b11 : List Nat) (q0g : Nat) (q0f : Nat) (q0h : Nat) : Bool × LO := ((laws_FnExactAddKnot__markFloat32S_l2_6_p an k i b11), (LO.one (Ex.exit 0) (St.mk [(0, (AV.v (TV.one (At.sl 11 0 an 1)))), (1, (AV.v (TV.one (At.int .i64 (laws_FnExactAddKnot__markFloat32S_l2_6_a0_0 an k i b11))))), (5, (AV.v (TV.one (At.int .i64 (laws_FnExactAddKnot__markFloat32S_l2_6_a0_1 an k i b11))))), (9, (AV.v (TV.one (At.bool (laws_FnExactAddKnot__markFloat32S_l2_6_a0_2 an k i b11)))))] [(Blk.mk Bool.false (Body.fl .f32 b0)), (Blk.mk Bool.false (Body.fl .f32 b1)), (Blk.mk Bool.false (Body.fl .f32 b2)), (Blk.mk Bool.true (Body.cells [(At.vw 0 0 q06 1), (At.vw 1 0 q08 1), (At.vw 2 0 q09 1)])), (Blk.mk Bool.true (Body.cells [(At.sl 5 0 q0n 1), (At.sl 6 0 q0l 1), (At.sl 7 0 q0m 1)])), (Blk.mk Bool.true (Body.fl .f32 b5)), (Blk.mk Bool.true (Body.fl .f32 b6)), (Blk.mk Bool.true (Body.fl .f32 b7)), (Blk.mk Bool.true (Body.cells [(At.sl 9 0 q0i 1), (At.sl 10 0 q0j 1), (At.sl 11 0 q0k 1)])), (Blk.mk Bool.true (Body.fl .f32 b9)), (Blk.mk Bool.true (Body.fl .f32 b10)), (Blk.mk Bool.true (Body.fl .f32 (laws_FnExactAddKnot__markFloat32S_l2_6_a0_3 an k i b11))), (Blk.mk Bool.true (Body.cells [(At.sl 9 0 q0g 1), (At.sl 10 0 q0f 1), (At.sl 11 0 q0h 1)]))])))
noncomputable def z45 : Nat → St → Option (Bool × LO) := lpT 13 (pSt [(pTm 0 (pV (pOne (pSl 11 (liN 0) 1)))), (pTm 1 (pV (pOne (pInt .i64)))), (pTm 5 (pV (pOne (pInt .i64))))] [(pBlk Bool.false (pFl .f32)), (pBlk Bool.false (pFl .f32)), (pBlk Bool.false (pFl .f32)), (pBlk Bool.true (pCells [(pVw 0 (liN 0) 1), (pVw 1 (liN 0) 1), (pVw 2 (liN 0) 1)])), (pBlk Bool.true (pCells [(pSl 5 (liN 0) 1), (pSl 6 (liN 0) 1), (pSl 7 (liN 0) 1)])), (pBlk Bool.true (pFl .f32)), (pBlk Bool.true (pFl .f32)), (pBlk Bool.true (pFl .f32)), (pBlk Bool.true (pCells [(pSl 9 (liN 0) 1), (pSl 10 (liN 0) 1), (pSl 11 (liN 0) 1)])), (pBlk Bool.true (pFl .f32)), (pBlk Bool.true (pFl .f32)), (pBlk Bool.true (pFl .f32)), (pBlk Bool.true (pCells [(pSl 9 (liN 0) 1), (pSl 10 (liN 0) 1), (pSl 11 (liN 0) 1)]))]) (fun hs => z3t (hvN (hGet hs 0)) (hvI (hGet hs 1)) (hvI (hGet hs 2)) (hvLn (hGet hs 3)) (hvLn (hGet hs 4)) (hvLn (hGet hs 5)) (hvN (hGet hs 6)) (hvN (hGet hs 7)) (hvN (hGet hs 8)) (hvN (hGet hs 9)) (hvN (hGet hs 10)) (hvN (hGet hs 11)) (hvLn (hGet hs 12)) (hvLn (hGet hs 13)) (hvLn (hGet hs 14)) (hvN (hGet hs 15)) (hvN (hGet hs 16)) (hvN (hGet hs 17)) (hvLn (hGet hs 18)) (hvLn (hGet hs 19)) (hvLn (hGet hs 20)) (hvN (hGet hs 21)) (hvN (hGet hs 22)) (hvN (hGet hs 23)))
def z20 (an : Nat) (b0 : List Nat) (b1 : List Nat) (b2 : List Nat) (q06 : Nat) (q08 : Nat) (q09 : Nat) (q0n : Nat) (q0l : Nat) (q0m : Nat) (b5 : List Nat) (b6 : List Nat) (b7 : List Nat) (q0i : Nat) (q0j : Nat) (q0k : Nat) (b9 : List Nat) (b10 : List Nat) (q0g : Nat) (q0f : Nat) (q0h : Nat) : Option ((Int × Int × Bool × (List Nat))) → Option (Ex × St)
  | none => none
  | some r => some ((Ex.exit 0), (St.mk [(0, (AV.v (TV.one (At.sl 11 0 an 1)))), (1, (AV.v (TV.one (At.int .i64 r.1)))), (5, (AV.v (TV.one (At.int .i64 r.2.1)))), (9, (AV.v (TV.one (At.bool r.2.2.1))))] [(Blk.mk Bool.false (Body.fl .f32 b0)), (Blk.mk Bool.false (Body.fl .f32 b1)), (Blk.mk Bool.false (Body.fl .f32 b2)), (Blk.mk Bool.true (Body.cells [(At.vw 0 0 q06 1), (At.vw 1 0 q08 1), (At.vw 2 0 q09 1)])), (Blk.mk Bool.true (Body.cells [(At.sl 5 0 q0n 1), (At.sl 6 0 q0l 1), (At.sl 7 0 q0m 1)])), (Blk.mk Bool.true (Body.fl .f32 b5)), (Blk.mk Bool.true (Body.fl .f32 b6)), (Blk.mk Bool.true (Body.fl .f32 b7)), (Blk.mk Bool.true (Body.cells [(At.sl 9 0 q0i 1), (At.sl 10 0 q0j 1), (At.sl 11 0 q0k 1)])), (Blk.mk Bool.true (Body.fl .f32 b9)), (Blk.mk Bool.true (Body.fl .f32 b10)), (Blk.mk Bool.true (Body.fl .f32 r.2.2.2)), (Blk.mk Bool.true (Body.cells [(At.sl 9 0 q0g 1), (At.sl 10 0 q0f 1), (At.sl 11 0 q0h 1)]))]))
def z8c (an : Nat) (b0 : List Nat) (b1 : List Nat) (b2 : List Nat) (q06 : Nat) (q08 : Nat) (q09 : Nat) (q0n : Nat) (q0l : Nat) (q0m : Nat) (b5 : List Nat) (b6 : List Nat) (b7 : List Nat) (q0i : Nat) (q0j : Nat) (q0k : Nat) (b9 : List Nat) (b10 : List Nat) (q0g : Nat) (q0f : Nat) (q0h : Nat) (x : Option ((Int × Int × Bool × (List Nat)))) : LO := (LO.one (Ex.exit 0) (St.mk [(0, (AV.v (TV.one (At.sl 11 0 an 1)))), (1, (AV.v (TV.one (At.int .i64 (x.getD default).1)))), (5, (AV.v (TV.one (At.int .i64 (x.getD default).2.1)))), (9, (AV.v (TV.one (At.bool (x.getD default).2.2.1))))] [(Blk.mk Bool.false (Body.fl .f32 b0)), (Blk.mk Bool.false (Body.fl .f32 b1)), (Blk.mk Bool.false (Body.fl .f32 b2)), (Blk.mk Bool.true (Body.cells [(At.vw 0 0 q06 1), (At.vw 1 0 q08 1), (At.vw 2 0 q09 1)])), (Blk.mk Bool.true (Body.cells [(At.sl 5 0 q0n 1), (At.sl 6 0 q0l 1), (At.sl 7 0 q0m 1)])), (Blk.mk Bool.true (Body.fl .f32 b5)), (Blk.mk Bool.true (Body.fl .f32 b6)), (Blk.mk Bool.true (Body.fl .f32 b7)), (Blk.mk Bool.true (Body.cells [(At.sl 9 0 q0i 1), (At.sl 10 0 q0j 1), (At.sl 11 0 q0k 1)])), (Blk.mk Bool.true (Body.fl .f32 b9)), (Blk.mk Bool.true (Body.fl .f32 b10)), (Blk.mk Bool.true (Body.fl .f32 (x.getD default).2.2.2)), (Blk.mk Bool.true (Body.cells [(At.sl 9 0 q0g 1), (At.sl 10 0 q0f 1), (At.sl 11 0 q0h 1)]))]))
theorem z8t (an : Nat) (b0 : List Nat) (b1 : List Nat) (b2 : List Nat) (q06 : Nat) (q08 : Nat) (q09 : Nat) (q0n : Nat) (q0l : Nat) (q0m : Nat) (b5 : List Nat) (b6 : List Nat) (b7 : List Nat) (q0i : Nat) (q0j : Nat) (q0k : Nat) (b9 : List Nat) (b10 : List Nat) (q0g : Nat) (q0f : Nat) (q0h : Nat) : ∀ x : Option ((Int × Int × Bool × (List Nat))), x.isSome = true → (z20 an b0 b1 b2 q06 q08 q09 q0n q0l q0m b5 b6 b7 q0i q0j q0k b9 b10 q0g q0f q0h) x = some (pick (z8c an b0 b1 b2 q06 q08 q09 q0n q0l q0m b5 b6 b7 q0i q0j q0k b9 b10 q0g q0f q0h x))
  | none, h => by cases h
  | some r, _ => rfl
theorem z8j (an : Nat) (k : Int) (i : Int) (b0 : List Nat) (b1 : List Nat) (b2 : List Nat) (q06 : Nat) (q08 : Nat) (q09 : Nat) (q0n : Nat) (q0l : Nat) (q0m : Nat) (b5 : List Nat) (b6 : List Nat) (b7 : List Nat) (q0i : Nat) (q0j : Nat) (q0k : Nat) (b9 : List Nat) (b10 : List Nat) (b11 : List Nat) (q0g : Nat) (q0f : Nat) (q0h : Nat) (K : Ex → St → Option (Ex × St)) : evC (R := Ex × St) Γ26 (evFn Γ26 8 8) 57 13 fi57.nt fi57.live fi57.nl 8 (findL 2 (loopsIn fi57.code)) (St.mk [(0, (AV.v (TV.one (At.sl 11 0 an 1)))), (1, (AV.v (TV.one (At.int .i64 k)))), (5, (AV.v (TV.one (At.int .i64 i))))] [(Blk.mk Bool.false (Body.fl .f32 b0)), (Blk.mk Bool.false (Body.fl .f32 b1)), (Blk.mk Bool.false (Body.fl .f32 b2)), (Blk.mk Bool.true (Body.cells [(At.vw 0 0 q06 1), (At.vw 1 0 q08 1), (At.vw 2 0 q09 1)])), (Blk.mk Bool.true (Body.cells [(At.sl 5 0 q0n 1), (At.sl 6 0 q0l 1), (At.sl 7 0 q0m 1)])), (Blk.mk Bool.true (Body.fl .f32 b5)), (Blk.mk Bool.true (Body.fl .f32 b6)), (Blk.mk Bool.true (Body.fl .f32 b7)), (Blk.mk Bool.true (Body.cells [(At.sl 9 0 q0i 1), (At.sl 10 0 q0j 1), (At.sl 11 0 q0k 1)])), (Blk.mk Bool.true (Body.fl .f32 b9)), (Blk.mk Bool.true (Body.fl .f32 b10)), (Blk.mk Bool.true (Body.fl .f32 b11)), (Blk.mk Bool.true (Body.cells [(At.sl 9 0 q0g 1), (At.sl 10 0 q0f 1), (At.sl 11 0 q0h 1)]))]) K = z0o an k i b11 (fun k' i' b11' => K .normal (St.mk [(0, (AV.v (TV.one (At.sl 11 0 an 1)))), (1, (AV.v (TV.one (At.int .i64 k')))), (5, (AV.v (TV.one (At.int .i64 i'))))] [(Blk.mk Bool.false (Body.fl .f32 b0)), (Blk.mk Bool.false (Body.fl .f32 b1)), (Blk.mk Bool.false (Body.fl .f32 b2)), (Blk.mk Bool.true (Body.cells [(At.vw 0 0 q06 1), (At.vw 1 0 q08 1), (At.vw 2 0 q09 1)])), (Blk.mk Bool.true (Body.cells [(At.sl 5 0 q0n 1), (At.sl 6 0 q0l 1), (At.sl 7 0 q0m 1)])), (Blk.mk Bool.true (Body.fl .f32 b5)), (Blk.mk Bool.true (Body.fl .f32 b6)), (Blk.mk Bool.true (Body.fl .f32 b7)), (Blk.mk Bool.true (Body.cells [(At.sl 9 0 q0i 1), (At.sl 10 0 q0j 1), (At.sl 11 0 q0k 1)])), (Blk.mk Bool.true (Body.fl .f32 b9)), (Blk.mk Bool.true (Body.fl .f32 b10)), (Blk.mk Bool.true (Body.fl .f32 b11')), (Blk.mk Bool.true (Body.cells [(At.sl 9 0 q0g 1), (At.sl 10 0 q0f 1), (At.sl 11 0 q0h 1)]))])) (fun c0_ c1_ c2_ c3_ => K (Ex.exit 0) (St.mk [(0, (AV.v (TV.one (At.sl 11 0 an 1)))), (1, (AV.v (TV.one (At.int .i64 c0_)))), (5, (AV.v (TV.one (At.int .i64 c1_)))), (9, (AV.v (TV.one (At.bool c2_))))] [(Blk.mk Bool.false (Body.fl .f32 b0)), (Blk.mk Bool.false (Body.fl .f32 b1)), (Blk.mk Bool.false (Body.fl .f32 b2)), (Blk.mk Bool.true (Body.cells [(At.vw 0 0 q06 1), (At.vw 1 0 q08 1), (At.vw 2 0 q09 1)])), (Blk.mk Bool.true (Body.cells [(At.sl 5 0 q0n 1), (At.sl 6 0 q0l 1), (At.sl 7 0 q0m 1)])), (Blk.mk Bool.true (Body.fl .f32 b5)), (Blk.mk Bool.true (Body.fl .f32 b6)), (Blk.mk Bool.true (Body.fl .f32 b7)), (Blk.mk Bool.true (Body.cells [(At.sl 9 0 q0i 1), (At.sl 10 0 q0j 1), (At.sl 11 0 q0k 1)])), (Blk.mk Bool.true (Body.fl .f32 b9)), (Blk.mk Bool.true (Body.fl .f32 b10)), (Blk.mk Bool.true (Body.fl .f32 c3_)), (Blk.mk Bool.true (Body.cells [(At.sl 9 0 q0g 1), (At.sl 10 0 q0f 1), (At.sl 11 0 q0h 1)]))])) := by kernel_rfl
theorem z8x (an : Nat) (b0 : List Nat) (b1 : List Nat) (b2 : List Nat) (q06 : Nat) (q08 : Nat) (q09 : Nat) (q0n : Nat) (q0l : Nat) (q0m : Nat) (b5 : List Nat) (b6 : List Nat) (b7 : List Nat) (q0i : Nat) (q0j : Nat) (q0k : Nat) (b9 : List Nat) (b10 : List Nat) (q0g : Nat) (q0f : Nat) (q0h : Nat) : ∀ (n : Nat) (k : Int) (i : Int) (b11 : List Nat), iter 57 2 13 (evC (R := Ex × St) Γ26 (evFn Γ26 8 8) 57 13 fi57.nt fi57.live fi57.nl 8 (findL 2 (loopsIn fi57.code))) n (St.mk [(0, (AV.v (TV.one (At.sl 11 0 an 1)))), (1, (AV.v (TV.one (At.int .i64 k)))), (5, (AV.v (TV.one (At.int .i64 i))))] [(Blk.mk Bool.false (Body.fl .f32 b0)), (Blk.mk Bool.false (Body.fl .f32 b1)), (Blk.mk Bool.false (Body.fl .f32 b2)), (Blk.mk Bool.true (Body.cells [(At.vw 0 0 q06 1), (At.vw 1 0 q08 1), (At.vw 2 0 q09 1)])), (Blk.mk Bool.true (Body.cells [(At.sl 5 0 q0n 1), (At.sl 6 0 q0l 1), (At.sl 7 0 q0m 1)])), (Blk.mk Bool.true (Body.fl .f32 b5)), (Blk.mk Bool.true (Body.fl .f32 b6)), (Blk.mk Bool.true (Body.fl .f32 b7)), (Blk.mk Bool.true (Body.cells [(At.sl 9 0 q0i 1), (At.sl 10 0 q0j 1), (At.sl 11 0 q0k 1)])), (Blk.mk Bool.true (Body.fl .f32 b9)), (Blk.mk Bool.true (Body.fl .f32 b10)), (Blk.mk Bool.true (Body.fl .f32 b11)), (Blk.mk Bool.true (Body.cells [(At.sl 9 0 q0g 1), (At.sl 10 0 q0f 1), (At.sl 11 0 q0h 1)]))]) (fun e st => some (e, st)) = (z20 an b0 b1 b2 q06 q08 q09 q0n q0l q0m b5 b6 b7 q0i q0j q0k b9 b10 q0g q0f q0h) (z05 an n k i b11) := by
  intro n
  induction n with
  | zero => intros; rfl
  | succ n ih =>
    intro k i b11
    refine Eq.trans (iter_succ ..) (Eq.trans (z8j an k i b0 b1 b2 q06 q08 q09 q0n q0l q0m b5 b6 b7 q0i q0j q0k b9 b10 b11 q0g q0f q0h (nextK 57 2 13 (evC (R := Ex × St) Γ26 (evFn Γ26 8 8) 57 13 fi57.nt fi57.live fi57.nl 8 (findL 2 (loopsIn fi57.code))) n (fun e st => some (e, st)))) (Eq.trans ?_ (z73 an k i b11 (z20 an b0 b1 b2 q06 q08 q09 q0n q0l q0m b5 b6 b7 q0i q0j q0k b9 b10 q0g q0f q0h) rfl (fun k' i' b11' => z05 an n k' i' b11') (fun c0_ c1_ c2_ c3_ => some (c0_, c1_, c2_, c3_)))))
    exact congrArg (fun kn_ => z0o an k i b11 kn_ (fun c0_ c1_ c2_ c3_ => (z20 an b0 b1 b2 q06 q08 q09 q0n q0l q0m b5 b6 b7 q0i q0j q0k b9 b10 q0g q0f q0h) (some (c0_, c1_, c2_, c3_)))) (funext fun k' => funext fun i' => funext fun b11' => ih k' i' b11')
theorem z7c : LoopOne Try.prog fnTab 57 2 z45 := lp_of (Γ := Γ26) tyTab_ok (FnL.ok fnTab_ok _ _) (LpL.ok lt26_ok) (SumL.ok tb26_ok fnTab_ok _) mixed (fi := fi57) (by kernel_rfl) (by kernel_rfl) (by
  intro lo st out hp
  obtain ⟨hs, e1, e2, e3⟩ := lpT_inv hp
  clear hp
  obtain rfl : st = (St.mk [(0, (AV.v (TV.one (At.sl 11 0 (hvN (hGet hs 0)) 1)))), (1, (AV.v (TV.one (At.int .i64 (hvI (hGet hs 1)))))), (5, (AV.v (TV.one (At.int .i64 (hvI (hGet hs 2))))))] [(Blk.mk Bool.false (Body.fl .f32 (hvLn (hGet hs 3)))), (Blk.mk Bool.false (Body.fl .f32 (hvLn (hGet hs 4)))), (Blk.mk Bool.false (Body.fl .f32 (hvLn (hGet hs 5)))), (Blk.mk Bool.true (Body.cells [(At.vw 0 0 (hvN (hGet hs 6)) 1), (At.vw 1 0 (hvN (hGet hs 7)) 1), (At.vw 2 0 (hvN (hGet hs 8)) 1)])), (Blk.mk Bool.true (Body.cells [(At.sl 5 0 (hvN (hGet hs 9)) 1), (At.sl 6 0 (hvN (hGet hs 10)) 1), (At.sl 7 0 (hvN (hGet hs 11)) 1)])), (Blk.mk Bool.true (Body.fl .f32 (hvLn (hGet hs 12)))), (Blk.mk Bool.true (Body.fl .f32 (hvLn (hGet hs 13)))), (Blk.mk Bool.true (Body.fl .f32 (hvLn (hGet hs 14)))), (Blk.mk Bool.true (Body.cells [(At.sl 9 0 (hvN (hGet hs 15)) 1), (At.sl 10 0 (hvN (hGet hs 16)) 1), (At.sl 11 0 (hvN (hGet hs 17)) 1)])), (Blk.mk Bool.true (Body.fl .f32 (hvLn (hGet hs 18)))), (Blk.mk Bool.true (Body.fl .f32 (hvLn (hGet hs 19)))), (Blk.mk Bool.true (Body.fl .f32 (hvLn (hGet hs 20)))), (Blk.mk Bool.true (Body.cells [(At.sl 9 0 (hvN (hGet hs 21)) 1), (At.sl 10 0 (hvN (hGet hs 22)) 1), (At.sl 11 0 (hvN (hGet hs 23)) 1)]))]) := e2.trans (by kernel_rfl)
  clear e2
  subst e1
  unfold z3t at e3
  injection e3 with h1 h2
  subst h2
  exact ⟨8, 8, big, Eq.trans (z8x (hvN (hGet hs 0)) (hvLn (hGet hs 3)) (hvLn (hGet hs 4)) (hvLn (hGet hs 5)) (hvN (hGet hs 6)) (hvN (hGet hs 7)) (hvN (hGet hs 8)) (hvN (hGet hs 9)) (hvN (hGet hs 10)) (hvN (hGet hs 11)) (hvLn (hGet hs 12)) (hvLn (hGet hs 13)) (hvLn (hGet hs 14)) (hvN (hGet hs 15)) (hvN (hGet hs 16)) (hvN (hGet hs 17)) (hvLn (hGet hs 18)) (hvLn (hGet hs 19)) (hvN (hGet hs 21)) (hvN (hGet hs 22)) (hvN (hGet hs 23)) big (hvI (hGet hs 1)) (hvI (hGet hs 2)) (hvLn (hGet hs 20))) (z8t (hvN (hGet hs 0)) (hvLn (hGet hs 3)) (hvLn (hGet hs 4)) (hvLn (hGet hs 5)) (hvN (hGet hs 6)) (hvN (hGet hs 7)) (hvN (hGet hs 8)) (hvN (hGet hs 9)) (hvN (hGet hs 10)) (hvN (hGet hs 11)) (hvLn (hGet hs 12)) (hvLn (hGet hs 13)) (hvLn (hGet hs 14)) (hvN (hGet hs 15)) (hvN (hGet hs 16)) (hvN (hGet hs 17)) (hvLn (hGet hs 18)) (hvLn (hGet hs 19)) (hvN (hGet hs 21)) (hvN (hGet hs 22)) (hvN (hGet hs 23)) (z05 (hvN (hGet hs 0)) big (hvI (hGet hs 1)) (hvI (hGet hs 2)) (hvLn (hGet hs 20))) h1)⟩)
noncomputable def tb27 : List (Nat × (List PT → Option (Bool × AV × List Blk))) := tb26
noncomputable def lt27 : List ((Nat × Nat) × (Nat → St → Option (Bool × LO))) := ((57, 2), z45) :: lt26
noncomputable def Γ27 : Ctx := ⟨tyTab, fnTab, tblSum tb27, tblLp lt27⟩
theorem tb27_ok : SumL Try.prog tb27 := tb26_ok
theorem lt27_ok : LpL Try.prog fnTab lt27 := LpL.cons z7c (lt26_ok)
noncomputable def z5g : List PT → Option (Bool × AV × List Blk)
  | [.agg [.row 1 q00 (.fl .f32 q03), .row 1 q01 (.fl .f32 q04), .row 1 q02 (.fl .f32 q05)], .one (.s (.flt .f32 x1)), .one (.s (.flt .f32 x2)), .one (.s (.flt .f32 x3))] => some ((laws_FnExactAddKnot_p q00 q03 q01 q04 q02 q05 x1 x2 x3), ((AV.v (TV.one (At.bool (laws_FnExactAddKnot_v0 q00 q03 q01 q04 q02 q05 x1 x2 x3)))), []))
  | _ => none
def zb3 (q00 : Nat) (q03 : List Nat) (q01 : Nat) (q04 : List Nat) (q02 : Nat) (q05 : List Nat) (x1 : Nat) (x2 : Nat) (x3 : Nat) : Option (Bool) → Option (AV × List Blk)
  | some r => some ((AV.v (TV.one (At.bool r))), [])
  | none => none
theorem zds (q00 : Nat) (q03 : List Nat) (q01 : Nat) (q04 : List Nat) (q02 : Nat) (q05 : List Nat) (x1 : Nat) (x2 : Nat) (x3 : Nat) : evFn Γ27 8 8 4 (impTs 0 [.agg [.row 1 q00 (.fl .f32 q03), .row 1 q01 (.fl .f32 q04), .row 1 q02 (.fl .f32 q05)], .one (.s (.flt .f32 x1)), .one (.s (.flt .f32 x2)), .one (.s (.flt .f32 x3))]).1 (impTs 0 [.agg [.row 1 q00 (.fl .f32 q03), .row 1 q01 (.fl .f32 q04), .row 1 q02 (.fl .f32 q05)], .one (.s (.flt .f32 x1)), .one (.s (.flt .f32 x2)), .one (.s (.flt .f32 x3))]).2 (expo (impTs 0 [.agg [.row 1 q00 (.fl .f32 q03), .row 1 q01 (.fl .f32 q04), .row 1 q02 (.fl .f32 q05)], .one (.s (.flt .f32 x1)), .one (.s (.flt .f32 x2)), .one (.s (.flt .f32 x3))]).2.length) = z30 q00 q03 q01 q04 q02 q05 x1 x2 x3 (fun c0_ => some ((AV.v (TV.one (At.bool c0_))), [])) := by kernel_rfl
theorem za9 : SumOne Try.prog 4 z5g := sum_of (Γ := Γ27) (fuel := 8) (d := 8) tyTab_ok (FnL.ok fnTab_ok _ _) (LpL.ok lt27_ok) (SumL.ok tb27_ok fnTab_ok _) mixed (by
  intro pts v news hp hc
  clear hc
  unfold z5g at hp
  split at hp
  · rename_i q00 q03 q01 q04 q02 q05 x1 x2 x3
    exact Eq.trans (Eq.trans (zds q00 q03 q01 q04 q02 q05 x1 x2 x3) (zch q00 q03 q01 q04 q02 q05 x1 x2 x3 (zb3 q00 q03 q01 q04 q02 q05 x1 x2 x3) rfl (fun c0_ => some c0_))) (fin_out (o := (zb3 q00 q03 q01 q04 q02 q05 x1 x2 x3)) (x := z31 q00 q03 q01 q04 q02 q05 x1 x2 x3) (d := default) (V := fun r => ((AV.v (TV.one (At.bool r))), [])) (fun r => rfl) hp)
  · cases hp)
noncomputable def tb28 : List (Nat × (List PT → Option (Bool × AV × List Blk))) := (4, z5g) :: tb27
noncomputable def lt28 : List ((Nat × Nat) × (Nat → St → Option (Bool × LO))) := lt27
noncomputable def Γ28 : Ctx := ⟨tyTab, fnTab, tblSum tb28, tblLp lt28⟩
theorem tb28_ok : SumL Try.prog tb28 := SumL.cons za9 (tb27_ok)
theorem lt28_ok : LpL Try.prog fnTab lt28 := lt27_ok
end Go.Proofs.Ytcbldlfdjabeaaa
