/-
  What functions answer: that the evaluator answers so. Printed by a program.
-/
import Derived.Test.YthaiinndikpmcaaProfilesC
set_option linter.unusedVariables false
set_option linter.unusedSimpArgs false
set_option maxRecDepth 100000
set_option maxHeartbeats 4000000
namespace Go.Proofs.Ythaiinndikpmcaa
open Go Go.Rf
def zek : List PT → Option (Bool × AV × List Blk)
  | [.one (.s (.flt .f64 x))] => some (bnot (nanQ .f64 x), A1 (.flt .f64 (fint .down x)), [])
  | _ => none
theorem zky : SumOne Try.prog 68 zek := by
  intro pts v news hp w vals hv
  unfold zek at hp
  split at hp
  · rename_i x
    injection hp with hp
    injection hp with h1 hp
    injection hp with h2 h3
    subst h2
    subst h3
    obtain ⟨l, hl⟩ : ∃ l, l = vals.toList := ⟨_, rfl⟩
    rw [← hl] at hv
    cases hv with
    | cons a1 a2 =>
      cases a2
      obtain ⟨b, hb1, hb2, hb3⟩ := a1
      subst hb1
      rename_i hx
      have hvals : vals = #[.float .f64 b] := by rw [← Array.toList_inj, ← hl]
      subst hvals
      have hn : nanB .f64 b = false := by rw [← nanB_cn, hb3]; simpa [bnot, nanQ] using h1
      rw [cn_of_not hn] at hb3
      subst hb3
      refine .inl ⟨_, w, by (simp only [callFunc, Sem.run_bind, run_program, Result.andThen_ok, Try.func68]; change (do let v ← Extern.MathFloor.toIntegral "math.archFloor" .down #[.float .f64 b]; pure (.value v) : Sem Next).run Try.prog w = _; rw [Sem.run_bind, run_fint hn]; rfl), NoB, ⟨⟨(fun t b' h => by cases t <;> cases h), (fun t t' b1 b2 x x' _ h => by cases t <;> cases h)⟩, (fun t x h => by cases h), Fr.refl _ w⟩, fint_rel hn⟩
  · cases hp
def zdj : List PT → Option (Bool × AV × List Blk)
  | [.one (.s (.flt .f64 x))] => some (bnot (nanQ .f64 x), A1 (.int .u64 x), [])
  | _ => none
theorem zjm : SumOne Try.prog 77 zdj := by
  intro pts v news hp w vals hv
  unfold zdj at hp
  split at hp
  · rename_i x
    injection hp with hp
    injection hp with h1 hp
    injection hp with h2 h3
    subst h2
    subst h3
    obtain ⟨l, hl⟩ : ∃ l, l = vals.toList := ⟨_, rfl⟩
    rw [← hl] at hv
    cases hv with
    | cons a1 a2 =>
      cases a2
      obtain ⟨b, hb1, hb2, hb3⟩ := a1
      subst hb1
      rename_i hx
      have hvals : vals = #[.float .f64 b] := by rw [← Array.toList_inj, ← hl]
      subst hvals
      have hn : nanB .f64 b = false := by rw [← nanB_cn, hb3]; simpa [bnot, nanQ] using h1
      rw [cn_of_not hn] at hb3
      subst hb3
      refine .inl ⟨_, w, by (simp only [callFunc, Sem.run_bind, run_program, Result.andThen_ok, Try.func77]; rfl), NoB, ⟨⟨(fun t b' h => by cases t <;> cases h), (fun t t' b1 b2 x x' _ h => by cases t <;> cases h)⟩, (fun t x h => by cases h), Fr.refl _ w⟩, rfl⟩
  · cases hp
def zap : List PT → Option (Bool × AV × List Blk)
  | [.one (.s (.int .u64 x))] => some (okU .f64 x, A1 (.flt .f64 (cnI .f64 x)), [])
  | _ => none
theorem zh5 : SumOne Try.prog 83 zap := by
  intro pts v news hp w vals hv
  unfold zap at hp
  split at hp
  · rename_i x
    injection hp with hp
    injection hp with h1 hp
    injection hp with h2 h3
    subst h2
    subst h3
    obtain ⟨l, hl⟩ : ∃ l, l = vals.toList := ⟨_, rfl⟩
    rw [← hl] at hv
    cases hv with
    | cons a1 a2 =>
      cases a2
      have hb1 : _ = Value.int .u64 x := a1
      subst hb1
      rename_i hx
      have hvals : vals = #[.int .u64 x] := by rw [← Array.toList_inj, ← hl]
      subst hvals
      have hw := okU_lt h1
      refine .inl ⟨_, w, by (simp only [callFunc, Sem.run_bind, run_program, Result.andThen_ok, Try.func83]; rfl), NoB, ⟨⟨(fun t b' h => by cases t <;> cases h), (fun t t' b1 b2 x x' _ h => by cases t <;> cases h)⟩, (fun t x h => by cases h), Fr.refl _ w⟩, ⟨_, rfl, hw, rfl⟩⟩
  · cases hp
def zet : List PT → Option (Bool × AV × List Blk)
  | [.one (.s (.flt .f64 x))] => some (bnot (nanQ .f64 x), A1 (.flt .f64 (fint .zero x)), [])
  | _ => none
theorem zko : SumOne Try.prog 84 zet := by
  intro pts v news hp w vals hv
  unfold zet at hp
  split at hp
  · rename_i x
    injection hp with hp
    injection hp with h1 hp
    injection hp with h2 h3
    subst h2
    subst h3
    obtain ⟨l, hl⟩ : ∃ l, l = vals.toList := ⟨_, rfl⟩
    rw [← hl] at hv
    cases hv with
    | cons a1 a2 =>
      cases a2
      obtain ⟨b, hb1, hb2, hb3⟩ := a1
      subst hb1
      rename_i hx
      have hvals : vals = #[.float .f64 b] := by rw [← Array.toList_inj, ← hl]
      subst hvals
      have hn : nanB .f64 b = false := by rw [← nanB_cn, hb3]; simpa [bnot, nanQ] using h1
      rw [cn_of_not hn] at hb3
      subst hb3
      refine .inl ⟨_, w, by (simp only [callFunc, Sem.run_bind, run_program, Result.andThen_ok, Try.func84]; change (do let v ← Extern.MathFloor.toIntegral "math.archTrunc" .zero #[.float .f64 b]; pure (.value v) : Sem Next).run Try.prog w = _; rw [Sem.run_bind, run_fint hn]; rfl), NoB, ⟨⟨(fun t b' h => by cases t <;> cases h), (fun t t' b1 b2 x x' _ h => by cases t <;> cases h)⟩, (fun t x h => by cases h), Fr.refl _ w⟩, fint_rel hn⟩
  · cases hp
noncomputable def tb0 : List (Nat × (List PT → Option (Bool × AV × List Blk))) := [(68, zek), (77, zdj), (83, zap), (84, zet)]
noncomputable def lt0 : List ((Nat × Nat) × (Nat → St → Option (Bool × LO))) := []
noncomputable def Γ0 : Ctx := ⟨tyTab, fnTab, tblSum tb0, tblLp lt0⟩
theorem tb0_ok : SumL Try.prog tb0 := SumL.cons zky (SumL.cons zjm (SumL.cons zh5 (SumL.cons zko (SumL.nil))))
theorem lt0_ok : LpL Try.prog fnTab lt0 := LpL.nil
noncomputable def zgk : List PT → Option (Bool × AV × List Blk)
  | [.one (.row 1 q0f (.il .u8 q0h)), .one (.row 1 q20 (.il .u8 q25))] => some ((zei q0f q0h q20 q25), ((AV.v (TV.one (At.bool (zdq q0f q0h q20 q25)))), []))
  | _ => none
def zkh (q0f : Nat) (q0h : List Int) (q20 : Nat) (q25 : List Int) : Option (Bool) → Option (AV × List Blk)
  | some r => some ((AV.v (TV.one (At.bool r))), [])
  | none => none
theorem znm (q0f : Nat) (q0h : List Int) (q20 : Nat) (q25 : List Int) : evFn Γ0 8 8 5 (impTs 0 [.one (.row 1 q0f (.il .u8 q0h)), .one (.row 1 q20 (.il .u8 q25))]).1 (impTs 0 [.one (.row 1 q0f (.il .u8 q0h)), .one (.row 1 q20 (.il .u8 q25))]).2 (expo (impTs 0 [.one (.row 1 q0f (.il .u8 q0h)), .one (.row 1 q20 (.il .u8 q25))]).2.length) = z9q q0f q0h q20 q25 (fun c0_ => some ((AV.v (TV.one (At.bool c0_))), [])) := by kernel_rfl
theorem zmp : SumOne Try.prog 5 zgk := sum_of (Γ := Γ0) (fuel := 8) (d := 8) tyTab_ok (FnL.ok fnTab_ok _ _) (LpL.ok lt0_ok) (SumL.ok tb0_ok _) mixed (by
  intro pts v news hp hc
  clear hc
  unfold zgk at hp
  split at hp
  · rename_i q0f q0h q20 q25
    exact Eq.trans (Eq.trans (znm q0f q0h q20 q25) (zm6 q0f q0h q20 q25 (zkh q0f q0h q20 q25) rfl (fun c0_ => some c0_))) (fin_out (o := (zkh q0f q0h q20 q25)) (x := z9o q0f q0h q20 q25) (d := default) (V := fun r => ((AV.v (TV.one (At.bool r))), [])) (fun r => rfl) hp)
  · cases hp)
noncomputable def zhs : List PT → Option (Bool × AV × List Blk)
  | [.one (.s (.flt .f64 a)), .one (.s (.flt .f64 b))] => some ((zdl a b), ((AV.v (TV.one (At.flt .f64 (zci a b)))), []))
  | _ => none
def zl2 (a : Nat) (b : Nat) : Option (Nat) → Option (AV × List Blk)
  | some r => some ((AV.v (TV.one (At.flt .f64 r))), [])
  | none => none
theorem zns (a : Nat) (b : Nat) : evFn Γ0 8 8 10 (impTs 0 [.one (.s (.flt .f64 a)), .one (.s (.flt .f64 b))]).1 (impTs 0 [.one (.s (.flt .f64 a)), .one (.s (.flt .f64 b))]).2 (expo (impTs 0 [.one (.s (.flt .f64 a)), .one (.s (.flt .f64 b))]).2.length) = zdf a b (fun c0_ => some ((AV.v (TV.one (At.flt .f64 c0_))), [])) := by kernel_rfl
theorem zmv : SumOne Try.prog 10 zhs := sum_of (Γ := Γ0) (fuel := 8) (d := 8) tyTab_ok (FnL.ok fnTab_ok _ _) (LpL.ok lt0_ok) (SumL.ok tb0_ok _) mixed (by
  intro pts v news hp hc
  clear hc
  unfold zhs at hp
  split at hp
  · rename_i a b
    exact Eq.trans (Eq.trans (zns a b) (zmd a b (zl2 a b) rfl (fun c0_ => some c0_))) (fin_out (o := (zl2 a b)) (x := zd7 a b) (d := default) (V := fun r => ((AV.v (TV.one (At.flt .f64 r))), [])) (fun r => rfl) hp)
  · cases hp)
noncomputable def ziy : List PT → Option (Bool × AV × List Blk)
  | [.one (.row 1 q0f (.il .u8 q0h)), .one (.s (.int .i64 k)), .one (.s (.int .i64 n_))] => some ((zak q0f q0h k n_), ((AV.v (TV.one (At.int .i64 (zbm q0f q0h k n_)))), []))
  | _ => none
def zmc (q0f : Nat) (q0h : List Int) (k : Int) (n_ : Int) : Option (Int) → Option (AV × List Blk)
  | some r => some ((AV.v (TV.one (At.int .i64 r))), [])
  | none => none
theorem znw (q0f : Nat) (q0h : List Int) (k : Int) (n_ : Int) : evFn Γ0 8 8 14 (impTs 0 [.one (.row 1 q0f (.il .u8 q0h)), .one (.s (.int .i64 k)), .one (.s (.int .i64 n_))]).1 (impTs 0 [.one (.row 1 q0f (.il .u8 q0h)), .one (.s (.int .i64 k)), .one (.s (.int .i64 n_))]).2 (expo (impTs 0 [.one (.row 1 q0f (.il .u8 q0h)), .one (.s (.int .i64 k)), .one (.s (.int .i64 n_))]).2.length) = zcp q0f q0h k n_ (fun c0_ => some ((AV.v (TV.one (At.int .i64 c0_))), [])) := by kernel_rfl
theorem zna : SumOne Try.prog 14 ziy := sum_of (Γ := Γ0) (fuel := 8) (d := 8) tyTab_ok (FnL.ok fnTab_ok _ _) (LpL.ok lt0_ok) (SumL.ok tb0_ok _) mixed (by
  intro pts v news hp hc
  clear hc
  unfold ziy at hp
  split at hp
  · rename_i q0f q0h k n_
    exact Eq.trans (Eq.trans (znw q0f q0h k n_) (zmx q0f q0h k n_ (zmc q0f q0h k n_) rfl (fun c0_ => some c0_))) (fin_out (o := (zmc q0f q0h k n_)) (x := zct q0f q0h k n_) (d := default) (V := fun r => ((AV.v (TV.one (At.int .i64 r))), [])) (fun r => rfl) hp)
  · cases hp)
noncomputable def zf4 : List PT → Option (Bool × AV × List Blk)
  | [.one (.s (.flt .f32 x))] => some ((z3z x), ((AV.v (TV.one (At.bool (z3g x)))), []))
  | _ => none
def zif (x : Nat) : Option (Bool) → Option (AV × List Blk)
  | some r => some ((AV.v (TV.one (At.bool r))), [])
  | none => none
theorem zn4 (x : Nat) : evFn Γ0 8 8 19 (impTs 0 [.one (.s (.flt .f32 x))]).1 (impTs 0 [.one (.s (.flt .f32 x))]).2 (expo (impTs 0 [.one (.s (.flt .f32 x))]).2.length) = zai x (fun c0_ => some ((AV.v (TV.one (At.bool c0_))), [])) := by kernel_rfl
theorem zle : SumOne Try.prog 19 zf4 := sum_of (Γ := Γ0) (fuel := 8) (d := 8) tyTab_ok (FnL.ok fnTab_ok _ _) (LpL.ok lt0_ok) (SumL.ok tb0_ok _) mixed (by
  intro pts v news hp hc
  clear hc
  unfold zf4 at hp
  split at hp
  · rename_i x
    exact Eq.trans (Eq.trans (zn4 x) (zkj x (zif x) rfl (fun c0_ => some c0_))) (fin_out (o := (zif x)) (x := z9w x) (d := default) (V := fun r => ((AV.v (TV.one (At.bool r))), [])) (fun r => rfl) hp)
  · cases hp)
noncomputable def zf3 : List PT → Option (Bool × AV × List Blk)
  | [.one (.s (.flt .f32 x)), .one (.s (.flt .f32 low)), .one (.s (.flt .f32 q23))] => some ((z9y x low q23), ((AV.v (TV.one (At.bool (z94 x low q23)))), []))
  | _ => none
def zib (x : Nat) (low : Nat) (q23 : Nat) : Option (Bool) → Option (AV × List Blk)
  | some r => some ((AV.v (TV.one (At.bool r))), [])
  | none => none
theorem zn2 (x : Nat) (low : Nat) (q23 : Nat) : evFn Γ0 8 8 37 (impTs 0 [.one (.s (.flt .f32 x)), .one (.s (.flt .f32 low)), .one (.s (.flt .f32 q23))]).1 (impTs 0 [.one (.s (.flt .f32 x)), .one (.s (.flt .f32 low)), .one (.s (.flt .f32 q23))]).2 (expo (impTs 0 [.one (.s (.flt .f32 x)), .one (.s (.flt .f32 low)), .one (.s (.flt .f32 q23))]).2.length) = z7q x low q23 (fun c0_ => some ((AV.v (TV.one (At.bool c0_))), [])) := by kernel_rfl
theorem zl1 : SumOne Try.prog 37 zf3 := sum_of (Γ := Γ0) (fuel := 8) (d := 8) tyTab_ok (FnL.ok fnTab_ok _ _) (LpL.ok lt0_ok) (SumL.ok tb0_ok _) mixed (by
  intro pts v news hp hc
  clear hc
  unfold zf3 at hp
  split at hp
  · rename_i x low q23
    exact Eq.trans (Eq.trans (zn2 x low q23) (zkk x low q23 (zib x low q23) rfl (fun c0_ => some c0_))) (fin_out (o := (zib x low q23)) (x := z7k x low q23) (d := default) (V := fun r => ((AV.v (TV.one (At.bool r))), [])) (fun r => rfl) hp)
  · cases hp)
noncomputable def zht : List PT → Option (Bool × AV × List Blk)
  | [.one (.s (.flt .f32 a)), .one (.s (.flt .f32 b)), .one (.s (.flt .f32 q21))] => some ((z95 a b q21), ((AV.v (TV.one (At.flt .f32 (z7u a b q21)))), []))
  | _ => none
def zl3 (a : Nat) (b : Nat) (q21 : Nat) : Option (Nat) → Option (AV × List Blk)
  | some r => some ((AV.v (TV.one (At.flt .f32 r))), [])
  | none => none
theorem znt (a : Nat) (b : Nat) (q21 : Nat) : evFn Γ0 8 8 41 (impTs 0 [.one (.s (.flt .f32 a)), .one (.s (.flt .f32 b)), .one (.s (.flt .f32 q21))]).1 (impTs 0 [.one (.s (.flt .f32 a)), .one (.s (.flt .f32 b)), .one (.s (.flt .f32 q21))]).2 (expo (impTs 0 [.one (.s (.flt .f32 a)), .one (.s (.flt .f32 b)), .one (.s (.flt .f32 q21))]).2.length) = zdk a b q21 (fun c0_ => some ((AV.v (TV.one (At.flt .f32 c0_))), [])) := by kernel_rfl
theorem zmy : SumOne Try.prog 41 zht := sum_of (Γ := Γ0) (fuel := 8) (d := 8) tyTab_ok (FnL.ok fnTab_ok _ _) (LpL.ok lt0_ok) (SumL.ok tb0_ok _) mixed (by
  intro pts v news hp hc
  clear hc
  unfold zht at hp
  split at hp
  · rename_i a b q21
    exact Eq.trans (Eq.trans (znt a b q21) (zmr a b q21 (zl3 a b q21) rfl (fun c0_ => some c0_))) (fin_out (o := (zl3 a b q21)) (x := z96 a b q21) (d := default) (V := fun r => ((AV.v (TV.one (At.flt .f32 r))), [])) (fun r => rfl) hp)
  · cases hp)
noncomputable def zgf : List PT → Option (Bool × AV × List Blk)
  | [] => some (zck, ((AV.v (TV.agg [(At.sl 0 0 0 1), (At.sl 1 0 0 1), (At.sl 2 0 0 1)])), [(Blk.mk Bool.true (Body.fl .f32 z1z)), (Blk.mk Bool.true (Body.fl .f32 z20)), (Blk.mk Bool.true (Body.fl .f32 z1y))]))
  | _ => none
def zkg  : Option ((List Nat) × (List Nat) × (List Nat)) → Option (AV × List Blk)
  | some r => some ((AV.v (TV.agg [(At.sl 0 0 0 1), (At.sl 1 0 0 1), (At.sl 2 0 0 1)])), [(Blk.mk Bool.true (Body.fl .f32 r.1)), (Blk.mk Bool.true (Body.fl .f32 r.2.1)), (Blk.mk Bool.true (Body.fl .f32 r.2.2))])
  | none => none
theorem zno  : evFn Γ0 8 8 49 (impTs 0 []).1 (impTs 0 []).2 (expo (impTs 0 []).2.length) = zcf (fun c0_ c1_ c2_ => some ((AV.v (TV.agg [(At.sl 0 0 0 1), (At.sl 1 0 0 1), (At.sl 2 0 0 1)])), [(Blk.mk Bool.true (Body.fl .f32 c0_)), (Blk.mk Bool.true (Body.fl .f32 c1_)), (Blk.mk Bool.true (Body.fl .f32 c2_))])) := by kernel_rfl
theorem zmi : SumOne Try.prog 49 zgf := sum_of (Γ := Γ0) (fuel := 8) (d := 8) tyTab_ok (FnL.ok fnTab_ok _ _) (LpL.ok lt0_ok) (SumL.ok tb0_ok _) mixed (by
  intro pts v news hp hc
  clear hc
  unfold zgf at hp
  split at hp
  · exact Eq.trans (Eq.trans (zno) (zm3  zkg rfl (fun c0_ c1_ c2_ => some (c0_, c1_, c2_)))) (fin_out (o := zkg) (x := z6g) (d := default) (V := fun r => ((AV.v (TV.agg [(At.sl 0 0 0 1), (At.sl 1 0 0 1), (At.sl 2 0 0 1)])), [(Blk.mk Bool.true (Body.fl .f32 r.1)), (Blk.mk Bool.true (Body.fl .f32 r.2.1)), (Blk.mk Bool.true (Body.fl .f32 r.2.2))])) (fun r => rfl) hp)
  · cases hp)
noncomputable def z9m : List PT → Option (Bool × AV × List Blk)
  | [.one (.row 1 s_n (.fl .f32 s))] => some ((z48 s_n s), ((AV.v (TV.one (At.sl 0 0 (z3v s_n s) 1))), [(Blk.mk Bool.true (Body.fl .f32 (z3t s_n s)))]))
  | _ => none
def z4v (s_n : Nat) (s : List Nat) : Option (Nat × (List Nat)) → Option (AV × List Blk)
  | some r => some ((AV.v (TV.one (At.sl 0 0 r.1 1))), [(Blk.mk Bool.true (Body.fl .f32 r.2))])
  | none => none
theorem zhb (s_n : Nat) (s : List Nat) : ∀ a b, (z4v s_n s) a = (z4v s_n s) b → a = b := by
  intro a b h
  cases a <;> cases b <;> simp_all [z4v, Prod.ext_iff]
theorem zhz (s_n : Nat) (s : List Nat) : evFn Γ0 8 8 58 (impTs 0 [.one (.row 1 s_n (.fl .f32 s))]).1 (impTs 0 [.one (.row 1 s_n (.fl .f32 s))]).2 (expo (impTs 0 [.one (.row 1 s_n (.fl .f32 s))]).2.length) = z49 s_n s (fun c0_ c1_ => some ((AV.v (TV.one (At.sl 0 0 c0_ 1))), [(Blk.mk Bool.true (Body.fl .f32 c1_))])) := by kernel_rfl
theorem zgs : SumOne Try.prog 58 z9m := sum_of (Γ := Γ0) (fuel := 8) (d := 8) tyTab_ok (FnL.ok fnTab_ok _ _) (LpL.ok lt0_ok) (SumL.ok tb0_ok _) mixed (by
  intro pts v news hp hc
  clear hc
  unfold z9m at hp
  split at hp
  · rename_i s_n s
    exact Eq.trans (Eq.trans (zhz s_n s) (zg7 s_n s (z4v s_n s) rfl (zhb s_n s) (fun c0_ c1_ => some (c0_, c1_)))) (fin_out (o := (z4v s_n s)) (x := z34 s_n s) (d := default) (V := fun r => ((AV.v (TV.one (At.sl 0 0 r.1 1))), [(Blk.mk Bool.true (Body.fl .f32 r.2))])) (fun r => rfl) hp)
  · cases hp)
noncomputable def zfu : List PT → Option (Bool × AV × List Blk)
  | [.one (.s (.flt .f64 x))] => some ((zbd x), ((AV.v (TV.one (At.bool (zag x)))), []))
  | _ => none
def zjh (x : Nat) : Option (Bool) → Option (AV × List Blk)
  | some r => some ((AV.v (TV.one (At.bool r))), [])
  | none => none
theorem zn5 (x : Nat) : evFn Γ0 8 8 70 (impTs 0 [.one (.s (.flt .f64 x))]).1 (impTs 0 [.one (.s (.flt .f64 x))]).2 (expo (impTs 0 [.one (.s (.flt .f64 x))]).2.length) = z8v x (fun c0_ => some ((AV.v (TV.one (At.bool c0_))), [])) := by kernel_rfl
theorem zlt : SumOne Try.prog 70 zfu := sum_of (Γ := Γ0) (fuel := 8) (d := 8) tyTab_ok (FnL.ok fnTab_ok _ _) (LpL.ok lt0_ok) (SumL.ok tb0_ok _) mixed (by
  intro pts v news hp hc
  clear hc
  unfold zfu at hp
  split at hp
  · rename_i x
    exact Eq.trans (Eq.trans (zn5 x) (zlh x (zjh x) rfl (fun c0_ => some c0_))) (fin_out (o := (zjh x)) (x := z8q x) (d := default) (V := fun r => ((AV.v (TV.one (At.bool r))), [])) (fun r => rfl) hp)
  · cases hp)
noncomputable def zes : List PT → Option (Bool × AV × List Blk)
  | [.one (.s (.flt .f64 x))] => some ((zcb x), ((AV.v (TV.one (At.flt .f32 (zb1 x)))), []))
  | _ => none
def zhj (x : Nat) : Option (Nat) → Option (AV × List Blk)
  | some r => some ((AV.v (TV.one (At.flt .f32 r))), [])
  | none => none
theorem zml (x : Nat) : evFn Γ0 8 8 72 (impTs 0 [.one (.s (.flt .f64 x))]).1 (impTs 0 [.one (.s (.flt .f64 x))]).2 (expo (impTs 0 [.one (.s (.flt .f64 x))]).2.length) = z6w x (fun c0_ => some ((AV.v (TV.one (At.flt .f32 c0_))), [])) := by kernel_rfl
theorem zkw : SumOne Try.prog 72 zes := sum_of (Γ := Γ0) (fuel := 8) (d := 8) tyTab_ok (FnL.ok fnTab_ok _ _) (LpL.ok lt0_ok) (SumL.ok tb0_ok _) mixed (by
  intro pts v news hp hc
  clear hc
  unfold zes at hp
  split at hp
  · rename_i x
    exact Eq.trans (Eq.trans (zml x) (zk7 x (zhj x) rfl (fun c0_ => some c0_))) (fin_out (o := (zhj x)) (x := z6v x) (d := default) (V := fun r => ((AV.v (TV.one (At.flt .f32 r))), [])) (fun r => rfl) hp)
  · cases hp)
noncomputable def zk9 : List PT → Option (Bool × AV × List Blk)
  | [] => some (zh6, ((AV.v (TV.one (At.flt .f64 zfy))), []))
  | _ => none
def zn0  : Option (Nat) → Option (AV × List Blk)
  | some r => some ((AV.v (TV.one (At.flt .f64 r))), [])
  | none => none
theorem zny  : evFn Γ0 8 8 79 (impTs 0 []).1 (impTs 0 []).2 (expo (impTs 0 []).2.length) = zdo (fun c0_ => some ((AV.v (TV.one (At.flt .f64 c0_))), [])) := by kernel_rfl
theorem znl : SumOne Try.prog 79 zk9 := sum_of (Γ := Γ0) (fuel := 8) (d := 8) tyTab_ok (FnL.ok fnTab_ok _ _) (LpL.ok lt0_ok) (SumL.ok tb0_ok _) mixed (by
  intro pts v news hp hc
  clear hc
  unfold zk9 at hp
  split at hp
  · exact Eq.trans (Eq.trans (zny) (zn7  zn0 rfl (fun c0_ => some c0_))) (fin_out (o := zn0) (x := zdt) (d := default) (V := fun r => ((AV.v (TV.one (At.flt .f64 r))), [])) (fun r => rfl) hp)
  · cases hp)
noncomputable def tb1 : List (Nat × (List PT → Option (Bool × AV × List Blk))) := (5, zgk) :: (10, zhs) :: (14, ziy) :: (19, zf4) :: (37, zf3) :: (41, zht) :: (49, zgf) :: (58, z9m) :: (70, zfu) :: (72, zes) :: (79, zk9) :: tb0
noncomputable def lt1 : List ((Nat × Nat) × (Nat → St → Option (Bool × LO))) := lt0
noncomputable def Γ1 : Ctx := ⟨tyTab, fnTab, tblSum tb1, tblLp lt1⟩
theorem tb1_ok : SumL Try.prog tb1 := SumL.cons zmp (SumL.cons zmv (SumL.cons zna (SumL.cons zle (SumL.cons zl1 (SumL.cons zmy (SumL.cons zmi (SumL.cons zgs (SumL.cons zlt (SumL.cons zkw (SumL.cons znl (tb0_ok)))))))))))
theorem lt1_ok : LpL Try.prog fnTab lt1 := lt0_ok
noncomputable def zfx : List PT → Option (Bool × AV × List Blk)
  | [.one (.s (.flt .f32 x))] => some ((zb9 x), ((AV.tup [(TV.one (At.flt .f32 (za0 x))), (TV.one (At.bool (za1 x)))]), []))
  | _ => none
def zjg (x : Nat) : Option (Nat × Bool) → Option (AV × List Blk)
  | some r => some ((AV.tup [(TV.one (At.flt .f32 r.1)), (TV.one (At.bool r.2))]), [])
  | none => none
theorem zn9 (x : Nat) : evFn Γ1 8 8 30 (impTs 0 [.one (.s (.flt .f32 x))]).1 (impTs 0 [.one (.s (.flt .f32 x))]).2 (expo (impTs 0 [.one (.s (.flt .f32 x))]).2.length) = z8u x (fun c0_ c1_ => some ((AV.tup [(TV.one (At.flt .f32 c0_)), (TV.one (At.bool c1_))]), [])) := by kernel_rfl
theorem zm2 : SumOne Try.prog 30 zfx := sum_of (Γ := Γ1) (fuel := 8) (d := 8) tyTab_ok (FnL.ok fnTab_ok _ _) (LpL.ok lt1_ok) (SumL.ok tb1_ok _) mixed (by
  intro pts v news hp hc
  clear hc
  unfold zfx at hp
  split at hp
  · rename_i x
    exact Eq.trans (Eq.trans (zn9 x) (zlf x (zjg x) rfl (fun c0_ c1_ => some (c0_, c1_)))) (fin_out (o := (zjg x)) (x := z6y x) (d := default) (V := fun r => ((AV.tup [(TV.one (At.flt .f32 r.1)), (TV.one (At.bool r.2))]), [])) (fun r => rfl) hp)
  · cases hp)
noncomputable def zdc : List PT → Option (Bool × AV × List Blk)
  | [.agg [.row 1 q03 (.fl .f32 q09), .row 1 q05 (.fl .f32 q0d), .row 1 q04 (.fl .f32 q0c)]] => some ((z5k q03 q09 q05 q0d q04 q0c), ((AV.v (TV.agg [(At.sl 0 0 (z0i q03 q09 q05 q0d q04 q0c) 1), (At.sl 1 0 (z0a q03 q09 q05 q0d q04 q0c) 1), (At.sl 2 0 (z0f q03 q09 q05 q0d q04 q0c) 1)])), [(Blk.mk Bool.true (Body.fl .f32 (z2t q03 q09 q05 q0d q04 q0c))), (Blk.mk Bool.true (Body.fl .f32 (z0z q03 q09 q05 q0d q04 q0c))), (Blk.mk Bool.true (Body.fl .f32 (z0y q03 q09 q05 q0d q04 q0c)))]))
  | _ => none
def zgc (q03 : Nat) (q09 : List Nat) (q05 : Nat) (q0d : List Nat) (q04 : Nat) (q0c : List Nat) : Option (Nat × Nat × Nat × (List Nat) × (List Nat) × (List Nat)) → Option (AV × List Blk)
  | some r => some ((AV.v (TV.agg [(At.sl 0 0 r.1 1), (At.sl 1 0 r.2.1 1), (At.sl 2 0 r.2.2.1 1)])), [(Blk.mk Bool.true (Body.fl .f32 r.2.2.2.1)), (Blk.mk Bool.true (Body.fl .f32 r.2.2.2.2.1)), (Blk.mk Bool.true (Body.fl .f32 r.2.2.2.2.2))])
  | none => none
theorem zl7 (q03 : Nat) (q09 : List Nat) (q05 : Nat) (q0d : List Nat) (q04 : Nat) (q0c : List Nat) : evFn Γ1 8 8 40 (impTs 0 [.agg [.row 1 q03 (.fl .f32 q09), .row 1 q05 (.fl .f32 q0d), .row 1 q04 (.fl .f32 q0c)]]).1 (impTs 0 [.agg [.row 1 q03 (.fl .f32 q09), .row 1 q05 (.fl .f32 q0d), .row 1 q04 (.fl .f32 q0c)]]).2 (expo (impTs 0 [.agg [.row 1 q03 (.fl .f32 q09), .row 1 q05 (.fl .f32 q0d), .row 1 q04 (.fl .f32 q0c)]]).2.length) = z5v q03 q09 q05 q0d q04 q0c (fun c0_ c1_ c2_ c3_ c4_ c5_ => some ((AV.v (TV.agg [(At.sl 0 0 c0_ 1), (At.sl 1 0 c1_ 1), (At.sl 2 0 c2_ 1)])), [(Blk.mk Bool.true (Body.fl .f32 c3_)), (Blk.mk Bool.true (Body.fl .f32 c4_)), (Blk.mk Bool.true (Body.fl .f32 c5_))])) := by kernel_rfl
theorem zj5 : SumOne Try.prog 40 zdc := sum_of (Γ := Γ1) (fuel := 8) (d := 8) tyTab_ok (FnL.ok fnTab_ok _ _) (LpL.ok lt1_ok) (SumL.ok tb1_ok _) mixed (by
  intro pts v news hp hc
  clear hc
  unfold zdc at hp
  split at hp
  · rename_i q03 q09 q05 q0d q04 q0c
    exact Eq.trans (Eq.trans (zl7 q03 q09 q05 q0d q04 q0c) (zio q03 q09 q05 q0d q04 q0c (zgc q03 q09 q05 q0d q04 q0c) rfl (fun c0_ c1_ c2_ c3_ c4_ c5_ => some (c0_, c1_, c2_, c3_, c4_, c5_)))) (fin_out (o := (zgc q03 q09 q05 q0d q04 q0c)) (x := z2k q03 q09 q05 q0d q04 q0c) (d := default) (V := fun r => ((AV.v (TV.agg [(At.sl 0 0 r.1 1), (At.sl 1 0 r.2.1 1), (At.sl 2 0 r.2.2.1 1)])), [(Blk.mk Bool.true (Body.fl .f32 r.2.2.2.1)), (Blk.mk Bool.true (Body.fl .f32 r.2.2.2.2.1)), (Blk.mk Bool.true (Body.fl .f32 r.2.2.2.2.2))])) (fun r => rfl) hp)
  · cases hp)
noncomputable def zde : List PT → Option (Bool × AV × List Blk)
  | [.one (.s (.flt .f32 x))] => some ((zac x), ((AV.v (TV.one (At.bool (z9a x)))), []))
  | _ => none
def zga (x : Nat) : Option (Bool) → Option (AV × List Blk)
  | some r => some ((AV.v (TV.one (At.bool r))), [])
  | none => none
theorem zlm (x : Nat) : evFn Γ1 8 8 54 (impTs 0 [.one (.s (.flt .f32 x))]).1 (impTs 0 [.one (.s (.flt .f32 x))]).2 (expo (impTs 0 [.one (.s (.flt .f32 x))]).2.length) = z5l x (fun c0_ => some ((AV.v (TV.one (At.bool c0_))), [])) := by kernel_rfl
theorem zj9 : SumOne Try.prog 54 zde := sum_of (Γ := Γ1) (fuel := 8) (d := 8) tyTab_ok (FnL.ok fnTab_ok _ _) (LpL.ok lt1_ok) (SumL.ok tb1_ok _) mixed (by
  intro pts v news hp hc
  clear hc
  unfold zde at hp
  split at hp
  · rename_i x
    exact Eq.trans (Eq.trans (zlm x) (zj4 x (zga x) rfl (fun c0_ => some c0_))) (fin_out (o := (zga x)) (x := z5t x) (d := default) (V := fun r => ((AV.v (TV.one (At.bool r))), [])) (fun r => rfl) hp)
  · cases hp)
noncomputable def zfw : List PT → Option (Bool × AV × List Blk)
  | [.one (.s (.flt .f32 x))] => some ((zdn x), ((AV.v (TV.one (At.bool (zd3 x)))), []))
  | _ => none
def zj8 (x : Nat) : Option (Bool) → Option (AV × List Blk)
  | some r => some ((AV.v (TV.one (At.bool r))), [])
  | none => none
theorem zne (x : Nat) : evFn Γ1 8 8 56 (impTs 0 [.one (.s (.flt .f32 x))]).1 (impTs 0 [.one (.s (.flt .f32 x))]).2 (expo (impTs 0 [.one (.s (.flt .f32 x))]).2.length) = z8x x (fun c0_ => some ((AV.v (TV.one (At.bool c0_))), [])) := by kernel_rfl
theorem zlv : SumOne Try.prog 56 zfw := sum_of (Γ := Γ1) (fuel := 8) (d := 8) tyTab_ok (FnL.ok fnTab_ok _ _) (LpL.ok lt1_ok) (SumL.ok tb1_ok _) mixed (by
  intro pts v news hp hc
  clear hc
  unfold zfw at hp
  split at hp
  · rename_i x
    exact Eq.trans (Eq.trans (zne x) (zl8 x (zj8 x) rfl (fun c0_ => some c0_))) (fin_out (o := (zj8 x)) (x := z8w x) (d := default) (V := fun r => ((AV.v (TV.one (At.bool r))), [])) (fun r => rfl) hp)
  · cases hp)
noncomputable def ze2 : List PT → Option (Bool × AV × List Blk)
  | [.one (.s (.flt .f32 a)), .one (.s (.flt .f32 b))] => some ((zaw a b), ((AV.v (TV.one (At.bool (zab a b)))), []))
  | _ => none
def zh3 (a : Nat) (b : Nat) : Option (Bool) → Option (AV × List Blk)
  | some r => some ((AV.v (TV.one (At.bool r))), [])
  | none => none
theorem zlx (a : Nat) (b : Nat) : evFn Γ1 8 8 60 (impTs 0 [.one (.s (.flt .f32 a)), .one (.s (.flt .f32 b))]).1 (impTs 0 [.one (.s (.flt .f32 a)), .one (.s (.flt .f32 b))]).2 (expo (impTs 0 [.one (.s (.flt .f32 a)), .one (.s (.flt .f32 b))]).2.length) = z6b a b (fun c0_ => some ((AV.v (TV.one (At.bool c0_))), [])) := by kernel_rfl
theorem zkc : SumOne Try.prog 60 ze2 := sum_of (Γ := Γ1) (fuel := 8) (d := 8) tyTab_ok (FnL.ok fnTab_ok _ _) (LpL.ok lt1_ok) (SumL.ok tb1_ok _) mixed (by
  intro pts v news hp hc
  clear hc
  unfold ze2 at hp
  split at hp
  · rename_i a b
    exact Eq.trans (Eq.trans (zlx a b) (zjq a b (zh3 a b) rfl (fun c0_ => some c0_))) (fin_out (o := (zh3 a b)) (x := z6c a b) (d := default) (V := fun r => ((AV.v (TV.one (At.bool r))), [])) (fun r => rfl) hp)
  · cases hp)
noncomputable def zbj (s1n : Nat) (s2n : Nat) (t12 : Int) (t13 : Int) (b0 : List Nat) (b1 : List Nat) : Bool × LO := ((z2a s1n s2n t12 b0 b1 t13), (LO.two (z25 s1n s2n t12 b0 b1 t13) (LO.one Ex.ret (St.mk [(4, (AV.v (TV.one (At.bool Bool.false))))] [(Blk.mk Bool.false (Body.fl .f32 b0)), (Blk.mk Bool.false (Body.fl .f32 b1))])) (LO.one (Ex.exit 0) (St.mk [(0, (AV.v (TV.one (At.vw 0 0 s1n 1)))), (1, (AV.v (TV.one (At.vw 1 0 s2n 1)))), (12, (AV.v (TV.one (At.int .i64 t12)))), (13, (AV.v (TV.one (At.int .i64 (z6i s1n s2n t12 b0 b1 t13))))), (14, (AV.v (TV.one (At.bool (z6h s1n s2n t12 b0 b1 t13)))))] [(Blk.mk Bool.false (Body.fl .f32 b0)), (Blk.mk Bool.false (Body.fl .f32 b1))]))))
noncomputable def zco : Nat → St → Option (Bool × LO) := lpT 2 (pSt [(pTm 0 (pV (pOne (pVw 0 (liN 0) 1)))), (pTm 1 (pV (pOne (pVw 1 (liN 0) 1)))), (pTm 12 (pV (pOne (pInt .i64)))), (pTm 13 (pV (pOne (pInt .i64))))] [(pBlk Bool.false (pFl .f32)), (pBlk Bool.false (pFl .f32))]) (fun hs => zbj (hvN (hGet hs 0)) (hvN (hGet hs 1)) (hvI (hGet hs 2)) (hvI (hGet hs 3)) (hvLn (hGet hs 4)) (hvLn (hGet hs 5)))
def z4f (s1n : Nat) (s2n : Nat) (t12 : Int) (b0 : List Nat) (b1 : List Nat) : Option ((Unit) ⊕ (Int × Bool)) → Option (Ex × St)
  | none => none
  | some (Sum.inl r) => some (Ex.ret, (St.mk [(4, (AV.v (TV.one (At.bool Bool.false))))] [(Blk.mk Bool.false (Body.fl .f32 b0)), (Blk.mk Bool.false (Body.fl .f32 b1))]))
  | some (Sum.inr r) => some ((Ex.exit 0), (St.mk [(0, (AV.v (TV.one (At.vw 0 0 s1n 1)))), (1, (AV.v (TV.one (At.vw 1 0 s2n 1)))), (12, (AV.v (TV.one (At.int .i64 t12)))), (13, (AV.v (TV.one (At.int .i64 r.1)))), (14, (AV.v (TV.one (At.bool r.2))))] [(Blk.mk Bool.false (Body.fl .f32 b0)), (Blk.mk Bool.false (Body.fl .f32 b1))]))
def zg4 (s1n : Nat) (s2n : Nat) (t12 : Int) (b0 : List Nat) (b1 : List Nat) (x : Option ((Unit) ⊕ (Int × Bool))) : LO := (LO.two (oL x) (LO.one Ex.ret (St.mk [(4, (AV.v (TV.one (At.bool Bool.false))))] [(Blk.mk Bool.false (Body.fl .f32 b0)), (Blk.mk Bool.false (Body.fl .f32 b1))])) (LO.one (Ex.exit 0) (St.mk [(0, (AV.v (TV.one (At.vw 0 0 s1n 1)))), (1, (AV.v (TV.one (At.vw 1 0 s2n 1)))), (12, (AV.v (TV.one (At.int .i64 t12)))), (13, (AV.v (TV.one (At.int .i64 ((tR x).getD default).1)))), (14, (AV.v (TV.one (At.bool ((tR x).getD default).2))))] [(Blk.mk Bool.false (Body.fl .f32 b0)), (Blk.mk Bool.false (Body.fl .f32 b1))])))
theorem zgj (s1n : Nat) (s2n : Nat) (t12 : Int) (b0 : List Nat) (b1 : List Nat) : ∀ x : Option ((Unit) ⊕ (Int × Bool)), x.isSome = true → (z4f s1n s2n t12 b0 b1) x = some (pick (zg4 s1n s2n t12 b0 b1 x))
  | none, h => by cases h
  | some (Sum.inl r), _ => rfl
  | some (Sum.inr r), _ => rfl
theorem zgn (s1n : Nat) (s2n : Nat) (t12 : Int) (t13 : Int) (b0 : List Nat) (b1 : List Nat) (K : Ex → St → Option (Ex × St)) : evC (R := Ex × St) Γ1 (evFn Γ1 8 8) 39 2 fi39.nt fi39.live fi39.nl 8 (findL 4 (loopsIn fi39.code)) (St.mk [(0, (AV.v (TV.one (At.vw 0 0 s1n 1)))), (1, (AV.v (TV.one (At.vw 1 0 s2n 1)))), (12, (AV.v (TV.one (At.int .i64 t12)))), (13, (AV.v (TV.one (At.int .i64 t13))))] [(Blk.mk Bool.false (Body.fl .f32 b0)), (Blk.mk Bool.false (Body.fl .f32 b1))]) K = z1v s1n s2n t12 b0 b1 t13 (fun t13' => K .normal (St.mk [(0, (AV.v (TV.one (At.vw 0 0 s1n 1)))), (1, (AV.v (TV.one (At.vw 1 0 s2n 1)))), (12, (AV.v (TV.one (At.int .i64 t12)))), (13, (AV.v (TV.one (At.int .i64 t13'))))] [(Blk.mk Bool.false (Body.fl .f32 b0)), (Blk.mk Bool.false (Body.fl .f32 b1))])) (fun _ => K Ex.ret (St.mk [(4, (AV.v (TV.one (At.bool Bool.false))))] [(Blk.mk Bool.false (Body.fl .f32 b0)), (Blk.mk Bool.false (Body.fl .f32 b1))])) (fun c0_ c1_ => K (Ex.exit 0) (St.mk [(0, (AV.v (TV.one (At.vw 0 0 s1n 1)))), (1, (AV.v (TV.one (At.vw 1 0 s2n 1)))), (12, (AV.v (TV.one (At.int .i64 t12)))), (13, (AV.v (TV.one (At.int .i64 c0_)))), (14, (AV.v (TV.one (At.bool c1_))))] [(Blk.mk Bool.false (Body.fl .f32 b0)), (Blk.mk Bool.false (Body.fl .f32 b1))])) := by kernel_rfl
theorem zgp (s1n : Nat) (s2n : Nat) (t12 : Int) (b0 : List Nat) (b1 : List Nat) : ∀ (n : Nat) (t13 : Int), iter 39 4 2 (evC (R := Ex × St) Γ1 (evFn Γ1 8 8) 39 2 fi39.nt fi39.live fi39.nl 8 (findL 4 (loopsIn fi39.code))) n (St.mk [(0, (AV.v (TV.one (At.vw 0 0 s1n 1)))), (1, (AV.v (TV.one (At.vw 1 0 s2n 1)))), (12, (AV.v (TV.one (At.int .i64 t12)))), (13, (AV.v (TV.one (At.int .i64 t13))))] [(Blk.mk Bool.false (Body.fl .f32 b0)), (Blk.mk Bool.false (Body.fl .f32 b1))]) (fun e st => some (e, st)) = (z4f s1n s2n t12 b0 b1) (z0v s1n s2n t12 b0 b1 n t13) := by
  intro n
  induction n with
  | zero => intros; rfl
  | succ n ih =>
    intro t13
    refine Eq.trans (iter_succ ..) (Eq.trans (zgn s1n s2n t12 t13 b0 b1 (nextK 39 4 2 (evC (R := Ex × St) Γ1 (evFn Γ1 8 8) 39 2 fi39.nt fi39.live fi39.nl 8 (findL 4 (loopsIn fi39.code))) n (fun e st => some (e, st)))) (Eq.trans ?_ (zf5 s1n s2n t12 b0 b1 t13 (z4f s1n s2n t12 b0 b1) rfl (fun t13' => z0v s1n s2n t12 b0 b1 n t13') (fun _ => some (Sum.inl ())) (fun c0_ c1_ => some (Sum.inr (c0_, c1_))))))
    exact congrArg (fun kn_ => z1v s1n s2n t12 b0 b1 t13 kn_ (fun _ => (z4f s1n s2n t12 b0 b1) (some (Sum.inl ()))) (fun c0_ c1_ => (z4f s1n s2n t12 b0 b1) (some (Sum.inr (c0_, c1_))))) (funext fun t13' => ih t13')
theorem zfj : LoopOne Try.prog fnTab 39 4 zco := lp_of (Γ := Γ1) tyTab_ok (FnL.ok fnTab_ok _ _) (LpL.ok lt1_ok) (SumL.ok tb1_ok _) mixed (fi := fi39) (by kernel_rfl) (by kernel_rfl) (by
  intro lo st out hp
  obtain ⟨hs, e1, e2, e3⟩ := lpT_inv hp
  clear hp
  obtain rfl : st = (St.mk [(0, (AV.v (TV.one (At.vw 0 0 (hvN (hGet hs 0)) 1)))), (1, (AV.v (TV.one (At.vw 1 0 (hvN (hGet hs 1)) 1)))), (12, (AV.v (TV.one (At.int .i64 (hvI (hGet hs 2)))))), (13, (AV.v (TV.one (At.int .i64 (hvI (hGet hs 3))))))] [(Blk.mk Bool.false (Body.fl .f32 (hvLn (hGet hs 4)))), (Blk.mk Bool.false (Body.fl .f32 (hvLn (hGet hs 5))))]) := e2.trans (by kernel_rfl)
  clear e2
  subst e1
  unfold zbj at e3
  injection e3 with h1 h2
  subst h2
  exact ⟨8, 8, big, Eq.trans (zgp (hvN (hGet hs 0)) (hvN (hGet hs 1)) (hvI (hGet hs 2)) (hvLn (hGet hs 4)) (hvLn (hGet hs 5)) big (hvI (hGet hs 3))) (zgj (hvN (hGet hs 0)) (hvN (hGet hs 1)) (hvI (hGet hs 2)) (hvLn (hGet hs 4)) (hvLn (hGet hs 5)) (z0v (hvN (hGet hs 0)) (hvN (hGet hs 1)) (hvI (hGet hs 2)) (hvLn (hGet hs 4)) (hvLn (hGet hs 5)) big (hvI (hGet hs 3))) h1)⟩)
noncomputable def zbi (sn : Nat) (v : Nat) (t7 : Int) (t8 : Int) (b0 : List Nat) : Bool × LO := ((z4g sn v t7 b0 t8), (LO.two (z45 sn v t7 b0 t8) (LO.one Ex.ret (St.mk [(4, (AV.v (TV.one (At.int .i64 (z3m sn v t7 b0 t8)))))] [(Blk.mk Bool.false (Body.fl .f32 b0))])) (LO.one (Ex.exit 0) (St.mk [(0, (AV.v (TV.one (At.vw 0 0 sn 1)))), (1, (AV.v (TV.one (At.flt .f32 v)))), (7, (AV.v (TV.one (At.int .i64 t7)))), (8, (AV.v (TV.one (At.int .i64 (zfk sn v t7 b0 t8))))), (9, (AV.v (TV.one (At.bool (zfh sn v t7 b0 t8)))))] [(Blk.mk Bool.false (Body.fl .f32 b0))]))))
noncomputable def zcl : Nat → St → Option (Bool × LO) := lpT 1 (pSt [(pTm 0 (pV (pOne (pVw 0 (liN 0) 1)))), (pTm 1 (pV (pOne (pFlt .f32)))), (pTm 7 (pV (pOne (pInt .i64)))), (pTm 8 (pV (pOne (pInt .i64))))] [(pBlk Bool.false (pFl .f32))]) (fun hs => zbi (hvN (hGet hs 0)) (hvN (hGet hs 1)) (hvI (hGet hs 2)) (hvI (hGet hs 3)) (hvLn (hGet hs 4)))
def z4i (sn : Nat) (v : Nat) (t7 : Int) (b0 : List Nat) : Option ((Int) ⊕ (Int × Bool)) → Option (Ex × St)
  | none => none
  | some (Sum.inl r) => some (Ex.ret, (St.mk [(4, (AV.v (TV.one (At.int .i64 r))))] [(Blk.mk Bool.false (Body.fl .f32 b0))]))
  | some (Sum.inr r) => some ((Ex.exit 0), (St.mk [(0, (AV.v (TV.one (At.vw 0 0 sn 1)))), (1, (AV.v (TV.one (At.flt .f32 v)))), (7, (AV.v (TV.one (At.int .i64 t7)))), (8, (AV.v (TV.one (At.int .i64 r.1)))), (9, (AV.v (TV.one (At.bool r.2))))] [(Blk.mk Bool.false (Body.fl .f32 b0))]))
def zg3 (sn : Nat) (v : Nat) (t7 : Int) (b0 : List Nat) (x : Option ((Int) ⊕ (Int × Bool))) : LO := (LO.two (oL x) (LO.one Ex.ret (St.mk [(4, (AV.v (TV.one (At.int .i64 ((tL x).getD default)))))] [(Blk.mk Bool.false (Body.fl .f32 b0))])) (LO.one (Ex.exit 0) (St.mk [(0, (AV.v (TV.one (At.vw 0 0 sn 1)))), (1, (AV.v (TV.one (At.flt .f32 v)))), (7, (AV.v (TV.one (At.int .i64 t7)))), (8, (AV.v (TV.one (At.int .i64 ((tR x).getD default).1)))), (9, (AV.v (TV.one (At.bool ((tR x).getD default).2))))] [(Blk.mk Bool.false (Body.fl .f32 b0))])))
theorem zgt (sn : Nat) (v : Nat) (t7 : Int) (b0 : List Nat) : ∀ x : Option ((Int) ⊕ (Int × Bool)), x.isSome = true → (z4i sn v t7 b0) x = some (pick (zg3 sn v t7 b0 x))
  | none, h => by cases h
  | some (Sum.inl r), _ => rfl
  | some (Sum.inr r), _ => rfl
theorem zgv (sn : Nat) (v : Nat) (t7 : Int) (t8 : Int) (b0 : List Nat) (K : Ex → St → Option (Ex × St)) : evC (R := Ex × St) Γ1 (evFn Γ1 8 8) 61 1 fi61.nt fi61.live fi61.nl 8 (findL 2 (loopsIn fi61.code)) (St.mk [(0, (AV.v (TV.one (At.vw 0 0 sn 1)))), (1, (AV.v (TV.one (At.flt .f32 v)))), (7, (AV.v (TV.one (At.int .i64 t7)))), (8, (AV.v (TV.one (At.int .i64 t8))))] [(Blk.mk Bool.false (Body.fl .f32 b0))]) K = z1w sn v t7 b0 t8 (fun t8' => K .normal (St.mk [(0, (AV.v (TV.one (At.vw 0 0 sn 1)))), (1, (AV.v (TV.one (At.flt .f32 v)))), (7, (AV.v (TV.one (At.int .i64 t7)))), (8, (AV.v (TV.one (At.int .i64 t8'))))] [(Blk.mk Bool.false (Body.fl .f32 b0))])) (fun c0_ => K Ex.ret (St.mk [(4, (AV.v (TV.one (At.int .i64 c0_))))] [(Blk.mk Bool.false (Body.fl .f32 b0))])) (fun c0_ c1_ => K (Ex.exit 0) (St.mk [(0, (AV.v (TV.one (At.vw 0 0 sn 1)))), (1, (AV.v (TV.one (At.flt .f32 v)))), (7, (AV.v (TV.one (At.int .i64 t7)))), (8, (AV.v (TV.one (At.int .i64 c0_)))), (9, (AV.v (TV.one (At.bool c1_))))] [(Blk.mk Bool.false (Body.fl .f32 b0))])) := by kernel_rfl
theorem zgw (sn : Nat) (v : Nat) (t7 : Int) (b0 : List Nat) : ∀ (n : Nat) (t8 : Int), iter 61 2 1 (evC (R := Ex × St) Γ1 (evFn Γ1 8 8) 61 1 fi61.nt fi61.live fi61.nl 8 (findL 2 (loopsIn fi61.code))) n (St.mk [(0, (AV.v (TV.one (At.vw 0 0 sn 1)))), (1, (AV.v (TV.one (At.flt .f32 v)))), (7, (AV.v (TV.one (At.int .i64 t7)))), (8, (AV.v (TV.one (At.int .i64 t8))))] [(Blk.mk Bool.false (Body.fl .f32 b0))]) (fun e st => some (e, st)) = (z4i sn v t7 b0) (z0w sn v t7 b0 n t8) := by
  intro n
  induction n with
  | zero => intros; rfl
  | succ n ih =>
    intro t8
    refine Eq.trans (iter_succ ..) (Eq.trans (zgv sn v t7 t8 b0 (nextK 61 2 1 (evC (R := Ex × St) Γ1 (evFn Γ1 8 8) 61 1 fi61.nt fi61.live fi61.nl 8 (findL 2 (loopsIn fi61.code))) n (fun e st => some (e, st)))) (Eq.trans ?_ (zfe sn v t7 b0 t8 (z4i sn v t7 b0) rfl (fun t8' => z0w sn v t7 b0 n t8') (fun c0_ => some (Sum.inl c0_)) (fun c0_ c1_ => some (Sum.inr (c0_, c1_))))))
    exact congrArg (fun kn_ => z1w sn v t7 b0 t8 kn_ (fun c0_ => (z4i sn v t7 b0) (some (Sum.inl c0_))) (fun c0_ c1_ => (z4i sn v t7 b0) (some (Sum.inr (c0_, c1_))))) (funext fun t8' => ih t8')
theorem zfl : LoopOne Try.prog fnTab 61 2 zcl := lp_of (Γ := Γ1) tyTab_ok (FnL.ok fnTab_ok _ _) (LpL.ok lt1_ok) (SumL.ok tb1_ok _) mixed (fi := fi61) (by kernel_rfl) (by kernel_rfl) (by
  intro lo st out hp
  obtain ⟨hs, e1, e2, e3⟩ := lpT_inv hp
  clear hp
  obtain rfl : st = (St.mk [(0, (AV.v (TV.one (At.vw 0 0 (hvN (hGet hs 0)) 1)))), (1, (AV.v (TV.one (At.flt .f32 (hvN (hGet hs 1)))))), (7, (AV.v (TV.one (At.int .i64 (hvI (hGet hs 2)))))), (8, (AV.v (TV.one (At.int .i64 (hvI (hGet hs 3))))))] [(Blk.mk Bool.false (Body.fl .f32 (hvLn (hGet hs 4))))]) := e2.trans (by kernel_rfl)
  clear e2
  subst e1
  unfold zbi at e3
  injection e3 with h1 h2
  subst h2
  exact ⟨8, 8, big, Eq.trans (zgw (hvN (hGet hs 0)) (hvN (hGet hs 1)) (hvI (hGet hs 2)) (hvLn (hGet hs 4)) big (hvI (hGet hs 3))) (zgt (hvN (hGet hs 0)) (hvN (hGet hs 1)) (hvI (hGet hs 2)) (hvLn (hGet hs 4)) (z0w (hvN (hGet hs 0)) (hvN (hGet hs 1)) (hvI (hGet hs 2)) (hvLn (hGet hs 4)) big (hvI (hGet hs 3))) h1)⟩)
noncomputable def tb2 : List (Nat × (List PT → Option (Bool × AV × List Blk))) := (30, zfx) :: (40, zdc) :: (54, zde) :: (56, zfw) :: (60, ze2) :: tb1
noncomputable def lt2 : List ((Nat × Nat) × (Nat → St → Option (Bool × LO))) := ((39, 4), zco) :: ((61, 2), zcl) :: lt1
noncomputable def Γ2 : Ctx := ⟨tyTab, fnTab, tblSum tb2, tblLp lt2⟩
theorem tb2_ok : SumL Try.prog tb2 := SumL.cons zm2 (SumL.cons zj5 (SumL.cons zj9 (SumL.cons zlv (SumL.cons zkc (tb1_ok)))))
theorem lt2_ok : LpL Try.prog fnTab lt2 := LpL.cons zfj (LpL.cons zfl (lt1_ok))
noncomputable def z9j : List PT → Option (Bool × AV × List Blk)
  | [.one (.row 1 q1p (.fl .f32 s1)), .one (.row 1 q1q (.fl .f32 s2))] => some ((z6j q1p s1 q1q s2), ((AV.v (TV.one (At.bool (z63 q1p s1 q1q s2)))), []))
  | _ => none
def zdy (q1p : Nat) (s1 : List Nat) (q1q : Nat) (s2 : List Nat) : Option (Bool) → Option (AV × List Blk)
  | some r => some ((AV.v (TV.one (At.bool r))), [])
  | none => none
theorem zhy (q1p : Nat) (s1 : List Nat) (q1q : Nat) (s2 : List Nat) : evFn Γ2 8 8 39 (impTs 0 [.one (.row 1 q1p (.fl .f32 s1)), .one (.row 1 q1q (.fl .f32 s2))]).1 (impTs 0 [.one (.row 1 q1p (.fl .f32 s1)), .one (.row 1 q1q (.fl .f32 s2))]).2 (expo (impTs 0 [.one (.row 1 q1p (.fl .f32 s1)), .one (.row 1 q1q (.fl .f32 s2))]).2.length) = z47 q1p s1 q1q s2 (fun c0_ => some ((AV.v (TV.one (At.bool c0_))), [])) := by kernel_rfl
theorem zgl : SumOne Try.prog 39 z9j := sum_of (Γ := Γ2) (fuel := 8) (d := 8) tyTab_ok (FnL.ok fnTab_ok _ _) (LpL.ok lt2_ok) (SumL.ok tb2_ok _) mixed (by
  intro pts v news hp hc
  clear hc
  unfold z9j at hp
  split at hp
  · rename_i q1p s1 q1q s2
    exact Eq.trans (Eq.trans (zhy q1p s1 q1q s2) (zg5 q1p s1 q1q s2 (zdy q1p s1 q1q s2) rfl (fun c0_ => some c0_))) (fin_out (o := (zdy q1p s1 q1q s2)) (x := z4a q1p s1 q1q s2) (d := default) (V := fun r => ((AV.v (TV.one (At.bool r))), [])) (fun r => rfl) hp)
  · cases hp)
noncomputable def ze5 : List PT → Option (Bool × AV × List Blk)
  | [.one (.s (.flt .f32 x))] => some ((zay x), ((AV.v (TV.one (At.bool (za7 x)))), []))
  | _ => none
def zgx (x : Nat) : Option (Bool) → Option (AV × List Blk)
  | some r => some ((AV.v (TV.one (At.bool r))), [])
  | none => none
theorem zm1 (x : Nat) : evFn Γ2 8 8 55 (impTs 0 [.one (.s (.flt .f32 x))]).1 (impTs 0 [.one (.s (.flt .f32 x))]).2 (expo (impTs 0 [.one (.s (.flt .f32 x))]).2.length) = z6d x (fun c0_ => some ((AV.v (TV.one (At.bool c0_))), [])) := by kernel_rfl
theorem zkb : SumOne Try.prog 55 ze5 := sum_of (Γ := Γ2) (fuel := 8) (d := 8) tyTab_ok (FnL.ok fnTab_ok _ _) (LpL.ok lt2_ok) (SumL.ok tb2_ok _) mixed (by
  intro pts v news hp hc
  clear hc
  unfold ze5 at hp
  split at hp
  · rename_i x
    exact Eq.trans (Eq.trans (zm1 x) (zjv x (zgx x) rfl (fun c0_ => some c0_))) (fin_out (o := (zgx x)) (x := z66 x) (d := default) (V := fun r => ((AV.v (TV.one (At.bool r))), [])) (fun r => rfl) hp)
  · cases hp)
noncomputable def z9k : List PT → Option (Bool × AV × List Blk)
  | [.one (.row 1 s_n (.fl .f32 s)), .one (.s (.flt .f32 v))] => some ((z6k s_n s v), ((AV.v (TV.one (At.int .i64 (z64 s_n s v)))), []))
  | _ => none
def zdv (s_n : Nat) (s : List Nat) (v : Nat) : Option (Int) → Option (AV × List Blk)
  | some r => some ((AV.v (TV.one (At.int .i64 r))), [])
  | none => none
theorem zi8 (s_n : Nat) (s : List Nat) (v : Nat) : evFn Γ2 8 8 61 (impTs 0 [.one (.row 1 s_n (.fl .f32 s)), .one (.s (.flt .f32 v))]).1 (impTs 0 [.one (.row 1 s_n (.fl .f32 s)), .one (.s (.flt .f32 v))]).2 (expo (impTs 0 [.one (.row 1 s_n (.fl .f32 s)), .one (.s (.flt .f32 v))]).2.length) = z4b s_n s v (fun c0_ => some ((AV.v (TV.one (At.int .i64 c0_))), [])) := by kernel_rfl
theorem zgg : SumOne Try.prog 61 z9k := sum_of (Γ := Γ2) (fuel := 8) (d := 8) tyTab_ok (FnL.ok fnTab_ok _ _) (LpL.ok lt2_ok) (SumL.ok tb2_ok _) mixed (by
  intro pts v news hp hc
  clear hc
  unfold z9k at hp
  split at hp
  · rename_i s_n s v
    exact Eq.trans (Eq.trans (zi8 s_n s v) (zg9 s_n s v (zdv s_n s v) rfl (fun c0_ => some c0_))) (fin_out (o := (zdv s_n s v)) (x := z4d s_n s v) (d := default) (V := fun r => ((AV.v (TV.one (At.int .i64 r))), [])) (fun r => rfl) hp)
  · cases hp)
noncomputable def zid (q0i : Nat) (to : Nat) (q1k : Nat) (t13 : Int) (t14 : Int) (b0 : List Nat) (b1 : List Nat) (b2 : List Nat) (q0n : Nat) (q0r : Nat) (q0q : Nat) (q0p : Nat) (q0j : Nat) (q0k : Nat) (b5 : List Nat) (b6 : List Nat) (b7 : List Nat) (q19 : Nat) (q16 : Nat) (q17 : Nat) (b9 : List Nat) (b10 : List Nat) (b11 : List Nat) : Bool × LO := ((zeh q0i to q1k t13 b0 b1 b2 q0r q0q t14 q19 q16 q17 b9 b10 b11), (LO.one (Ex.exit 0) (St.mk [(1, (AV.v (TV.one (At.flt .f32 q0i)))), (2, (AV.v (TV.one (At.flt .f32 to)))), (3, (AV.v (TV.one (At.ptr 3 0 3)))), (6, (AV.v (TV.one (At.ptr 4 0 3)))), (7, (AV.v (TV.one (At.ptr 8 0 3)))), (12, (AV.v (TV.one (At.vw 0 0 q1k 1)))), (13, (AV.v (TV.one (At.int .i64 t13)))), (14, (AV.v (TV.one (At.int .i64 (zeo q0i to q1k t13 b0 b1 b2 q0r q0q t14 q19 q16 q17 b9 b10 b11))))), (15, (AV.v (TV.one (At.bool (zeq q0i to q1k t13 b0 b1 b2 q0r q0q t14 q19 q16 q17 b9 b10 b11)))))] [(Blk.mk Bool.false (Body.fl .f32 b0)), (Blk.mk Bool.false (Body.fl .f32 b1)), (Blk.mk Bool.false (Body.fl .f32 b2)), (Blk.mk Bool.true (Body.cells [(At.vw 0 0 q0n 1), (At.vw 1 0 q0r 1), (At.vw 2 0 q0q 1)])), (Blk.mk Bool.true (Body.cells [(At.sl 5 0 q0p 1), (At.sl 6 0 q0j 1), (At.sl 7 0 q0k 1)])), (Blk.mk Bool.true (Body.fl .f32 b5)), (Blk.mk Bool.true (Body.fl .f32 b6)), (Blk.mk Bool.true (Body.fl .f32 b7)), (Blk.mk Bool.true (Body.cells [(At.sl 9 0 (zc6 q0i to q1k t13 b0 b1 b2 q0r q0q t14 q19 q16 q17 b9 b10 b11) 1), (At.sl 10 0 (zbx q0i to q1k t13 b0 b1 b2 q0r q0q t14 q19 q16 q17 b9 b10 b11) 1), (At.sl 11 0 (zc9 q0i to q1k t13 b0 b1 b2 q0r q0q t14 q19 q16 q17 b9 b10 b11) 1)])), (Blk.mk Bool.true (Body.fl .f32 (zc0 q0i to q1k t13 b0 b1 b2 q0r q0q t14 q19 q16 q17 b9 b10 b11))), (Blk.mk Bool.true (Body.fl .f32 (zbz q0i to q1k t13 b0 b1 b2 q0r q0q t14 q19 q16 q17 b9 b10 b11))), (Blk.mk Bool.true (Body.fl .f32 (zc1 q0i to q1k t13 b0 b1 b2 q0r q0q t14 q19 q16 q17 b9 b10 b11)))])))
noncomputable def zki : Nat → St → Option (Bool × LO) := lpT 3 (pSt [(pTm 1 (pV (pOne (pFlt .f32)))), (pTm 2 (pV (pOne (pFlt .f32)))), (pTm 3 (pV (pOne (pPtr 3 (liN 0) 3)))), (pTm 6 (pV (pOne (pPtr 4 (liN 0) 3)))), (pTm 7 (pV (pOne (pPtr 8 (liN 0) 3)))), (pTm 12 (pV (pOne (pVw 0 (liN 0) 1)))), (pTm 13 (pV (pOne (pInt .i64)))), (pTm 14 (pV (pOne (pInt .i64))))] [(pBlk Bool.false (pFl .f32)), (pBlk Bool.false (pFl .f32)), (pBlk Bool.false (pFl .f32)), (pBlk Bool.true (pCells [(pVw 0 (liN 0) 1), (pVw 1 (liN 0) 1), (pVw 2 (liN 0) 1)])), (pBlk Bool.true (pCells [(pSl 5 (liN 0) 1), (pSl 6 (liN 0) 1), (pSl 7 (liN 0) 1)])), (pBlk Bool.true (pFl .f32)), (pBlk Bool.true (pFl .f32)), (pBlk Bool.true (pFl .f32)), (pBlk Bool.true (pCells [(pSl 9 (liN 0) 1), (pSl 10 (liN 0) 1), (pSl 11 (liN 0) 1)])), (pBlk Bool.true (pFl .f32)), (pBlk Bool.true (pFl .f32)), (pBlk Bool.true (pFl .f32))]) (fun hs => zid (hvN (hGet hs 0)) (hvN (hGet hs 1)) (hvN (hGet hs 2)) (hvI (hGet hs 3)) (hvI (hGet hs 4)) (hvLn (hGet hs 5)) (hvLn (hGet hs 6)) (hvLn (hGet hs 7)) (hvN (hGet hs 8)) (hvN (hGet hs 9)) (hvN (hGet hs 10)) (hvN (hGet hs 11)) (hvN (hGet hs 12)) (hvN (hGet hs 13)) (hvLn (hGet hs 14)) (hvLn (hGet hs 15)) (hvLn (hGet hs 16)) (hvN (hGet hs 17)) (hvN (hGet hs 18)) (hvN (hGet hs 19)) (hvLn (hGet hs 20)) (hvLn (hGet hs 21)) (hvLn (hGet hs 22)))
def zeg (q0i : Nat) (to : Nat) (q1k : Nat) (t13 : Int) (b0 : List Nat) (b1 : List Nat) (b2 : List Nat) (q0n : Nat) (q0r : Nat) (q0q : Nat) (q0p : Nat) (q0j : Nat) (q0k : Nat) (b5 : List Nat) (b6 : List Nat) (b7 : List Nat) : Option ((Int × Bool × Nat × Nat × Nat × (List Nat) × (List Nat) × (List Nat))) → Option (Ex × St)
  | none => none
  | some r => some ((Ex.exit 0), (St.mk [(1, (AV.v (TV.one (At.flt .f32 q0i)))), (2, (AV.v (TV.one (At.flt .f32 to)))), (3, (AV.v (TV.one (At.ptr 3 0 3)))), (6, (AV.v (TV.one (At.ptr 4 0 3)))), (7, (AV.v (TV.one (At.ptr 8 0 3)))), (12, (AV.v (TV.one (At.vw 0 0 q1k 1)))), (13, (AV.v (TV.one (At.int .i64 t13)))), (14, (AV.v (TV.one (At.int .i64 r.1)))), (15, (AV.v (TV.one (At.bool r.2.1))))] [(Blk.mk Bool.false (Body.fl .f32 b0)), (Blk.mk Bool.false (Body.fl .f32 b1)), (Blk.mk Bool.false (Body.fl .f32 b2)), (Blk.mk Bool.true (Body.cells [(At.vw 0 0 q0n 1), (At.vw 1 0 q0r 1), (At.vw 2 0 q0q 1)])), (Blk.mk Bool.true (Body.cells [(At.sl 5 0 q0p 1), (At.sl 6 0 q0j 1), (At.sl 7 0 q0k 1)])), (Blk.mk Bool.true (Body.fl .f32 b5)), (Blk.mk Bool.true (Body.fl .f32 b6)), (Blk.mk Bool.true (Body.fl .f32 b7)), (Blk.mk Bool.true (Body.cells [(At.sl 9 0 r.2.2.1 1), (At.sl 10 0 r.2.2.2.1 1), (At.sl 11 0 r.2.2.2.2.1 1)])), (Blk.mk Bool.true (Body.fl .f32 r.2.2.2.2.2.1)), (Blk.mk Bool.true (Body.fl .f32 r.2.2.2.2.2.2.1)), (Blk.mk Bool.true (Body.fl .f32 r.2.2.2.2.2.2.2))]))
def znc (q0i : Nat) (to : Nat) (q1k : Nat) (t13 : Int) (b0 : List Nat) (b1 : List Nat) (b2 : List Nat) (q0n : Nat) (q0r : Nat) (q0q : Nat) (q0p : Nat) (q0j : Nat) (q0k : Nat) (b5 : List Nat) (b6 : List Nat) (b7 : List Nat) (x : Option ((Int × Bool × Nat × Nat × Nat × (List Nat) × (List Nat) × (List Nat)))) : LO := (LO.one (Ex.exit 0) (St.mk [(1, (AV.v (TV.one (At.flt .f32 q0i)))), (2, (AV.v (TV.one (At.flt .f32 to)))), (3, (AV.v (TV.one (At.ptr 3 0 3)))), (6, (AV.v (TV.one (At.ptr 4 0 3)))), (7, (AV.v (TV.one (At.ptr 8 0 3)))), (12, (AV.v (TV.one (At.vw 0 0 q1k 1)))), (13, (AV.v (TV.one (At.int .i64 t13)))), (14, (AV.v (TV.one (At.int .i64 (x.getD default).1)))), (15, (AV.v (TV.one (At.bool (x.getD default).2.1))))] [(Blk.mk Bool.false (Body.fl .f32 b0)), (Blk.mk Bool.false (Body.fl .f32 b1)), (Blk.mk Bool.false (Body.fl .f32 b2)), (Blk.mk Bool.true (Body.cells [(At.vw 0 0 q0n 1), (At.vw 1 0 q0r 1), (At.vw 2 0 q0q 1)])), (Blk.mk Bool.true (Body.cells [(At.sl 5 0 q0p 1), (At.sl 6 0 q0j 1), (At.sl 7 0 q0k 1)])), (Blk.mk Bool.true (Body.fl .f32 b5)), (Blk.mk Bool.true (Body.fl .f32 b6)), (Blk.mk Bool.true (Body.fl .f32 b7)), (Blk.mk Bool.true (Body.cells [(At.sl 9 0 (x.getD default).2.2.1 1), (At.sl 10 0 (x.getD default).2.2.2.1 1), (At.sl 11 0 (x.getD default).2.2.2.2.1 1)])), (Blk.mk Bool.true (Body.fl .f32 (x.getD default).2.2.2.2.2.1)), (Blk.mk Bool.true (Body.fl .f32 (x.getD default).2.2.2.2.2.2.1)), (Blk.mk Bool.true (Body.fl .f32 (x.getD default).2.2.2.2.2.2.2))]))
theorem znj (q0i : Nat) (to : Nat) (q1k : Nat) (t13 : Int) (b0 : List Nat) (b1 : List Nat) (b2 : List Nat) (q0n : Nat) (q0r : Nat) (q0q : Nat) (q0p : Nat) (q0j : Nat) (q0k : Nat) (b5 : List Nat) (b6 : List Nat) (b7 : List Nat) : ∀ x : Option ((Int × Bool × Nat × Nat × Nat × (List Nat) × (List Nat) × (List Nat))), x.isSome = true → (zeg q0i to q1k t13 b0 b1 b2 q0n q0r q0q q0p q0j q0k b5 b6 b7) x = some (pick (znc q0i to q1k t13 b0 b1 b2 q0n q0r q0q q0p q0j q0k b5 b6 b7 x))
  | none, h => by cases h
  | some r, _ => rfl
theorem zng (q0i : Nat) (to : Nat) (q1k : Nat) (t13 : Int) (t14 : Int) (b0 : List Nat) (b1 : List Nat) (b2 : List Nat) (q0n : Nat) (q0r : Nat) (q0q : Nat) (q0p : Nat) (q0j : Nat) (q0k : Nat) (b5 : List Nat) (b6 : List Nat) (b7 : List Nat) (q19 : Nat) (q16 : Nat) (q17 : Nat) (b9 : List Nat) (b10 : List Nat) (b11 : List Nat) (K : Ex → St → Option (Ex × St)) : evC (R := Ex × St) Γ2 (evFn Γ2 8 8) 34 3 fi34.nt fi34.live fi34.nl 8 (findL 3 (loopsIn fi34.code)) (St.mk [(1, (AV.v (TV.one (At.flt .f32 q0i)))), (2, (AV.v (TV.one (At.flt .f32 to)))), (3, (AV.v (TV.one (At.ptr 3 0 3)))), (6, (AV.v (TV.one (At.ptr 4 0 3)))), (7, (AV.v (TV.one (At.ptr 8 0 3)))), (12, (AV.v (TV.one (At.vw 0 0 q1k 1)))), (13, (AV.v (TV.one (At.int .i64 t13)))), (14, (AV.v (TV.one (At.int .i64 t14))))] [(Blk.mk Bool.false (Body.fl .f32 b0)), (Blk.mk Bool.false (Body.fl .f32 b1)), (Blk.mk Bool.false (Body.fl .f32 b2)), (Blk.mk Bool.true (Body.cells [(At.vw 0 0 q0n 1), (At.vw 1 0 q0r 1), (At.vw 2 0 q0q 1)])), (Blk.mk Bool.true (Body.cells [(At.sl 5 0 q0p 1), (At.sl 6 0 q0j 1), (At.sl 7 0 q0k 1)])), (Blk.mk Bool.true (Body.fl .f32 b5)), (Blk.mk Bool.true (Body.fl .f32 b6)), (Blk.mk Bool.true (Body.fl .f32 b7)), (Blk.mk Bool.true (Body.cells [(At.sl 9 0 q19 1), (At.sl 10 0 q16 1), (At.sl 11 0 q17 1)])), (Blk.mk Bool.true (Body.fl .f32 b9)), (Blk.mk Bool.true (Body.fl .f32 b10)), (Blk.mk Bool.true (Body.fl .f32 b11))]) K = z5b q0i to q1k t13 b0 b1 b2 q0r q0q t14 q19 q16 q17 b9 b10 b11 (fun t14' q19' q16' q17' b9' b10' b11' => K .normal (St.mk [(1, (AV.v (TV.one (At.flt .f32 q0i)))), (2, (AV.v (TV.one (At.flt .f32 to)))), (3, (AV.v (TV.one (At.ptr 3 0 3)))), (6, (AV.v (TV.one (At.ptr 4 0 3)))), (7, (AV.v (TV.one (At.ptr 8 0 3)))), (12, (AV.v (TV.one (At.vw 0 0 q1k 1)))), (13, (AV.v (TV.one (At.int .i64 t13)))), (14, (AV.v (TV.one (At.int .i64 t14'))))] [(Blk.mk Bool.false (Body.fl .f32 b0)), (Blk.mk Bool.false (Body.fl .f32 b1)), (Blk.mk Bool.false (Body.fl .f32 b2)), (Blk.mk Bool.true (Body.cells [(At.vw 0 0 q0n 1), (At.vw 1 0 q0r 1), (At.vw 2 0 q0q 1)])), (Blk.mk Bool.true (Body.cells [(At.sl 5 0 q0p 1), (At.sl 6 0 q0j 1), (At.sl 7 0 q0k 1)])), (Blk.mk Bool.true (Body.fl .f32 b5)), (Blk.mk Bool.true (Body.fl .f32 b6)), (Blk.mk Bool.true (Body.fl .f32 b7)), (Blk.mk Bool.true (Body.cells [(At.sl 9 0 q19' 1), (At.sl 10 0 q16' 1), (At.sl 11 0 q17' 1)])), (Blk.mk Bool.true (Body.fl .f32 b9')), (Blk.mk Bool.true (Body.fl .f32 b10')), (Blk.mk Bool.true (Body.fl .f32 b11'))])) (fun c0_ c1_ c2_ c3_ c4_ c5_ c6_ c7_ => K (Ex.exit 0) (St.mk [(1, (AV.v (TV.one (At.flt .f32 q0i)))), (2, (AV.v (TV.one (At.flt .f32 to)))), (3, (AV.v (TV.one (At.ptr 3 0 3)))), (6, (AV.v (TV.one (At.ptr 4 0 3)))), (7, (AV.v (TV.one (At.ptr 8 0 3)))), (12, (AV.v (TV.one (At.vw 0 0 q1k 1)))), (13, (AV.v (TV.one (At.int .i64 t13)))), (14, (AV.v (TV.one (At.int .i64 c0_)))), (15, (AV.v (TV.one (At.bool c1_))))] [(Blk.mk Bool.false (Body.fl .f32 b0)), (Blk.mk Bool.false (Body.fl .f32 b1)), (Blk.mk Bool.false (Body.fl .f32 b2)), (Blk.mk Bool.true (Body.cells [(At.vw 0 0 q0n 1), (At.vw 1 0 q0r 1), (At.vw 2 0 q0q 1)])), (Blk.mk Bool.true (Body.cells [(At.sl 5 0 q0p 1), (At.sl 6 0 q0j 1), (At.sl 7 0 q0k 1)])), (Blk.mk Bool.true (Body.fl .f32 b5)), (Blk.mk Bool.true (Body.fl .f32 b6)), (Blk.mk Bool.true (Body.fl .f32 b7)), (Blk.mk Bool.true (Body.cells [(At.sl 9 0 c2_ 1), (At.sl 10 0 c3_ 1), (At.sl 11 0 c4_ 1)])), (Blk.mk Bool.true (Body.fl .f32 c5_)), (Blk.mk Bool.true (Body.fl .f32 c6_)), (Blk.mk Bool.true (Body.fl .f32 c7_))])) := by kernel_rfl
theorem znf (q0i : Nat) (to : Nat) (q1k : Nat) (t13 : Int) (b0 : List Nat) (b1 : List Nat) (b2 : List Nat) (q0n : Nat) (q0r : Nat) (q0q : Nat) (q0p : Nat) (q0j : Nat) (q0k : Nat) (b5 : List Nat) (b6 : List Nat) (b7 : List Nat) : ∀ (n : Nat) (t14 : Int) (q19 : Nat) (q16 : Nat) (q17 : Nat) (b9 : List Nat) (b10 : List Nat) (b11 : List Nat), iter 34 3 3 (evC (R := Ex × St) Γ2 (evFn Γ2 8 8) 34 3 fi34.nt fi34.live fi34.nl 8 (findL 3 (loopsIn fi34.code))) n (St.mk [(1, (AV.v (TV.one (At.flt .f32 q0i)))), (2, (AV.v (TV.one (At.flt .f32 to)))), (3, (AV.v (TV.one (At.ptr 3 0 3)))), (6, (AV.v (TV.one (At.ptr 4 0 3)))), (7, (AV.v (TV.one (At.ptr 8 0 3)))), (12, (AV.v (TV.one (At.vw 0 0 q1k 1)))), (13, (AV.v (TV.one (At.int .i64 t13)))), (14, (AV.v (TV.one (At.int .i64 t14))))] [(Blk.mk Bool.false (Body.fl .f32 b0)), (Blk.mk Bool.false (Body.fl .f32 b1)), (Blk.mk Bool.false (Body.fl .f32 b2)), (Blk.mk Bool.true (Body.cells [(At.vw 0 0 q0n 1), (At.vw 1 0 q0r 1), (At.vw 2 0 q0q 1)])), (Blk.mk Bool.true (Body.cells [(At.sl 5 0 q0p 1), (At.sl 6 0 q0j 1), (At.sl 7 0 q0k 1)])), (Blk.mk Bool.true (Body.fl .f32 b5)), (Blk.mk Bool.true (Body.fl .f32 b6)), (Blk.mk Bool.true (Body.fl .f32 b7)), (Blk.mk Bool.true (Body.cells [(At.sl 9 0 q19 1), (At.sl 10 0 q16 1), (At.sl 11 0 q17 1)])), (Blk.mk Bool.true (Body.fl .f32 b9)), (Blk.mk Bool.true (Body.fl .f32 b10)), (Blk.mk Bool.true (Body.fl .f32 b11))]) (fun e st => some (e, st)) = (zeg q0i to q1k t13 b0 b1 b2 q0n q0r q0q q0p q0j q0k b5 b6 b7) (z1m q0i to q1k t13 b0 b1 b2 q0r q0q n t14 q19 q16 q17 b9 b10 b11) := by
  intro n
  induction n with
  | zero => intros; rfl
  | succ n ih =>
    intro t14 q19 q16 q17 b9 b10 b11
    refine Eq.trans (iter_succ ..) (Eq.trans (zng q0i to q1k t13 t14 b0 b1 b2 q0n q0r q0q q0p q0j q0k b5 b6 b7 q19 q16 q17 b9 b10 b11 (nextK 34 3 3 (evC (R := Ex × St) Γ2 (evFn Γ2 8 8) 34 3 fi34.nt fi34.live fi34.nl 8 (findL 3 (loopsIn fi34.code))) n (fun e st => some (e, st)))) (Eq.trans ?_ (zm7 q0i to q1k t13 b0 b1 b2 q0r q0q t14 q19 q16 q17 b9 b10 b11 (zeg q0i to q1k t13 b0 b1 b2 q0n q0r q0q q0p q0j q0k b5 b6 b7) rfl (fun t14' q19' q16' q17' b9' b10' b11' => z1m q0i to q1k t13 b0 b1 b2 q0r q0q n t14' q19' q16' q17' b9' b10' b11') (fun c0_ c1_ c2_ c3_ c4_ c5_ c6_ c7_ => some (c0_, c1_, c2_, c3_, c4_, c5_, c6_, c7_)))))
    exact congrArg (fun kn_ => z5b q0i to q1k t13 b0 b1 b2 q0r q0q t14 q19 q16 q17 b9 b10 b11 kn_ (fun c0_ c1_ c2_ c3_ c4_ c5_ c6_ c7_ => (zeg q0i to q1k t13 b0 b1 b2 q0n q0r q0q q0p q0j q0k b5 b6 b7) (some (c0_, c1_, c2_, c3_, c4_, c5_, c6_, c7_)))) (funext fun t14' => funext fun q19' => funext fun q16' => funext fun q17' => funext fun b9' => funext fun b10' => funext fun b11' => ih t14' q19' q16' q17' b9' b10' b11')
theorem zmf : LoopOne Try.prog fnTab 34 3 zki := lp_of (Γ := Γ2) tyTab_ok (FnL.ok fnTab_ok _ _) (LpL.ok lt2_ok) (SumL.ok tb2_ok _) mixed (fi := fi34) (by kernel_rfl) (by kernel_rfl) (by
  intro lo st out hp
  obtain ⟨hs, e1, e2, e3⟩ := lpT_inv hp
  clear hp
  obtain rfl : st = (St.mk [(1, (AV.v (TV.one (At.flt .f32 (hvN (hGet hs 0)))))), (2, (AV.v (TV.one (At.flt .f32 (hvN (hGet hs 1)))))), (3, (AV.v (TV.one (At.ptr 3 0 3)))), (6, (AV.v (TV.one (At.ptr 4 0 3)))), (7, (AV.v (TV.one (At.ptr 8 0 3)))), (12, (AV.v (TV.one (At.vw 0 0 (hvN (hGet hs 2)) 1)))), (13, (AV.v (TV.one (At.int .i64 (hvI (hGet hs 3)))))), (14, (AV.v (TV.one (At.int .i64 (hvI (hGet hs 4))))))] [(Blk.mk Bool.false (Body.fl .f32 (hvLn (hGet hs 5)))), (Blk.mk Bool.false (Body.fl .f32 (hvLn (hGet hs 6)))), (Blk.mk Bool.false (Body.fl .f32 (hvLn (hGet hs 7)))), (Blk.mk Bool.true (Body.cells [(At.vw 0 0 (hvN (hGet hs 8)) 1), (At.vw 1 0 (hvN (hGet hs 9)) 1), (At.vw 2 0 (hvN (hGet hs 10)) 1)])), (Blk.mk Bool.true (Body.cells [(At.sl 5 0 (hvN (hGet hs 11)) 1), (At.sl 6 0 (hvN (hGet hs 12)) 1), (At.sl 7 0 (hvN (hGet hs 13)) 1)])), (Blk.mk Bool.true (Body.fl .f32 (hvLn (hGet hs 14)))), (Blk.mk Bool.true (Body.fl .f32 (hvLn (hGet hs 15)))), (Blk.mk Bool.true (Body.fl .f32 (hvLn (hGet hs 16)))), (Blk.mk Bool.true (Body.cells [(At.sl 9 0 (hvN (hGet hs 17)) 1), (At.sl 10 0 (hvN (hGet hs 18)) 1), (At.sl 11 0 (hvN (hGet hs 19)) 1)])), (Blk.mk Bool.true (Body.fl .f32 (hvLn (hGet hs 20)))), (Blk.mk Bool.true (Body.fl .f32 (hvLn (hGet hs 21)))), (Blk.mk Bool.true (Body.fl .f32 (hvLn (hGet hs 22))))]) := e2.trans (by kernel_rfl)
  clear e2
  subst e1
  unfold zid at e3
  injection e3 with h1 h2
  subst h2
  exact ⟨8, 8, big, Eq.trans (znf (hvN (hGet hs 0)) (hvN (hGet hs 1)) (hvN (hGet hs 2)) (hvI (hGet hs 3)) (hvLn (hGet hs 5)) (hvLn (hGet hs 6)) (hvLn (hGet hs 7)) (hvN (hGet hs 8)) (hvN (hGet hs 9)) (hvN (hGet hs 10)) (hvN (hGet hs 11)) (hvN (hGet hs 12)) (hvN (hGet hs 13)) (hvLn (hGet hs 14)) (hvLn (hGet hs 15)) (hvLn (hGet hs 16)) big (hvI (hGet hs 4)) (hvN (hGet hs 17)) (hvN (hGet hs 18)) (hvN (hGet hs 19)) (hvLn (hGet hs 20)) (hvLn (hGet hs 21)) (hvLn (hGet hs 22))) (znj (hvN (hGet hs 0)) (hvN (hGet hs 1)) (hvN (hGet hs 2)) (hvI (hGet hs 3)) (hvLn (hGet hs 5)) (hvLn (hGet hs 6)) (hvLn (hGet hs 7)) (hvN (hGet hs 8)) (hvN (hGet hs 9)) (hvN (hGet hs 10)) (hvN (hGet hs 11)) (hvN (hGet hs 12)) (hvN (hGet hs 13)) (hvLn (hGet hs 14)) (hvLn (hGet hs 15)) (hvLn (hGet hs 16)) (z1m (hvN (hGet hs 0)) (hvN (hGet hs 1)) (hvN (hGet hs 2)) (hvI (hGet hs 3)) (hvLn (hGet hs 5)) (hvLn (hGet hs 6)) (hvLn (hGet hs 7)) (hvN (hGet hs 9)) (hvN (hGet hs 10)) big (hvI (hGet hs 4)) (hvN (hGet hs 17)) (hvN (hGet hs 18)) (hvN (hGet hs 19)) (hvLn (hGet hs 20)) (hvLn (hGet hs 21)) (hvLn (hGet hs 22))) h1)⟩)
noncomputable def zdd (t4 : Bool) (t5 : Nat) (t6 : Nat) (t7 : Nat) (t8 : Int) : Bool × LO := ((z1l t6 t7 t8), (LO.one (Ex.exit 0) (St.mk [(4, (AV.v (TV.one (At.bool t4)))), (5, (AV.v (TV.one (At.flt .f64 t5)))), (6, (AV.v (TV.one (At.flt .f64 t6)))), (7, (AV.v (TV.one (At.flt .f64 (z0g t6 t7 t8))))), (8, (AV.v (TV.one (At.int .i64 (z8f t6 t7 t8))))), (44, (AV.v (TV.one (At.bool (z8h t6 t7 t8)))))] [])))
noncomputable def ze8 : Nat → St → Option (Bool × LO) := lpT 0 (pSt [(pTm 4 (pV (pOne pBool))), (pTm 5 (pV (pOne (pFlt .f64)))), (pTm 6 (pV (pOne (pFlt .f64)))), (pTm 7 (pV (pOne (pFlt .f64)))), (pTm 8 (pV (pOne (pInt .i64))))] []) (fun hs => zdd (hvB (hGet hs 0)) (hvN (hGet hs 1)) (hvN (hGet hs 2)) (hvN (hGet hs 3)) (hvI (hGet hs 4)))
def z71 (t4 : Bool) (t5 : Nat) (t6 : Nat) : Option ((Nat × Int × Bool)) → Option (Ex × St)
  | none => none
  | some r => some ((Ex.exit 0), (St.mk [(4, (AV.v (TV.one (At.bool t4)))), (5, (AV.v (TV.one (At.flt .f64 t5)))), (6, (AV.v (TV.one (At.flt .f64 t6)))), (7, (AV.v (TV.one (At.flt .f64 r.1)))), (8, (AV.v (TV.one (At.int .i64 r.2.1)))), (44, (AV.v (TV.one (At.bool r.2.2))))] []))
def zi0 (t4 : Bool) (t5 : Nat) (t6 : Nat) (x : Option ((Nat × Int × Bool))) : LO := (LO.one (Ex.exit 0) (St.mk [(4, (AV.v (TV.one (At.bool t4)))), (5, (AV.v (TV.one (At.flt .f64 t5)))), (6, (AV.v (TV.one (At.flt .f64 t6)))), (7, (AV.v (TV.one (At.flt .f64 (x.getD default).1)))), (8, (AV.v (TV.one (At.int .i64 (x.getD default).2.1)))), (44, (AV.v (TV.one (At.bool (x.getD default).2.2))))] []))
theorem zix (t4 : Bool) (t5 : Nat) (t6 : Nat) : ∀ x : Option ((Nat × Int × Bool)), x.isSome = true → (z71 t4 t5 t6) x = some (pick (zi0 t4 t5 t6 x))
  | none, h => by cases h
  | some r, _ => rfl
theorem ziv (t4 : Bool) (t5 : Nat) (t6 : Nat) (t7 : Nat) (t8 : Int) (K : Ex → St → Option (Ex × St)) : evC (R := Ex × St) Γ2 (evFn Γ2 8 8) 73 0 fi73.nt fi73.live fi73.nl 8 (findL 17 (loopsIn fi73.code)) (St.mk [(4, (AV.v (TV.one (At.bool t4)))), (5, (AV.v (TV.one (At.flt .f64 t5)))), (6, (AV.v (TV.one (At.flt .f64 t6)))), (7, (AV.v (TV.one (At.flt .f64 t7)))), (8, (AV.v (TV.one (At.int .i64 t8))))] []) K = z2g t6 t7 t8 (fun t7' t8' => K .normal (St.mk [(4, (AV.v (TV.one (At.bool t4)))), (5, (AV.v (TV.one (At.flt .f64 t5)))), (6, (AV.v (TV.one (At.flt .f64 t6)))), (7, (AV.v (TV.one (At.flt .f64 t7')))), (8, (AV.v (TV.one (At.int .i64 t8'))))] [])) (fun c0_ c1_ c2_ => K (Ex.exit 0) (St.mk [(4, (AV.v (TV.one (At.bool t4)))), (5, (AV.v (TV.one (At.flt .f64 t5)))), (6, (AV.v (TV.one (At.flt .f64 t6)))), (7, (AV.v (TV.one (At.flt .f64 c0_)))), (8, (AV.v (TV.one (At.int .i64 c1_)))), (44, (AV.v (TV.one (At.bool c2_))))] [])) := by kernel_rfl
theorem zis (t4 : Bool) (t5 : Nat) (t6 : Nat) : ∀ (n : Nat) (t7 : Nat) (t8 : Int), iter 73 17 0 (evC (R := Ex × St) Γ2 (evFn Γ2 8 8) 73 0 fi73.nt fi73.live fi73.nl 8 (findL 17 (loopsIn fi73.code))) n (St.mk [(4, (AV.v (TV.one (At.bool t4)))), (5, (AV.v (TV.one (At.flt .f64 t5)))), (6, (AV.v (TV.one (At.flt .f64 t6)))), (7, (AV.v (TV.one (At.flt .f64 t7)))), (8, (AV.v (TV.one (At.int .i64 t8))))] []) (fun e st => some (e, st)) = (z71 t4 t5 t6) (z12 t6 n t7 t8) := by
  intro n
  induction n with
  | zero => intros; rfl
  | succ n ih =>
    intro t7 t8
    refine Eq.trans (iter_succ ..) (Eq.trans (ziv t4 t5 t6 t7 t8 (nextK 73 17 0 (evC (R := Ex × St) Γ2 (evFn Γ2 8 8) 73 0 fi73.nt fi73.live fi73.nl 8 (findL 17 (loopsIn fi73.code))) n (fun e st => some (e, st)))) (Eq.trans ?_ (zgr t6 t7 t8 (z71 t4 t5 t6) rfl (fun t7' t8' => z12 t6 n t7' t8') (fun c0_ c1_ c2_ => some (c0_, c1_, c2_)))))
    exact congrArg (fun kn_ => z2g t6 t7 t8 kn_ (fun c0_ c1_ c2_ => (z71 t4 t5 t6) (some (c0_, c1_, c2_)))) (funext fun t7' => funext fun t8' => ih t7' t8')
theorem zh9 : LoopOne Try.prog fnTab 73 17 ze8 := lp_of (Γ := Γ2) tyTab_ok (FnL.ok fnTab_ok _ _) (LpL.ok lt2_ok) (SumL.ok tb2_ok _) mixed (fi := fi73) (by kernel_rfl) (by kernel_rfl) (by
  intro lo st out hp
  obtain ⟨hs, e1, e2, e3⟩ := lpT_inv hp
  clear hp
  obtain rfl : st = (St.mk [(4, (AV.v (TV.one (At.bool (hvB (hGet hs 0)))))), (5, (AV.v (TV.one (At.flt .f64 (hvN (hGet hs 1)))))), (6, (AV.v (TV.one (At.flt .f64 (hvN (hGet hs 2)))))), (7, (AV.v (TV.one (At.flt .f64 (hvN (hGet hs 3)))))), (8, (AV.v (TV.one (At.int .i64 (hvI (hGet hs 4))))))] []) := e2.trans (by kernel_rfl)
  clear e2
  subst e1
  unfold zdd at e3
  injection e3 with h1 h2
  subst h2
  exact ⟨8, 8, big, Eq.trans (zis (hvB (hGet hs 0)) (hvN (hGet hs 1)) (hvN (hGet hs 2)) big (hvN (hGet hs 3)) (hvI (hGet hs 4))) (zix (hvB (hGet hs 0)) (hvN (hGet hs 1)) (hvN (hGet hs 2)) (z12 (hvN (hGet hs 2)) big (hvN (hGet hs 3)) (hvI (hGet hs 4))) h1)⟩)
noncomputable def tb3 : List (Nat × (List PT → Option (Bool × AV × List Blk))) := (39, z9j) :: (55, ze5) :: (61, z9k) :: tb2
noncomputable def lt3 : List ((Nat × Nat) × (Nat → St → Option (Bool × LO))) := ((34, 3), zki) :: ((73, 17), ze8) :: lt2
noncomputable def Γ3 : Ctx := ⟨tyTab, fnTab, tblSum tb3, tblLp lt3⟩
theorem tb3_ok : SumL Try.prog tb3 := SumL.cons zgl (SumL.cons zkb (SumL.cons zgg (tb2_ok)))
theorem lt3_ok : LpL Try.prog fnTab lt3 := LpL.cons zmf (LpL.cons zh9 (lt2_ok))
noncomputable def zk5 : List PT → Option (Bool × AV × List Blk)
  | [.agg [.row 1 q03 (.fl .f32 q09), .row 1 q05 (.fl .f32 q0d), .row 1 q04 (.fl .f32 q0c)], .one (.s (.flt .f32 q0i)), .one (.s (.flt .f32 to))] => some ((zhe q03 q09 q05 q0d q04 q0c q0i to), ((AV.v (TV.agg [(At.sl 0 0 (z8m q03 q09 q05 q0d q04 q0c q0i to) 1), (At.sl 1 0 (z8k q03 q09 q05 q0d q04 q0c q0i to) 1), (At.sl 2 0 (z8n q03 q09 q05 q0d q04 q0c q0i to) 1)])), [(Blk.mk Bool.true (Body.fl .f32 (zcr q03 q09 q05 q0d q04 q0c q0i to))), (Blk.mk Bool.true (Body.fl .f32 (zcs q03 q09 q05 q0d q04 q0c q0i to))), (Blk.mk Bool.true (Body.fl .f32 (zcq q03 q09 q05 q0d q04 q0c q0i to)))]))
  | _ => none
def zms (q03 : Nat) (q09 : List Nat) (q05 : Nat) (q0d : List Nat) (q04 : Nat) (q0c : List Nat) (q0i : Nat) (to : Nat) : Option (Nat × Nat × Nat × (List Nat) × (List Nat) × (List Nat)) → Option (AV × List Blk)
  | some r => some ((AV.v (TV.agg [(At.sl 0 0 r.1 1), (At.sl 1 0 r.2.1 1), (At.sl 2 0 r.2.2.1 1)])), [(Blk.mk Bool.true (Body.fl .f32 r.2.2.2.1)), (Blk.mk Bool.true (Body.fl .f32 r.2.2.2.2.1)), (Blk.mk Bool.true (Body.fl .f32 r.2.2.2.2.2))])
  | none => none
theorem znx (q03 : Nat) (q09 : List Nat) (q05 : Nat) (q0d : List Nat) (q04 : Nat) (q0c : List Nat) (q0i : Nat) (to : Nat) : evFn Γ3 8 8 34 (impTs 0 [.agg [.row 1 q03 (.fl .f32 q09), .row 1 q05 (.fl .f32 q0d), .row 1 q04 (.fl .f32 q0c)], .one (.s (.flt .f32 q0i)), .one (.s (.flt .f32 to))]).1 (impTs 0 [.agg [.row 1 q03 (.fl .f32 q09), .row 1 q05 (.fl .f32 q0d), .row 1 q04 (.fl .f32 q0c)], .one (.s (.flt .f32 q0i)), .one (.s (.flt .f32 to))]).2 (expo (impTs 0 [.agg [.row 1 q03 (.fl .f32 q09), .row 1 q05 (.fl .f32 q0d), .row 1 q04 (.fl .f32 q0c)], .one (.s (.flt .f32 q0i)), .one (.s (.flt .f32 to))]).2.length) = zdp q03 q09 q05 q0d q04 q0c q0i to (fun c0_ c1_ c2_ c3_ c4_ c5_ => some ((AV.v (TV.agg [(At.sl 0 0 c0_ 1), (At.sl 1 0 c1_ 1), (At.sl 2 0 c2_ 1)])), [(Blk.mk Bool.true (Body.fl .f32 c3_)), (Blk.mk Bool.true (Body.fl .f32 c4_)), (Blk.mk Bool.true (Body.fl .f32 c5_))])) := by kernel_rfl
theorem zni : SumOne Try.prog 34 zk5 := sum_of (Γ := Γ3) (fuel := 8) (d := 8) tyTab_ok (FnL.ok fnTab_ok _ _) (LpL.ok lt3_ok) (SumL.ok tb3_ok _) mixed (by
  intro pts v news hp hc
  clear hc
  unfold zk5 at hp
  split at hp
  · rename_i q03 q09 q05 q0d q04 q0c q0i to
    exact Eq.trans (Eq.trans (znx q03 q09 q05 q0d q04 q0c q0i to) (znb q03 q09 q05 q0d q04 q0c q0i to (zms q03 q09 q05 q0d q04 q0c q0i to) rfl (fun c0_ c1_ c2_ c3_ c4_ c5_ => some (c0_, c1_, c2_, c3_, c4_, c5_)))) (fin_out (o := (zms q03 q09 q05 q0d q04 q0c q0i to)) (x := z65 q03 q09 q05 q0d q04 q0c q0i to) (d := default) (V := fun r => ((AV.v (TV.agg [(At.sl 0 0 r.1 1), (At.sl 1 0 r.2.1 1), (At.sl 2 0 r.2.2.1 1)])), [(Blk.mk Bool.true (Body.fl .f32 r.2.2.2.1)), (Blk.mk Bool.true (Body.fl .f32 r.2.2.2.2.1)), (Blk.mk Bool.true (Body.fl .f32 r.2.2.2.2.2))])) (fun r => rfl) hp)
  · cases hp)
noncomputable def z7v : List PT → Option (Bool × AV × List Blk)
  | [.one (.row 1 s_n (.fl .f32 s)), .one (.s (.flt .f32 v))] => some ((z5c s_n s v), ((AV.v (TV.one (At.bool (z4y s_n s v)))), []))
  | _ => none
def zcg (s_n : Nat) (s : List Nat) (v : Nat) : Option (Bool) → Option (AV × List Blk)
  | some r => some ((AV.v (TV.one (At.bool r))), [])
  | none => none
theorem zgq (s_n : Nat) (s : List Nat) (v : Nat) : evFn Γ3 8 8 44 (impTs 0 [.one (.row 1 s_n (.fl .f32 s)), .one (.s (.flt .f32 v))]).1 (impTs 0 [.one (.row 1 s_n (.fl .f32 s)), .one (.s (.flt .f32 v))]).2 (expo (impTs 0 [.one (.row 1 s_n (.fl .f32 s)), .one (.s (.flt .f32 v))]).2.length) = z36 s_n s v (fun c0_ => some ((AV.v (TV.one (At.bool c0_))), [])) := by kernel_rfl
theorem zfi : SumOne Try.prog 44 z7v := sum_of (Γ := Γ3) (fuel := 8) (d := 8) tyTab_ok (FnL.ok fnTab_ok _ _) (LpL.ok lt3_ok) (SumL.ok tb3_ok _) mixed (by
  intro pts v news hp hc
  clear hc
  unfold z7v at hp
  split at hp
  · rename_i s_n s v
    exact Eq.trans (Eq.trans (zgq s_n s v) (zfc s_n s v (zcg s_n s v) rfl (fun c0_ => some c0_))) (fin_out (o := (zcg s_n s v)) (x := z38 s_n s v) (d := default) (V := fun r => ((AV.v (TV.one (At.bool r))), [])) (fun r => rfl) hp)
  · cases hp)
noncomputable def zd8 : List PT → Option (Bool × AV × List Blk)
  | [.one (.s (.flt .f64 q01))] => some ((z9u q01), ((AV.v (TV.one (At.flt .f64 (z6l q01)))), []))
  | _ => none
def zfz (q01 : Nat) : Option (Nat) → Option (AV × List Blk)
  | some r => some ((AV.v (TV.one (At.flt .f64 r))), [])
  | none => none
theorem zlb (q01 : Nat) : evFn Γ3 8 8 73 (impTs 0 [.one (.s (.flt .f64 q01))]).1 (impTs 0 [.one (.s (.flt .f64 q01))]).2 (expo (impTs 0 [.one (.s (.flt .f64 q01))]).2.length) = z46 q01 (fun c0_ => some ((AV.v (TV.one (At.flt .f64 c0_))), [])) := by kernel_rfl
theorem zjn : SumOne Try.prog 73 zd8 := sum_of (Γ := Γ3) (fuel := 8) (d := 8) tyTab_ok (FnL.ok fnTab_ok _ _) (LpL.ok lt3_ok) (SumL.ok tb3_ok _) mixed (by
  intro pts v news hp hc
  clear hc
  unfold zd8 at hp
  split at hp
  · rename_i q01
    exact Eq.trans (Eq.trans (zlb q01) (zj0 q01 (zfz q01) rfl (fun c0_ => some c0_))) (fin_out (o := (zfz q01)) (x := z3c q01) (d := default) (V := fun r => ((AV.v (TV.one (At.flt .f64 r))), [])) (fun r => rfl) hp)
  · cases hp)
noncomputable def z4h (s2n : Nat) (q1u : Nat) (t16 : Int) (t17 : Int) (b0 : List Nat) (b1 : List Nat) : Bool × LO := ((z0l s2n q1u t16 b0 b1 t17), (LO.two (z0j s2n q1u t16 b0 b1 t17) (LO.one Ex.ret (St.mk [(6, (AV.v (TV.one (At.bool Bool.false))))] [(Blk.mk Bool.false (Body.fl .f32 b0)), (Blk.mk Bool.false (Body.fl .f32 b1))])) (LO.one (Ex.exit 0) (St.mk [(1, (AV.v (TV.one (At.vw 1 0 s2n 1)))), (2, (AV.v (TV.one (At.fn 60 [])))), (15, (AV.v (TV.one (At.vw 0 0 q1u 1)))), (16, (AV.v (TV.one (At.int .i64 t16)))), (17, (AV.v (TV.one (At.int .i64 (z2m s2n q1u t16 b0 b1 t17))))), (18, (AV.v (TV.one (At.bool (z2n s2n q1u t16 b0 b1 t17)))))] [(Blk.mk Bool.false (Body.fl .f32 b0)), (Blk.mk Bool.false (Body.fl .f32 b1))]))))
noncomputable def z4p : Nat → St → Option (Bool × LO) := lpT 2 (pSt [(pTm 1 (pV (pOne (pVw 1 (liN 0) 1)))), (pTm 2 (pV (pOne (pFn 60 [])))), (pTm 15 (pV (pOne (pVw 0 (liN 0) 1)))), (pTm 16 (pV (pOne (pInt .i64)))), (pTm 17 (pV (pOne (pInt .i64))))] [(pBlk Bool.false (pFl .f32)), (pBlk Bool.false (pFl .f32))]) (fun hs => z4h (hvN (hGet hs 0)) (hvN (hGet hs 1)) (hvI (hGet hs 2)) (hvI (hGet hs 3)) (hvLn (hGet hs 4)) (hvLn (hGet hs 5)))
def z1b (s2n : Nat) (q1u : Nat) (t16 : Int) (b0 : List Nat) (b1 : List Nat) : Option ((Unit) ⊕ (Int × Bool)) → Option (Ex × St)
  | none => none
  | some (Sum.inl r) => some (Ex.ret, (St.mk [(6, (AV.v (TV.one (At.bool Bool.false))))] [(Blk.mk Bool.false (Body.fl .f32 b0)), (Blk.mk Bool.false (Body.fl .f32 b1))]))
  | some (Sum.inr r) => some ((Ex.exit 0), (St.mk [(1, (AV.v (TV.one (At.vw 1 0 s2n 1)))), (2, (AV.v (TV.one (At.fn 60 [])))), (15, (AV.v (TV.one (At.vw 0 0 q1u 1)))), (16, (AV.v (TV.one (At.int .i64 t16)))), (17, (AV.v (TV.one (At.int .i64 r.1)))), (18, (AV.v (TV.one (At.bool r.2))))] [(Blk.mk Bool.false (Body.fl .f32 b0)), (Blk.mk Bool.false (Body.fl .f32 b1))]))
def z82 (s2n : Nat) (q1u : Nat) (t16 : Int) (b0 : List Nat) (b1 : List Nat) (x : Option ((Unit) ⊕ (Int × Bool))) : LO := (LO.two (oL x) (LO.one Ex.ret (St.mk [(6, (AV.v (TV.one (At.bool Bool.false))))] [(Blk.mk Bool.false (Body.fl .f32 b0)), (Blk.mk Bool.false (Body.fl .f32 b1))])) (LO.one (Ex.exit 0) (St.mk [(1, (AV.v (TV.one (At.vw 1 0 s2n 1)))), (2, (AV.v (TV.one (At.fn 60 [])))), (15, (AV.v (TV.one (At.vw 0 0 q1u 1)))), (16, (AV.v (TV.one (At.int .i64 t16)))), (17, (AV.v (TV.one (At.int .i64 ((tR x).getD default).1)))), (18, (AV.v (TV.one (At.bool ((tR x).getD default).2))))] [(Blk.mk Bool.false (Body.fl .f32 b0)), (Blk.mk Bool.false (Body.fl .f32 b1))])))
theorem z8a (s2n : Nat) (q1u : Nat) (t16 : Int) (b0 : List Nat) (b1 : List Nat) : ∀ x : Option ((Unit) ⊕ (Int × Bool)), x.isSome = true → (z1b s2n q1u t16 b0 b1) x = some (pick (z82 s2n q1u t16 b0 b1 x))
  | none, h => by cases h
  | some (Sum.inl r), _ => rfl
  | some (Sum.inr r), _ => rfl
theorem z85 (s2n : Nat) (q1u : Nat) (t16 : Int) (t17 : Int) (b0 : List Nat) (b1 : List Nat) (K : Ex → St → Option (Ex × St)) : evC (R := Ex × St) Γ3 (evFn Γ3 8 8) 59 2 fi59.nt fi59.live fi59.nl 8 (findL 4 (loopsIn fi59.code)) (St.mk [(1, (AV.v (TV.one (At.vw 1 0 s2n 1)))), (2, (AV.v (TV.one (At.fn 60 [])))), (15, (AV.v (TV.one (At.vw 0 0 q1u 1)))), (16, (AV.v (TV.one (At.int .i64 t16)))), (17, (AV.v (TV.one (At.int .i64 t17))))] [(Blk.mk Bool.false (Body.fl .f32 b0)), (Blk.mk Bool.false (Body.fl .f32 b1))]) K = z0h s2n q1u t16 b0 b1 t17 (fun t17' => K .normal (St.mk [(1, (AV.v (TV.one (At.vw 1 0 s2n 1)))), (2, (AV.v (TV.one (At.fn 60 [])))), (15, (AV.v (TV.one (At.vw 0 0 q1u 1)))), (16, (AV.v (TV.one (At.int .i64 t16)))), (17, (AV.v (TV.one (At.int .i64 t17'))))] [(Blk.mk Bool.false (Body.fl .f32 b0)), (Blk.mk Bool.false (Body.fl .f32 b1))])) (fun _ => K Ex.ret (St.mk [(6, (AV.v (TV.one (At.bool Bool.false))))] [(Blk.mk Bool.false (Body.fl .f32 b0)), (Blk.mk Bool.false (Body.fl .f32 b1))])) (fun c0_ c1_ => K (Ex.exit 0) (St.mk [(1, (AV.v (TV.one (At.vw 1 0 s2n 1)))), (2, (AV.v (TV.one (At.fn 60 [])))), (15, (AV.v (TV.one (At.vw 0 0 q1u 1)))), (16, (AV.v (TV.one (At.int .i64 t16)))), (17, (AV.v (TV.one (At.int .i64 c0_)))), (18, (AV.v (TV.one (At.bool c1_))))] [(Blk.mk Bool.false (Body.fl .f32 b0)), (Blk.mk Bool.false (Body.fl .f32 b1))])) := by kernel_rfl
theorem z83 (s2n : Nat) (q1u : Nat) (t16 : Int) (b0 : List Nat) (b1 : List Nat) : ∀ (n : Nat) (t17 : Int), iter 59 4 2 (evC (R := Ex × St) Γ3 (evFn Γ3 8 8) 59 2 fi59.nt fi59.live fi59.nl 8 (findL 4 (loopsIn fi59.code))) n (St.mk [(1, (AV.v (TV.one (At.vw 1 0 s2n 1)))), (2, (AV.v (TV.one (At.fn 60 [])))), (15, (AV.v (TV.one (At.vw 0 0 q1u 1)))), (16, (AV.v (TV.one (At.int .i64 t16)))), (17, (AV.v (TV.one (At.int .i64 t17))))] [(Blk.mk Bool.false (Body.fl .f32 b0)), (Blk.mk Bool.false (Body.fl .f32 b1))]) (fun e st => some (e, st)) = (z1b s2n q1u t16 b0 b1) (z09 s2n q1u t16 b0 b1 n t17) := by
  intro n
  induction n with
  | zero => intros; rfl
  | succ n ih =>
    intro t17
    refine Eq.trans (iter_succ ..) (Eq.trans (z85 s2n q1u t16 t17 b0 b1 (nextK 59 4 2 (evC (R := Ex × St) Γ3 (evFn Γ3 8 8) 59 2 fi59.nt fi59.live fi59.nl 8 (findL 4 (loopsIn fi59.code))) n (fun e st => some (e, st)))) (Eq.trans ?_ (z76 s2n q1u t16 b0 b1 t17 (z1b s2n q1u t16 b0 b1) rfl (fun t17' => z09 s2n q1u t16 b0 b1 n t17') (fun _ => some (Sum.inl ())) (fun c0_ c1_ => some (Sum.inr (c0_, c1_))))))
    exact congrArg (fun kn_ => z0h s2n q1u t16 b0 b1 t17 kn_ (fun _ => (z1b s2n q1u t16 b0 b1) (some (Sum.inl ()))) (fun c0_ c1_ => (z1b s2n q1u t16 b0 b1) (some (Sum.inr (c0_, c1_))))) (funext fun t17' => ih t17')
theorem z78 : LoopOne Try.prog fnTab 59 4 z4p := lp_of (Γ := Γ3) tyTab_ok (FnL.ok fnTab_ok _ _) (LpL.ok lt3_ok) (SumL.ok tb3_ok _) mixed (fi := fi59) (by kernel_rfl) (by kernel_rfl) (by
  intro lo st out hp
  obtain ⟨hs, e1, e2, e3⟩ := lpT_inv hp
  clear hp
  obtain rfl : st = (St.mk [(1, (AV.v (TV.one (At.vw 1 0 (hvN (hGet hs 0)) 1)))), (2, (AV.v (TV.one (At.fn 60 [])))), (15, (AV.v (TV.one (At.vw 0 0 (hvN (hGet hs 1)) 1)))), (16, (AV.v (TV.one (At.int .i64 (hvI (hGet hs 2)))))), (17, (AV.v (TV.one (At.int .i64 (hvI (hGet hs 3))))))] [(Blk.mk Bool.false (Body.fl .f32 (hvLn (hGet hs 4)))), (Blk.mk Bool.false (Body.fl .f32 (hvLn (hGet hs 5))))]) := e2.trans (by kernel_rfl)
  clear e2
  subst e1
  unfold z4h at e3
  injection e3 with h1 h2
  subst h2
  exact ⟨8, 8, big, Eq.trans (z83 (hvN (hGet hs 0)) (hvN (hGet hs 1)) (hvI (hGet hs 2)) (hvLn (hGet hs 4)) (hvLn (hGet hs 5)) big (hvI (hGet hs 3))) (z8a (hvN (hGet hs 0)) (hvN (hGet hs 1)) (hvI (hGet hs 2)) (hvLn (hGet hs 4)) (hvLn (hGet hs 5)) (z09 (hvN (hGet hs 0)) (hvN (hGet hs 1)) (hvI (hGet hs 2)) (hvLn (hGet hs 4)) (hvLn (hGet hs 5)) big (hvI (hGet hs 3))) h1)⟩)
noncomputable def z55 (sn : Nat) (t7 : Int) (t8 : Int) (b0 : List Nat) : Bool × LO := ((z1g sn t7 b0 t8), (LO.two (z1a sn t7 b0 t8) (LO.one Ex.ret (St.mk [(4, (AV.v (TV.one (At.int .i64 (z2d sn t7 b0 t8)))))] [(Blk.mk Bool.false (Body.fl .f32 b0))])) (LO.one (Ex.exit 0) (St.mk [(0, (AV.v (TV.one (At.vw 0 0 sn 1)))), (1, (AV.v (TV.one (At.fn 54 [])))), (7, (AV.v (TV.one (At.int .i64 t7)))), (8, (AV.v (TV.one (At.int .i64 (z3b sn t7 b0 t8))))), (9, (AV.v (TV.one (At.bool (z39 sn t7 b0 t8)))))] [(Blk.mk Bool.false (Body.fl .f32 b0))]))))
noncomputable def z5u : Nat → St → Option (Bool × LO) := lpT 1 (pSt [(pTm 0 (pV (pOne (pVw 0 (liN 0) 1)))), (pTm 1 (pV (pOne (pFn 54 [])))), (pTm 7 (pV (pOne (pInt .i64)))), (pTm 8 (pV (pOne (pInt .i64))))] [(pBlk Bool.false (pFl .f32))]) (fun hs => z55 (hvN (hGet hs 0)) (hvI (hGet hs 1)) (hvI (hGet hs 2)) (hvLn (hGet hs 3)))
def z21 (sn : Nat) (t7 : Int) (b0 : List Nat) : Option ((Int) ⊕ (Int × Bool)) → Option (Ex × St)
  | none => none
  | some (Sum.inl r) => some (Ex.ret, (St.mk [(4, (AV.v (TV.one (At.int .i64 r))))] [(Blk.mk Bool.false (Body.fl .f32 b0))]))
  | some (Sum.inr r) => some ((Ex.exit 0), (St.mk [(0, (AV.v (TV.one (At.vw 0 0 sn 1)))), (1, (AV.v (TV.one (At.fn 54 [])))), (7, (AV.v (TV.one (At.int .i64 t7)))), (8, (AV.v (TV.one (At.int .i64 r.1)))), (9, (AV.v (TV.one (At.bool r.2))))] [(Blk.mk Bool.false (Body.fl .f32 b0))]))
def zat (sn : Nat) (t7 : Int) (b0 : List Nat) (x : Option ((Int) ⊕ (Int × Bool))) : LO := (LO.two (oL x) (LO.one Ex.ret (St.mk [(4, (AV.v (TV.one (At.int .i64 ((tL x).getD default)))))] [(Blk.mk Bool.false (Body.fl .f32 b0))])) (LO.one (Ex.exit 0) (St.mk [(0, (AV.v (TV.one (At.vw 0 0 sn 1)))), (1, (AV.v (TV.one (At.fn 54 [])))), (7, (AV.v (TV.one (At.int .i64 t7)))), (8, (AV.v (TV.one (At.int .i64 ((tR x).getD default).1)))), (9, (AV.v (TV.one (At.bool ((tR x).getD default).2))))] [(Blk.mk Bool.false (Body.fl .f32 b0))])))
theorem zb6 (sn : Nat) (t7 : Int) (b0 : List Nat) : ∀ x : Option ((Int) ⊕ (Int × Bool)), x.isSome = true → (z21 sn t7 b0) x = some (pick (zat sn t7 b0 x))
  | none, h => by cases h
  | some (Sum.inl r), _ => rfl
  | some (Sum.inr r), _ => rfl
theorem zbb (sn : Nat) (t7 : Int) (t8 : Int) (b0 : List Nat) (K : Ex → St → Option (Ex × St)) : evC (R := Ex × St) Γ3 (evFn Γ3 8 8) 66 1 fi66.nt fi66.live fi66.nl 8 (findL 2 (loopsIn fi66.code)) (St.mk [(0, (AV.v (TV.one (At.vw 0 0 sn 1)))), (1, (AV.v (TV.one (At.fn 54 [])))), (7, (AV.v (TV.one (At.int .i64 t7)))), (8, (AV.v (TV.one (At.int .i64 t8))))] [(Blk.mk Bool.false (Body.fl .f32 b0))]) K = z0o sn t7 b0 t8 (fun t8' => K .normal (St.mk [(0, (AV.v (TV.one (At.vw 0 0 sn 1)))), (1, (AV.v (TV.one (At.fn 54 [])))), (7, (AV.v (TV.one (At.int .i64 t7)))), (8, (AV.v (TV.one (At.int .i64 t8'))))] [(Blk.mk Bool.false (Body.fl .f32 b0))])) (fun c0_ => K Ex.ret (St.mk [(4, (AV.v (TV.one (At.int .i64 c0_))))] [(Blk.mk Bool.false (Body.fl .f32 b0))])) (fun c0_ c1_ => K (Ex.exit 0) (St.mk [(0, (AV.v (TV.one (At.vw 0 0 sn 1)))), (1, (AV.v (TV.one (At.fn 54 [])))), (7, (AV.v (TV.one (At.int .i64 t7)))), (8, (AV.v (TV.one (At.int .i64 c0_)))), (9, (AV.v (TV.one (At.bool c1_))))] [(Blk.mk Bool.false (Body.fl .f32 b0))])) := by kernel_rfl
theorem zbl (sn : Nat) (t7 : Int) (b0 : List Nat) : ∀ (n : Nat) (t8 : Int), iter 66 2 1 (evC (R := Ex × St) Γ3 (evFn Γ3 8 8) 66 1 fi66.nt fi66.live fi66.nl 8 (findL 2 (loopsIn fi66.code))) n (St.mk [(0, (AV.v (TV.one (At.vw 0 0 sn 1)))), (1, (AV.v (TV.one (At.fn 54 [])))), (7, (AV.v (TV.one (At.int .i64 t7)))), (8, (AV.v (TV.one (At.int .i64 t8))))] [(Blk.mk Bool.false (Body.fl .f32 b0))]) (fun e st => some (e, st)) = (z21 sn t7 b0) (z0c sn t7 b0 n t8) := by
  intro n
  induction n with
  | zero => intros; rfl
  | succ n ih =>
    intro t8
    refine Eq.trans (iter_succ ..) (Eq.trans (zbb sn t7 t8 b0 (nextK 66 2 1 (evC (R := Ex × St) Γ3 (evFn Γ3 8 8) 66 1 fi66.nt fi66.live fi66.nl 8 (findL 2 (loopsIn fi66.code))) n (fun e st => some (e, st)))) (Eq.trans ?_ (z9i sn t7 b0 t8 (z21 sn t7 b0) rfl (fun t8' => z0c sn t7 b0 n t8') (fun c0_ => some (Sum.inl c0_)) (fun c0_ c1_ => some (Sum.inr (c0_, c1_))))))
    exact congrArg (fun kn_ => z0o sn t7 b0 t8 kn_ (fun c0_ => (z21 sn t7 b0) (some (Sum.inl c0_))) (fun c0_ c1_ => (z21 sn t7 b0) (some (Sum.inr (c0_, c1_))))) (funext fun t8' => ih t8')
theorem za5 : LoopOne Try.prog fnTab 66 2 z5u := lp_of (Γ := Γ3) tyTab_ok (FnL.ok fnTab_ok _ _) (LpL.ok lt3_ok) (SumL.ok tb3_ok _) mixed (fi := fi66) (by kernel_rfl) (by kernel_rfl) (by
  intro lo st out hp
  obtain ⟨hs, e1, e2, e3⟩ := lpT_inv hp
  clear hp
  obtain rfl : st = (St.mk [(0, (AV.v (TV.one (At.vw 0 0 (hvN (hGet hs 0)) 1)))), (1, (AV.v (TV.one (At.fn 54 [])))), (7, (AV.v (TV.one (At.int .i64 (hvI (hGet hs 1)))))), (8, (AV.v (TV.one (At.int .i64 (hvI (hGet hs 2))))))] [(Blk.mk Bool.false (Body.fl .f32 (hvLn (hGet hs 3))))]) := e2.trans (by kernel_rfl)
  clear e2
  subst e1
  unfold z55 at e3
  injection e3 with h1 h2
  subst h2
  exact ⟨8, 8, big, Eq.trans (zbl (hvN (hGet hs 0)) (hvI (hGet hs 1)) (hvLn (hGet hs 3)) big (hvI (hGet hs 2))) (zb6 (hvN (hGet hs 0)) (hvI (hGet hs 1)) (hvLn (hGet hs 3)) (z0c (hvN (hGet hs 0)) (hvI (hGet hs 1)) (hvLn (hGet hs 3)) big (hvI (hGet hs 2))) h1)⟩)
noncomputable def tb4 : List (Nat × (List PT → Option (Bool × AV × List Blk))) := (34, zk5) :: (44, z7v) :: (73, zd8) :: tb3
noncomputable def lt4 : List ((Nat × Nat) × (Nat → St → Option (Bool × LO))) := ((59, 4), z4p) :: ((66, 2), z5u) :: lt3
noncomputable def Γ4 : Ctx := ⟨tyTab, fnTab, tblSum tb4, tblLp lt4⟩
theorem tb4_ok : SumL Try.prog tb4 := SumL.cons zni (SumL.cons zfi (SumL.cons zjn (tb3_ok)))
theorem lt4_ok : LpL Try.prog fnTab lt4 := LpL.cons z78 (LpL.cons za5 (lt3_ok))
noncomputable def z33 : List PT → Option (Bool × AV × List Blk)
  | [.one (.row 1 q1p (.fl .f32 s1)), .one (.row 1 q1q (.fl .f32 s2)), .fn 60 []] => some ((z29 q1p s1 q1q s2), ((AV.v (TV.one (At.bool (z28 q1p s1 q1q s2)))), []))
  | _ => none
def z4q (q1p : Nat) (s1 : List Nat) (q1q : Nat) (s2 : List Nat) : Option (Bool) → Option (AV × List Blk)
  | some r => some ((AV.v (TV.one (At.bool r))), [])
  | none => none
theorem z9c (q1p : Nat) (s1 : List Nat) (q1q : Nat) (s2 : List Nat) : evFn Γ4 8 8 59 (impTs 0 [.one (.row 1 q1p (.fl .f32 s1)), .one (.row 1 q1q (.fl .f32 s2)), .fn 60 []]).1 (impTs 0 [.one (.row 1 q1p (.fl .f32 s1)), .one (.row 1 q1q (.fl .f32 s2)), .fn 60 []]).2 (expo (impTs 0 [.one (.row 1 q1p (.fl .f32 s1)), .one (.row 1 q1q (.fl .f32 s2)), .fn 60 []]).2.length) = z14 q1p s1 q1q s2 (fun c0_ => some ((AV.v (TV.one (At.bool c0_))), [])) := by kernel_rfl
theorem z8d : SumOne Try.prog 59 z33 := sum_of (Γ := Γ4) (fuel := 8) (d := 8) tyTab_ok (FnL.ok fnTab_ok _ _) (LpL.ok lt4_ok) (SumL.ok tb4_ok _) mixed (by
  intro pts v news hp hc
  clear hc
  unfold z33 at hp
  split at hp
  · rename_i q1p s1 q1q s2
    exact Eq.trans (Eq.trans (z9c q1p s1 q1q s2) (z81 q1p s1 q1q s2 (z4q q1p s1 q1q s2) rfl (fun c0_ => some c0_))) (fin_out (o := (z4q q1p s1 q1q s2)) (x := z13 q1p s1 q1q s2) (d := default) (V := fun r => ((AV.v (TV.one (At.bool r))), [])) (fun r => rfl) hp)
  · cases hp)
noncomputable def zft : List PT → Option (Bool × AV × List Blk)
  | [.one (.s (.flt .f32 x))] => some ((z6t x), ((AV.v (TV.one (At.flt .f32 (z27 x)))), []))
  | _ => none
def zjt (x : Nat) : Option (Nat) → Option (AV × List Blk)
  | some r => some ((AV.v (TV.one (At.flt .f32 r))), [])
  | none => none
theorem zn8 (x : Nat) : evFn Γ4 8 8 64 (impTs 0 [.one (.s (.flt .f32 x))]).1 (impTs 0 [.one (.s (.flt .f32 x))]).2 (expo (impTs 0 [.one (.s (.flt .f32 x))]).2.length) = z8t x (fun c0_ => some ((AV.v (TV.one (At.flt .f32 c0_))), [])) := by kernel_rfl
theorem zlu : SumOne Try.prog 64 zft := sum_of (Γ := Γ4) (fuel := 8) (d := 8) tyTab_ok (FnL.ok fnTab_ok _ _) (LpL.ok lt4_ok) (SumL.ok tb4_ok _) mixed (by
  intro pts v news hp hc
  clear hc
  unfold zft at hp
  split at hp
  · rename_i x
    exact Eq.trans (Eq.trans (zn8 x) (zlg x (zjt x) rfl (fun c0_ => some c0_))) (fin_out (o := (zjt x)) (x := z6x x) (d := default) (V := fun r => ((AV.v (TV.one (At.flt .f32 r))), [])) (fun r => rfl) hp)
  · cases hp)
noncomputable def z4j : List PT → Option (Bool × AV × List Blk)
  | [.one (.row 1 s_n (.fl .f32 s)), .fn 54 []] => some ((z2z s_n s), ((AV.v (TV.one (At.int .i64 (z2x s_n s)))), []))
  | _ => none
def z6f (s_n : Nat) (s : List Nat) : Option (Int) → Option (AV × List Blk)
  | some r => some ((AV.v (TV.one (At.int .i64 r))), [])
  | none => none
theorem zcm (s_n : Nat) (s : List Nat) : evFn Γ4 8 8 66 (impTs 0 [.one (.row 1 s_n (.fl .f32 s)), .fn 54 []]).1 (impTs 0 [.one (.row 1 s_n (.fl .f32 s)), .fn 54 []]).2 (expo (impTs 0 [.one (.row 1 s_n (.fl .f32 s)), .fn 54 []]).2.length) = z1n s_n s (fun c0_ => some ((AV.v (TV.one (At.int .i64 c0_))), [])) := by kernel_rfl
theorem zb3 : SumOne Try.prog 66 z4j := sum_of (Γ := Γ4) (fuel := 8) (d := 8) tyTab_ok (FnL.ok fnTab_ok _ _) (LpL.ok lt4_ok) (SumL.ok tb4_ok _) mixed (by
  intro pts v news hp hc
  clear hc
  unfold z4j at hp
  split at hp
  · rename_i s_n s
    exact Eq.trans (Eq.trans (zcm s_n s) (zav s_n s (z6f s_n s) rfl (fun c0_ => some c0_))) (fin_out (o := (z6f s_n s)) (x := z1o s_n s) (d := default) (V := fun r => ((AV.v (TV.one (At.int .i64 r))), [])) (fun r => rfl) hp)
  · cases hp)
noncomputable def z5d (sn : Nat) (t7 : Int) (t8 : Int) (b0 : List Nat) : Bool × LO := ((z1i sn t7 b0 t8), (LO.two (z1d sn t7 b0 t8) (LO.one Ex.ret (St.mk [(4, (AV.v (TV.one (At.int .i64 (z2f sn t7 b0 t8)))))] [(Blk.mk Bool.false (Body.fl .f32 b0))])) (LO.one (Ex.exit 0) (St.mk [(0, (AV.v (TV.one (At.vw 0 0 sn 1)))), (1, (AV.v (TV.one (At.fn 55 [])))), (7, (AV.v (TV.one (At.int .i64 t7)))), (8, (AV.v (TV.one (At.int .i64 (z3f sn t7 b0 t8))))), (9, (AV.v (TV.one (At.bool (z3h sn t7 b0 t8)))))] [(Blk.mk Bool.false (Body.fl .f32 b0))]))))
noncomputable def z60 : Nat → St → Option (Bool × LO) := lpT 1 (pSt [(pTm 0 (pV (pOne (pVw 0 (liN 0) 1)))), (pTm 1 (pV (pOne (pFn 55 [])))), (pTm 7 (pV (pOne (pInt .i64)))), (pTm 8 (pV (pOne (pInt .i64))))] [(pBlk Bool.false (pFl .f32))]) (fun hs => z5d (hvN (hGet hs 0)) (hvI (hGet hs 1)) (hvI (hGet hs 2)) (hvLn (hGet hs 3)))
def z24 (sn : Nat) (t7 : Int) (b0 : List Nat) : Option ((Int) ⊕ (Int × Bool)) → Option (Ex × St)
  | none => none
  | some (Sum.inl r) => some (Ex.ret, (St.mk [(4, (AV.v (TV.one (At.int .i64 r))))] [(Blk.mk Bool.false (Body.fl .f32 b0))]))
  | some (Sum.inr r) => some ((Ex.exit 0), (St.mk [(0, (AV.v (TV.one (At.vw 0 0 sn 1)))), (1, (AV.v (TV.one (At.fn 55 [])))), (7, (AV.v (TV.one (At.int .i64 t7)))), (8, (AV.v (TV.one (At.int .i64 r.1)))), (9, (AV.v (TV.one (At.bool r.2))))] [(Blk.mk Bool.false (Body.fl .f32 b0))]))
def zbk (sn : Nat) (t7 : Int) (b0 : List Nat) (x : Option ((Int) ⊕ (Int × Bool))) : LO := (LO.two (oL x) (LO.one Ex.ret (St.mk [(4, (AV.v (TV.one (At.int .i64 ((tL x).getD default)))))] [(Blk.mk Bool.false (Body.fl .f32 b0))])) (LO.one (Ex.exit 0) (St.mk [(0, (AV.v (TV.one (At.vw 0 0 sn 1)))), (1, (AV.v (TV.one (At.fn 55 [])))), (7, (AV.v (TV.one (At.int .i64 t7)))), (8, (AV.v (TV.one (At.int .i64 ((tR x).getD default).1)))), (9, (AV.v (TV.one (At.bool ((tR x).getD default).2))))] [(Blk.mk Bool.false (Body.fl .f32 b0))])))
theorem zbp (sn : Nat) (t7 : Int) (b0 : List Nat) : ∀ x : Option ((Int) ⊕ (Int × Bool)), x.isSome = true → (z24 sn t7 b0) x = some (pick (zbk sn t7 b0 x))
  | none, h => by cases h
  | some (Sum.inl r), _ => rfl
  | some (Sum.inr r), _ => rfl
theorem zbo (sn : Nat) (t7 : Int) (t8 : Int) (b0 : List Nat) (K : Ex → St → Option (Ex × St)) : evC (R := Ex × St) Γ4 (evFn Γ4 8 8) 66 1 fi66.nt fi66.live fi66.nl 8 (findL 2 (loopsIn fi66.code)) (St.mk [(0, (AV.v (TV.one (At.vw 0 0 sn 1)))), (1, (AV.v (TV.one (At.fn 55 [])))), (7, (AV.v (TV.one (At.int .i64 t7)))), (8, (AV.v (TV.one (At.int .i64 t8))))] [(Blk.mk Bool.false (Body.fl .f32 b0))]) K = z0q sn t7 b0 t8 (fun t8' => K .normal (St.mk [(0, (AV.v (TV.one (At.vw 0 0 sn 1)))), (1, (AV.v (TV.one (At.fn 55 [])))), (7, (AV.v (TV.one (At.int .i64 t7)))), (8, (AV.v (TV.one (At.int .i64 t8'))))] [(Blk.mk Bool.false (Body.fl .f32 b0))])) (fun c0_ => K Ex.ret (St.mk [(4, (AV.v (TV.one (At.int .i64 c0_))))] [(Blk.mk Bool.false (Body.fl .f32 b0))])) (fun c0_ c1_ => K (Ex.exit 0) (St.mk [(0, (AV.v (TV.one (At.vw 0 0 sn 1)))), (1, (AV.v (TV.one (At.fn 55 [])))), (7, (AV.v (TV.one (At.int .i64 t7)))), (8, (AV.v (TV.one (At.int .i64 c0_)))), (9, (AV.v (TV.one (At.bool c1_))))] [(Blk.mk Bool.false (Body.fl .f32 b0))])) := by kernel_rfl
theorem zbn (sn : Nat) (t7 : Int) (b0 : List Nat) : ∀ (n : Nat) (t8 : Int), iter 66 2 1 (evC (R := Ex × St) Γ4 (evFn Γ4 8 8) 66 1 fi66.nt fi66.live fi66.nl 8 (findL 2 (loopsIn fi66.code))) n (St.mk [(0, (AV.v (TV.one (At.vw 0 0 sn 1)))), (1, (AV.v (TV.one (At.fn 55 [])))), (7, (AV.v (TV.one (At.int .i64 t7)))), (8, (AV.v (TV.one (At.int .i64 t8))))] [(Blk.mk Bool.false (Body.fl .f32 b0))]) (fun e st => some (e, st)) = (z24 sn t7 b0) (z0d sn t7 b0 n t8) := by
  intro n
  induction n with
  | zero => intros; rfl
  | succ n ih =>
    intro t8
    refine Eq.trans (iter_succ ..) (Eq.trans (zbo sn t7 t8 b0 (nextK 66 2 1 (evC (R := Ex × St) Γ4 (evFn Γ4 8 8) 66 1 fi66.nt fi66.live fi66.nl 8 (findL 2 (loopsIn fi66.code))) n (fun e st => some (e, st)))) (Eq.trans ?_ (zae sn t7 b0 t8 (z24 sn t7 b0) rfl (fun t8' => z0d sn t7 b0 n t8') (fun c0_ => some (Sum.inl c0_)) (fun c0_ c1_ => some (Sum.inr (c0_, c1_))))))
    exact congrArg (fun kn_ => z0q sn t7 b0 t8 kn_ (fun c0_ => (z24 sn t7 b0) (some (Sum.inl c0_))) (fun c0_ c1_ => (z24 sn t7 b0) (some (Sum.inr (c0_, c1_))))) (funext fun t8' => ih t8')
theorem zaq : LoopOne Try.prog fnTab 66 2 z60 := lp_of (Γ := Γ4) tyTab_ok (FnL.ok fnTab_ok _ _) (LpL.ok lt4_ok) (SumL.ok tb4_ok _) mixed (fi := fi66) (by kernel_rfl) (by kernel_rfl) (by
  intro lo st out hp
  obtain ⟨hs, e1, e2, e3⟩ := lpT_inv hp
  clear hp
  obtain rfl : st = (St.mk [(0, (AV.v (TV.one (At.vw 0 0 (hvN (hGet hs 0)) 1)))), (1, (AV.v (TV.one (At.fn 55 [])))), (7, (AV.v (TV.one (At.int .i64 (hvI (hGet hs 1)))))), (8, (AV.v (TV.one (At.int .i64 (hvI (hGet hs 2))))))] [(Blk.mk Bool.false (Body.fl .f32 (hvLn (hGet hs 3))))]) := e2.trans (by kernel_rfl)
  clear e2
  subst e1
  unfold z5d at e3
  injection e3 with h1 h2
  subst h2
  exact ⟨8, 8, big, Eq.trans (zbn (hvN (hGet hs 0)) (hvI (hGet hs 1)) (hvLn (hGet hs 3)) big (hvI (hGet hs 2))) (zbp (hvN (hGet hs 0)) (hvI (hGet hs 1)) (hvLn (hGet hs 3)) (z0d (hvN (hGet hs 0)) (hvI (hGet hs 1)) (hvLn (hGet hs 3)) big (hvI (hGet hs 2))) h1)⟩)
noncomputable def tb5 : List (Nat × (List PT → Option (Bool × AV × List Blk))) := (59, z33) :: (64, zft) :: (66, z4j) :: tb4
noncomputable def lt5 : List ((Nat × Nat) × (Nat → St → Option (Bool × LO))) := ((66, 2), z60) :: lt4
noncomputable def Γ5 : Ctx := ⟨tyTab, fnTab, tblSum tb5, tblLp lt5⟩
theorem tb5_ok : SumL Try.prog tb5 := SumL.cons z8d (SumL.cons zlu (SumL.cons zb3 (tb4_ok)))
theorem lt5_ok : LpL Try.prog fnTab lt5 := LpL.cons zaq (lt4_ok)
noncomputable def zda : List PT → Option (Bool × AV × List Blk)
  | [.one (.row 1 a_n (.fl .f32 a)), .one (.row 1 b_n (.fl .f32 b))] => some ((z5p a_n a b_n b), ((AV.v (TV.one (At.bool (z52 a_n a b_n b)))), []))
  | _ => none
def zg2 (a_n : Nat) (a : List Nat) (b_n : Nat) (b : List Nat) : Option (Bool) → Option (AV × List Blk)
  | some r => some ((AV.v (TV.one (At.bool r))), [])
  | none => none
theorem zln (a_n : Nat) (a : List Nat) (b_n : Nat) (b : List Nat) : evFn Γ5 8 8 43 (impTs 0 [.one (.row 1 a_n (.fl .f32 a)), .one (.row 1 b_n (.fl .f32 b))]).1 (impTs 0 [.one (.row 1 a_n (.fl .f32 a)), .one (.row 1 b_n (.fl .f32 b))]).2 (expo (impTs 0 [.one (.row 1 a_n (.fl .f32 a)), .one (.row 1 b_n (.fl .f32 b))]).2.length) = z5m a_n a b_n b (fun c0_ => some ((AV.v (TV.one (At.bool c0_))), [])) := by kernel_rfl
theorem zjy : SumOne Try.prog 43 zda := sum_of (Γ := Γ5) (fuel := 8) (d := 8) tyTab_ok (FnL.ok fnTab_ok _ _) (LpL.ok lt5_ok) (SumL.ok tb5_ok _) mixed (by
  intro pts v news hp hc
  clear hc
  unfold zda at hp
  split at hp
  · rename_i a_n a b_n b
    exact Eq.trans (Eq.trans (zln a_n a b_n b) (zik a_n a b_n b (zg2 a_n a b_n b) rfl (fun c0_ => some c0_))) (fin_out (o := (zg2 a_n a b_n b)) (x := z5y a_n a b_n b) (d := default) (V := fun r => ((AV.v (TV.one (At.bool r))), [])) (fun r => rfl) hp)
  · cases hp)
noncomputable def zhk : List PT → Option (Bool × AV × List Blk)
  | [.one (.s (.flt .f64 x))] => some ((zf1 x), ((AV.v (TV.one (At.flt .f64 (z9r x)))), []))
  | _ => none
def zlo (x : Nat) : Option (Nat) → Option (AV × List Blk)
  | some r => some ((AV.v (TV.one (At.flt .f64 r))), [])
  | none => none
theorem znq (x : Nat) : evFn Γ5 8 8 57 (impTs 0 [.one (.s (.flt .f64 x))]).1 (impTs 0 [.one (.s (.flt .f64 x))]).2 (expo (impTs 0 [.one (.s (.flt .f64 x))]).2.length) = zbc x (fun c0_ => some ((AV.v (TV.one (At.flt .f64 c0_))), [])) := by kernel_rfl
theorem zn1 : SumOne Try.prog 57 zhk := sum_of (Γ := Γ5) (fuel := 8) (d := 8) tyTab_ok (FnL.ok fnTab_ok _ _) (LpL.ok lt5_ok) (SumL.ok tb5_ok _) mixed (by
  intro pts v news hp hc
  clear hc
  unfold zhk at hp
  split at hp
  · rename_i x
    exact Eq.trans (Eq.trans (znq x) (zmg x (zlo x) rfl (fun c0_ => some c0_))) (fin_out (o := (zlo x)) (x := zb5 x) (d := default) (V := fun r => ((AV.v (TV.one (At.flt .f64 r))), [])) (fun r => rfl) hp)
  · cases hp)
noncomputable def z4l : List PT → Option (Bool × AV × List Blk)
  | [.one (.row 1 s_n (.fl .f32 s)), .fn 55 []] => some ((z32 s_n s), ((AV.v (TV.one (At.int .i64 (z2y s_n s)))), []))
  | _ => none
def z6p (s_n : Nat) (s : List Nat) : Option (Int) → Option (AV × List Blk)
  | some r => some ((AV.v (TV.one (At.int .i64 r))), [])
  | none => none
theorem zcu (s_n : Nat) (s : List Nat) : evFn Γ5 8 8 66 (impTs 0 [.one (.row 1 s_n (.fl .f32 s)), .fn 55 []]).1 (impTs 0 [.one (.row 1 s_n (.fl .f32 s)), .fn 55 []]).2 (expo (impTs 0 [.one (.row 1 s_n (.fl .f32 s)), .fn 55 []]).2.length) = z1r s_n s (fun c0_ => some ((AV.v (TV.one (At.int .i64 c0_))), [])) := by kernel_rfl
theorem zbr : SumOne Try.prog 66 z4l := sum_of (Γ := Γ5) (fuel := 8) (d := 8) tyTab_ok (FnL.ok fnTab_ok _ _) (LpL.ok lt5_ok) (SumL.ok tb5_ok _) mixed (by
  intro pts v news hp hc
  clear hc
  unfold z4l at hp
  split at hp
  · rename_i s_n s
    exact Eq.trans (Eq.trans (zcu s_n s) (zbh s_n s (z6p s_n s) rfl (fun c0_ => some c0_))) (fin_out (o := (z6p s_n s)) (x := z1q s_n s) (d := default) (V := fun r => ((AV.v (TV.one (At.int .i64 r))), [])) (fun r => rfl) hp)
  · cases hp)
noncomputable def tb6 : List (Nat × (List PT → Option (Bool × AV × List Blk))) := (43, zda) :: (57, zhk) :: (66, z4l) :: tb5
noncomputable def lt6 : List ((Nat × Nat) × (Nat → St → Option (Bool × LO))) := lt5
noncomputable def Γ6 : Ctx := ⟨tyTab, fnTab, tblSum tb6, tblLp lt6⟩
theorem tb6_ok : SumL Try.prog tb6 := SumL.cons zjy (SumL.cons zn1 (SumL.cons zbr (tb5_ok)))
theorem lt6_ok : LpL Try.prog fnTab lt6 := lt5_ok
noncomputable def zdi : List PT → Option (Bool × AV × List Blk)
  | [.agg [.row 1 q1f (.fl .f32 q1r), .row 1 q1g (.fl .f32 q1y), .row 1 q1h (.fl .f32 q1x)], .agg [.row 1 q1d (.fl .f32 q1s), .row 1 q1i (.fl .f32 q1v), .row 1 q1j (.fl .f32 q1w)]] => some ((z74 q1f q1r q1g q1y q1h q1x q1d q1s q1i q1v q1j q1w), ((AV.v (TV.one (At.bool (z6m q1f q1r q1g q1y q1h q1x q1d q1s q1i q1v q1j q1w)))), []))
  | _ => none
def zg6 (q1f : Nat) (q1r : List Nat) (q1g : Nat) (q1y : List Nat) (q1h : Nat) (q1x : List Nat) (q1d : Nat) (q1s : List Nat) (q1i : Nat) (q1v : List Nat) (q1j : Nat) (q1w : List Nat) : Option (Bool) → Option (AV × List Blk)
  | some r => some ((AV.v (TV.one (At.bool r))), [])
  | none => none
theorem zl9 (q1f : Nat) (q1r : List Nat) (q1g : Nat) (q1y : List Nat) (q1h : Nat) (q1x : List Nat) (q1d : Nat) (q1s : List Nat) (q1i : Nat) (q1v : List Nat) (q1j : Nat) (q1w : List Nat) : evFn Γ6 8 8 26 (impTs 0 [.agg [.row 1 q1f (.fl .f32 q1r), .row 1 q1g (.fl .f32 q1y), .row 1 q1h (.fl .f32 q1x)], .agg [.row 1 q1d (.fl .f32 q1s), .row 1 q1i (.fl .f32 q1v), .row 1 q1j (.fl .f32 q1w)]]).1 (impTs 0 [.agg [.row 1 q1f (.fl .f32 q1r), .row 1 q1g (.fl .f32 q1y), .row 1 q1h (.fl .f32 q1x)], .agg [.row 1 q1d (.fl .f32 q1s), .row 1 q1i (.fl .f32 q1v), .row 1 q1j (.fl .f32 q1w)]]).2 (expo (impTs 0 [.agg [.row 1 q1f (.fl .f32 q1r), .row 1 q1g (.fl .f32 q1y), .row 1 q1h (.fl .f32 q1x)], .agg [.row 1 q1d (.fl .f32 q1s), .row 1 q1i (.fl .f32 q1v), .row 1 q1j (.fl .f32 q1w)]]).2.length) = z5h q1f q1r q1g q1y q1h q1x q1d q1s q1i q1v q1j q1w (fun c0_ => some ((AV.v (TV.one (At.bool c0_))), [])) := by kernel_rfl
theorem zjk : SumOne Try.prog 26 zdi := sum_of (Γ := Γ6) (fuel := 8) (d := 8) tyTab_ok (FnL.ok fnTab_ok _ _) (LpL.ok lt6_ok) (SumL.ok tb6_ok _) mixed (by
  intro pts v news hp hc
  clear hc
  unfold zdi at hp
  split at hp
  · rename_i q1f q1r q1g q1y q1h q1x q1d q1s q1i q1v q1j q1w
    exact Eq.trans (Eq.trans (zl9 q1f q1r q1g q1y q1h q1x q1d q1s q1i q1v q1j q1w) (zir q1f q1r q1g q1y q1h q1x q1d q1s q1i q1v q1j q1w (zg6 q1f q1r q1g q1y q1h q1x q1d q1s q1i q1v q1j q1w) rfl (fun c0_ => some c0_))) (fin_out (o := (zg6 q1f q1r q1g q1y q1h q1x q1d q1s q1i q1v q1j q1w)) (x := z5n q1f q1r q1g q1y q1h q1x q1d q1s q1i q1v q1j q1w) (d := default) (V := fun r => ((AV.v (TV.one (At.bool r))), [])) (fun r => rfl) hp)
  · cases hp)
noncomputable def zej : List PT → Option (Bool × AV × List Blk)
  | [.one (.s (.flt .f32 x))] => some ((z93 x), ((AV.v (TV.one (At.flt .f32 (z15 x)))), []))
  | _ => none
def zhp (x : Nat) : Option (Nat) → Option (AV × List Blk)
  | some r => some ((AV.v (TV.one (At.flt .f32 r))), [])
  | none => none
theorem zmh (x : Nat) : evFn Γ6 8 8 38 (impTs 0 [.one (.s (.flt .f32 x))]).1 (impTs 0 [.one (.s (.flt .f32 x))]).2 (expo (impTs 0 [.one (.s (.flt .f32 x))]).2.length) = z6s x (fun c0_ => some ((AV.v (TV.one (At.flt .f32 c0_))), [])) := by kernel_rfl
theorem zkv : SumOne Try.prog 38 zej := sum_of (Γ := Γ6) (fuel := 8) (d := 8) tyTab_ok (FnL.ok fnTab_ok _ _) (LpL.ok lt6_ok) (SumL.ok tb6_ok _) mixed (by
  intro pts v news hp hc
  clear hc
  unfold zej at hp
  split at hp
  · rename_i x
    exact Eq.trans (Eq.trans (zmh x) (zk4 x (zhp x) rfl (fun c0_ => some c0_))) (fin_out (o := (zhp x)) (x := z6r x) (d := default) (V := fun r => ((AV.v (TV.one (At.flt .f32 r))), [])) (fun r => rfl) hp)
  · cases hp)
noncomputable def z3u : List PT → Option (Bool × AV × List Blk)
  | [.one (.row 1 s_n (.fl .f32 s)), .fn 54 []] => some ((z2q s_n s), ((AV.v (TV.one (At.bool (z2l s_n s)))), []))
  | _ => none
def z5i (s_n : Nat) (s : List Nat) : Option (Bool) → Option (AV × List Blk)
  | some r => some ((AV.v (TV.one (At.bool r))), [])
  | none => none
theorem zbg (s_n : Nat) (s : List Nat) : evFn Γ6 8 8 53 (impTs 0 [.one (.row 1 s_n (.fl .f32 s)), .fn 54 []]).1 (impTs 0 [.one (.row 1 s_n (.fl .f32 s)), .fn 54 []]).2 (expo (impTs 0 [.one (.row 1 s_n (.fl .f32 s)), .fn 54 []]).2.length) = z1e s_n s (fun c0_ => some ((AV.v (TV.one (At.bool c0_))), [])) := by kernel_rfl
theorem za4 : SumOne Try.prog 53 z3u := sum_of (Γ := Γ6) (fuel := 8) (d := 8) tyTab_ok (FnL.ok fnTab_ok _ _) (LpL.ok lt6_ok) (SumL.ok tb6_ok _) mixed (by
  intro pts v news hp hc
  clear hc
  unfold z3u at hp
  split at hp
  · rename_i s_n s
    exact Eq.trans (Eq.trans (zbg s_n s) (z9n s_n s (z5i s_n s) rfl (fun c0_ => some c0_))) (fin_out (o := (z5i s_n s)) (x := z1f s_n s) (d := default) (V := fun r => ((AV.v (TV.one (At.bool r))), [])) (fun r => rfl) hp)
  · cases hp)
noncomputable def z44 : List PT → Option (Bool × AV × List Blk)
  | [.one (.row 1 s_n (.fl .f32 s)), .fn 55 []] => some ((z2w s_n s), ((AV.v (TV.one (At.bool (z2o s_n s)))), []))
  | _ => none
def z61 (s_n : Nat) (s : List Nat) : Option (Bool) → Option (AV × List Blk)
  | some r => some ((AV.v (TV.one (At.bool r))), [])
  | none => none
theorem zbq (s_n : Nat) (s : List Nat) : evFn Γ6 8 8 53 (impTs 0 [.one (.row 1 s_n (.fl .f32 s)), .fn 55 []]).1 (impTs 0 [.one (.row 1 s_n (.fl .f32 s)), .fn 55 []]).2 (expo (impTs 0 [.one (.row 1 s_n (.fl .f32 s)), .fn 55 []]).2.length) = z1j s_n s (fun c0_ => some ((AV.v (TV.one (At.bool c0_))), [])) := by kernel_rfl
theorem zao : SumOne Try.prog 53 z44 := sum_of (Γ := Γ6) (fuel := 8) (d := 8) tyTab_ok (FnL.ok fnTab_ok _ _) (LpL.ok lt6_ok) (SumL.ok tb6_ok _) mixed (by
  intro pts v news hp hc
  clear hc
  unfold z44 at hp
  split at hp
  · rename_i s_n s
    exact Eq.trans (Eq.trans (zbq s_n s) (zah s_n s (z61 s_n s) rfl (fun c0_ => some c0_))) (fin_out (o := (z61 s_n s)) (x := z1k s_n s) (d := default) (V := fun r => ((AV.v (TV.one (At.bool r))), [])) (fun r => rfl) hp)
  · cases hp)
noncomputable def zf6 (q0o : Int) (k : Int) (q1a : Nat) (q1c : Nat) (q1b : Nat) (b2 : List Nat) (b3 : List Nat) (b4 : List Nat) : Bool × LO := ((za9 q0o k q1a q1c q1b b2 b3 b4), (LO.one (Ex.exit 0) (St.mk [(0, (AV.v (TV.one (At.int .i64 q0o)))), (2, (AV.v (TV.one (At.ptr 0 0 3)))), (3, (AV.v (TV.one (At.ptr 1 0 3)))), (4, (AV.v (TV.one (At.int .i64 (zbe q0o k q1a q1c q1b b2 b3 b4))))), (11, (AV.v (TV.one (At.bool (zbf q0o k q1a q1c q1b b2 b3 b4)))))] [(Blk.mk Bool.true (Body.cells [At.nilsl, At.nilsl, At.nilsl])), (Blk.mk Bool.true (Body.cells [(At.sl 2 0 (z7j q0o k q1a q1c q1b b2 b3 b4) 1), (At.sl 3 0 (z7a q0o k q1a q1c q1b b2 b3 b4) 1), (At.sl 4 0 (z7m q0o k q1a q1c q1b b2 b3 b4) 1)])), (Blk.mk Bool.true (Body.fl .f32 (z7p q0o k q1a q1c q1b b2 b3 b4))), (Blk.mk Bool.true (Body.fl .f32 (z79 q0o k q1a q1c q1b b2 b3 b4))), (Blk.mk Bool.true (Body.fl .f32 (z7o q0o k q1a q1c q1b b2 b3 b4)))])))
noncomputable def zg8 : Nat → St → Option (Bool × LO) := lpT 0 (pSt [(pTm 0 (pV (pOne (pInt .i64)))), (pTm 2 (pV (pOne (pPtr 0 (liN 0) 3)))), (pTm 3 (pV (pOne (pPtr 1 (liN 0) 3)))), (pTm 4 (pV (pOne (pInt .i64))))] [(pBlk Bool.true (pCells [pNil, pNil, pNil])), (pBlk Bool.true (pCells [(pSl 2 (liN 0) 1), (pSl 3 (liN 0) 1), (pSl 4 (liN 0) 1)])), (pBlk Bool.true (pFl .f32)), (pBlk Bool.true (pFl .f32)), (pBlk Bool.true (pFl .f32))]) (fun hs => zf6 (hvI (hGet hs 0)) (hvI (hGet hs 1)) (hvN (hGet hs 2)) (hvN (hGet hs 3)) (hvN (hGet hs 4)) (hvLn (hGet hs 5)) (hvLn (hGet hs 6)) (hvLn (hGet hs 7)))
def z9v (q0o : Int) : Option ((Int × Bool × Nat × Nat × Nat × (List Nat) × (List Nat) × (List Nat))) → Option (Ex × St)
  | none => none
  | some r => some ((Ex.exit 0), (St.mk [(0, (AV.v (TV.one (At.int .i64 q0o)))), (2, (AV.v (TV.one (At.ptr 0 0 3)))), (3, (AV.v (TV.one (At.ptr 1 0 3)))), (4, (AV.v (TV.one (At.int .i64 r.1)))), (11, (AV.v (TV.one (At.bool r.2.1))))] [(Blk.mk Bool.true (Body.cells [At.nilsl, At.nilsl, At.nilsl])), (Blk.mk Bool.true (Body.cells [(At.sl 2 0 r.2.2.1 1), (At.sl 3 0 r.2.2.2.1 1), (At.sl 4 0 r.2.2.2.2.1 1)])), (Blk.mk Bool.true (Body.fl .f32 r.2.2.2.2.2.1)), (Blk.mk Bool.true (Body.fl .f32 r.2.2.2.2.2.2.1)), (Blk.mk Bool.true (Body.fl .f32 r.2.2.2.2.2.2.2))]))
def zkp (q0o : Int) (x : Option ((Int × Bool × Nat × Nat × Nat × (List Nat) × (List Nat) × (List Nat)))) : LO := (LO.one (Ex.exit 0) (St.mk [(0, (AV.v (TV.one (At.int .i64 q0o)))), (2, (AV.v (TV.one (At.ptr 0 0 3)))), (3, (AV.v (TV.one (At.ptr 1 0 3)))), (4, (AV.v (TV.one (At.int .i64 (x.getD default).1)))), (11, (AV.v (TV.one (At.bool (x.getD default).2.1))))] [(Blk.mk Bool.true (Body.cells [At.nilsl, At.nilsl, At.nilsl])), (Blk.mk Bool.true (Body.cells [(At.sl 2 0 (x.getD default).2.2.1 1), (At.sl 3 0 (x.getD default).2.2.2.1 1), (At.sl 4 0 (x.getD default).2.2.2.2.1 1)])), (Blk.mk Bool.true (Body.fl .f32 (x.getD default).2.2.2.2.2.1)), (Blk.mk Bool.true (Body.fl .f32 (x.getD default).2.2.2.2.2.2.1)), (Blk.mk Bool.true (Body.fl .f32 (x.getD default).2.2.2.2.2.2.2))]))
theorem zld (q0o : Int) : ∀ x : Option ((Int × Bool × Nat × Nat × Nat × (List Nat) × (List Nat) × (List Nat))), x.isSome = true → (z9v q0o) x = some (pick (zkp q0o x))
  | none, h => by cases h
  | some r, _ => rfl
theorem zlk (q0o : Int) (k : Int) (q1a : Nat) (q1c : Nat) (q1b : Nat) (b2 : List Nat) (b3 : List Nat) (b4 : List Nat) (K : Ex → St → Option (Ex × St)) : evC (R := Ex × St) Γ6 (evFn Γ6 8 8) 47 0 fi47.nt fi47.live fi47.nl 8 (findL 3 (loopsIn fi47.code)) (St.mk [(0, (AV.v (TV.one (At.int .i64 q0o)))), (2, (AV.v (TV.one (At.ptr 0 0 3)))), (3, (AV.v (TV.one (At.ptr 1 0 3)))), (4, (AV.v (TV.one (At.int .i64 k))))] [(Blk.mk Bool.true (Body.cells [At.nilsl, At.nilsl, At.nilsl])), (Blk.mk Bool.true (Body.cells [(At.sl 2 0 q1a 1), (At.sl 3 0 q1c 1), (At.sl 4 0 q1b 1)])), (Blk.mk Bool.true (Body.fl .f32 b2)), (Blk.mk Bool.true (Body.fl .f32 b3)), (Blk.mk Bool.true (Body.fl .f32 b4))]) K = z3a q0o k q1a q1c q1b b2 b3 b4 (fun k' q1a' q1c' q1b' b2' b3' b4' => K .normal (St.mk [(0, (AV.v (TV.one (At.int .i64 q0o)))), (2, (AV.v (TV.one (At.ptr 0 0 3)))), (3, (AV.v (TV.one (At.ptr 1 0 3)))), (4, (AV.v (TV.one (At.int .i64 k'))))] [(Blk.mk Bool.true (Body.cells [At.nilsl, At.nilsl, At.nilsl])), (Blk.mk Bool.true (Body.cells [(At.sl 2 0 q1a' 1), (At.sl 3 0 q1c' 1), (At.sl 4 0 q1b' 1)])), (Blk.mk Bool.true (Body.fl .f32 b2')), (Blk.mk Bool.true (Body.fl .f32 b3')), (Blk.mk Bool.true (Body.fl .f32 b4'))])) (fun c0_ c1_ c2_ c3_ c4_ c5_ c6_ c7_ => K (Ex.exit 0) (St.mk [(0, (AV.v (TV.one (At.int .i64 q0o)))), (2, (AV.v (TV.one (At.ptr 0 0 3)))), (3, (AV.v (TV.one (At.ptr 1 0 3)))), (4, (AV.v (TV.one (At.int .i64 c0_)))), (11, (AV.v (TV.one (At.bool c1_))))] [(Blk.mk Bool.true (Body.cells [At.nilsl, At.nilsl, At.nilsl])), (Blk.mk Bool.true (Body.cells [(At.sl 2 0 c2_ 1), (At.sl 3 0 c3_ 1), (At.sl 4 0 c4_ 1)])), (Blk.mk Bool.true (Body.fl .f32 c5_)), (Blk.mk Bool.true (Body.fl .f32 c6_)), (Blk.mk Bool.true (Body.fl .f32 c7_))])) := by kernel_rfl
theorem zli (q0o : Int) : ∀ (n : Nat) (k : Int) (q1a : Nat) (q1c : Nat) (q1b : Nat) (b2 : List Nat) (b3 : List Nat) (b4 : List Nat), iter 47 3 0 (evC (R := Ex × St) Γ6 (evFn Γ6 8 8) 47 0 fi47.nt fi47.live fi47.nl 8 (findL 3 (loopsIn fi47.code))) n (St.mk [(0, (AV.v (TV.one (At.int .i64 q0o)))), (2, (AV.v (TV.one (At.ptr 0 0 3)))), (3, (AV.v (TV.one (At.ptr 1 0 3)))), (4, (AV.v (TV.one (At.int .i64 k))))] [(Blk.mk Bool.true (Body.cells [At.nilsl, At.nilsl, At.nilsl])), (Blk.mk Bool.true (Body.cells [(At.sl 2 0 q1a 1), (At.sl 3 0 q1c 1), (At.sl 4 0 q1b 1)])), (Blk.mk Bool.true (Body.fl .f32 b2)), (Blk.mk Bool.true (Body.fl .f32 b3)), (Blk.mk Bool.true (Body.fl .f32 b4))]) (fun e st => some (e, st)) = (z9v q0o) (z0p q0o n k q1a q1c q1b b2 b3 b4) := by
  intro n
  induction n with
  | zero => intros; rfl
  | succ n ih =>
    intro k q1a q1c q1b b2 b3 b4
    refine Eq.trans (iter_succ ..) (Eq.trans (zlk q0o k q1a q1c q1b b2 b3 b4 (nextK 47 3 0 (evC (R := Ex × St) Γ6 (evFn Γ6 8 8) 47 0 fi47.nt fi47.live fi47.nl 8 (findL 3 (loopsIn fi47.code))) n (fun e st => some (e, st)))) (Eq.trans ?_ (ziw q0o k q1a q1c q1b b2 b3 b4 (z9v q0o) rfl (fun k' q1a' q1c' q1b' b2' b3' b4' => z0p q0o n k' q1a' q1c' q1b' b2' b3' b4') (fun c0_ c1_ c2_ c3_ c4_ c5_ c6_ c7_ => some (c0_, c1_, c2_, c3_, c4_, c5_, c6_, c7_)))))
    exact congrArg (fun kn_ => z3a q0o k q1a q1c q1b b2 b3 b4 kn_ (fun c0_ c1_ c2_ c3_ c4_ c5_ c6_ c7_ => (z9v q0o) (some (c0_, c1_, c2_, c3_, c4_, c5_, c6_, c7_)))) (funext fun k' => funext fun q1a' => funext fun q1c' => funext fun q1b' => funext fun b2' => funext fun b3' => funext fun b4' => ih k' q1a' q1c' q1b' b2' b3' b4')
theorem zjp : LoopOne Try.prog fnTab 47 3 zg8 := lp_of (Γ := Γ6) tyTab_ok (FnL.ok fnTab_ok _ _) (LpL.ok lt6_ok) (SumL.ok tb6_ok _) mixed (fi := fi47) (by kernel_rfl) (by kernel_rfl) (by
  intro lo st out hp
  obtain ⟨hs, e1, e2, e3⟩ := lpT_inv hp
  clear hp
  obtain rfl : st = (St.mk [(0, (AV.v (TV.one (At.int .i64 (hvI (hGet hs 0)))))), (2, (AV.v (TV.one (At.ptr 0 0 3)))), (3, (AV.v (TV.one (At.ptr 1 0 3)))), (4, (AV.v (TV.one (At.int .i64 (hvI (hGet hs 1))))))] [(Blk.mk Bool.true (Body.cells [At.nilsl, At.nilsl, At.nilsl])), (Blk.mk Bool.true (Body.cells [(At.sl 2 0 (hvN (hGet hs 2)) 1), (At.sl 3 0 (hvN (hGet hs 3)) 1), (At.sl 4 0 (hvN (hGet hs 4)) 1)])), (Blk.mk Bool.true (Body.fl .f32 (hvLn (hGet hs 5)))), (Blk.mk Bool.true (Body.fl .f32 (hvLn (hGet hs 6)))), (Blk.mk Bool.true (Body.fl .f32 (hvLn (hGet hs 7))))]) := e2.trans (by kernel_rfl)
  clear e2
  subst e1
  unfold zf6 at e3
  injection e3 with h1 h2
  subst h2
  exact ⟨8, 8, big, Eq.trans (zli (hvI (hGet hs 0)) big (hvI (hGet hs 1)) (hvN (hGet hs 2)) (hvN (hGet hs 3)) (hvN (hGet hs 4)) (hvLn (hGet hs 5)) (hvLn (hGet hs 6)) (hvLn (hGet hs 7))) (zld (hvI (hGet hs 0)) (z0p (hvI (hGet hs 0)) big (hvI (hGet hs 1)) (hvN (hGet hs 2)) (hvN (hGet hs 3)) (hvN (hGet hs 4)) (hvLn (hGet hs 5)) (hvLn (hGet hs 6)) (hvLn (hGet hs 7))) h1)⟩)
noncomputable def tb7 : List (Nat × (List PT → Option (Bool × AV × List Blk))) := (26, zdi) :: (38, zej) :: (53, z3u) :: (53, z44) :: tb6
noncomputable def lt7 : List ((Nat × Nat) × (Nat → St → Option (Bool × LO))) := ((47, 3), zg8) :: lt6
noncomputable def Γ7 : Ctx := ⟨tyTab, fnTab, tblSum tb7, tblLp lt7⟩
theorem tb7_ok : SumL Try.prog tb7 := SumL.cons zjk (SumL.cons zkv (SumL.cons za4 (SumL.cons zao (tb6_ok))))
theorem lt7_ok : LpL Try.prog fnTab lt7 := LpL.cons zjp (lt6_ok)
noncomputable def zep : List PT → Option (Bool × AV × List Blk)
  | [.one (.s (.flt .f32 x))] => some ((z92 x), ((AV.tup [(TV.one (At.flt .f32 (zax x))), (TV.one (At.bool (z7x x)))]), []))
  | _ => none
def zho (x : Nat) : Option (Nat × Bool) → Option (AV × List Blk)
  | some r => some ((AV.tup [(TV.one (At.flt .f32 r.1)), (TV.one (At.bool r.2))]), [])
  | none => none
theorem zmo (x : Nat) : evFn Γ7 8 8 22 (impTs 0 [.one (.s (.flt .f32 x))]).1 (impTs 0 [.one (.s (.flt .f32 x))]).2 (expo (impTs 0 [.one (.s (.flt .f32 x))]).2.length) = z6q x (fun c0_ c1_ => some ((AV.tup [(TV.one (At.flt .f32 c0_)), (TV.one (At.bool c1_))]), [])) := by kernel_rfl
theorem zkl : SumOne Try.prog 22 zep := sum_of (Γ := Γ7) (fuel := 8) (d := 8) tyTab_ok (FnL.ok fnTab_ok _ _) (LpL.ok lt7_ok) (SumL.ok tb7_ok _) mixed (by
  intro pts v news hp hc
  clear hc
  unfold zep at hp
  split at hp
  · rename_i x
    exact Eq.trans (Eq.trans (zmo x) (zk3 x (zho x) rfl (fun c0_ c1_ => some (c0_, c1_)))) (fin_out (o := (zho x)) (x := z5g x) (d := default) (V := fun r => ((AV.tup [(TV.one (At.flt .f32 r.1)), (TV.one (At.bool r.2))]), [])) (fun r => rfl) hp)
  · cases hp)
noncomputable def zem : List PT → Option (Bool × AV × List Blk)
  | [.one (.row 1 q0w (.fl .f32 q14))] => some ((zc2 q0w q14), ((AV.v (TV.one (At.bool (zb0 q0w q14)))), []))
  | _ => none
def zhh (q0w : Nat) (q14 : List Nat) : Option (Bool) → Option (AV × List Blk)
  | some r => some ((AV.v (TV.one (At.bool r))), [])
  | none => none
theorem zmk (q0w : Nat) (q14 : List Nat) : evFn Γ7 8 8 33 (impTs 0 [.one (.row 1 q0w (.fl .f32 q14))]).1 (impTs 0 [.one (.row 1 q0w (.fl .f32 q14))]).2 (expo (impTs 0 [.one (.row 1 q0w (.fl .f32 q14))]).2.length) = z6u q0w q14 (fun c0_ => some ((AV.v (TV.one (At.bool c0_))), [])) := by kernel_rfl
theorem zkx : SumOne Try.prog 33 zem := sum_of (Γ := Γ7) (fuel := 8) (d := 8) tyTab_ok (FnL.ok fnTab_ok _ _) (LpL.ok lt7_ok) (SumL.ok tb7_ok _) mixed (by
  intro pts v news hp hc
  clear hc
  unfold zem at hp
  split at hp
  · rename_i q0w q14
    exact Eq.trans (Eq.trans (zmk q0w q14) (zjz q0w q14 (zhh q0w q14) rfl (fun c0_ => some c0_))) (fin_out (o := (zhh q0w q14)) (x := z6z q0w q14) (d := default) (V := fun r => ((AV.v (TV.one (At.bool r))), [])) (fun r => rfl) hp)
  · cases hp)
noncomputable def zfd : List PT → Option (Bool × AV × List Blk)
  | [.one (.row 1 q0w (.fl .f32 q14))] => some ((zd4 q0w q14), ((AV.v (TV.one (At.bool (zcd q0w q14)))), []))
  | _ => none
def zia (q0w : Nat) (q14 : List Nat) : Option (Bool) → Option (AV × List Blk)
  | some r => some ((AV.v (TV.one (At.bool r))), [])
  | none => none
theorem zmz (q0w : Nat) (q14 : List Nat) : evFn Γ7 8 8 36 (impTs 0 [.one (.row 1 q0w (.fl .f32 q14))]).1 (impTs 0 [.one (.row 1 q0w (.fl .f32 q14))]).2 (expo (impTs 0 [.one (.row 1 q0w (.fl .f32 q14))]).2.length) = z7b q0w q14 (fun c0_ => some ((AV.v (TV.one (At.bool c0_))), [])) := by kernel_rfl
theorem zll : SumOne Try.prog 36 zfd := sum_of (Γ := Γ7) (fuel := 8) (d := 8) tyTab_ok (FnL.ok fnTab_ok _ _) (LpL.ok lt7_ok) (SumL.ok tb7_ok _) mixed (by
  intro pts v news hp hc
  clear hc
  unfold zfd at hp
  split at hp
  · rename_i q0w q14
    exact Eq.trans (Eq.trans (zmz q0w q14) (zku q0w q14 (zia q0w q14) rfl (fun c0_ => some c0_))) (fin_out (o := (zia q0w q14)) (x := z7i q0w q14) (d := default) (V := fun r => ((AV.v (TV.one (At.bool r))), [])) (fun r => rfl) hp)
  · cases hp)
noncomputable def zf2 : List PT → Option (Bool × AV × List Blk)
  | [.one (.s (.int .i64 q0o))] => some ((zd5 q0o), ((AV.v (TV.agg [(At.sl 0 0 (zc8 q0o) 1), (At.sl 1 0 (zc7 q0o) 1), (At.sl 2 0 (zcc q0o) 1)])), [(Blk.mk Bool.true (Body.fl .f32 (zby q0o))), (Blk.mk Bool.true (Body.fl .f32 (zbv q0o))), (Blk.mk Bool.true (Body.fl .f32 (zc5 q0o)))]))
  | _ => none
def zic (q0o : Int) : Option (Nat × Nat × Nat × (List Nat) × (List Nat) × (List Nat)) → Option (AV × List Blk)
  | some r => some ((AV.v (TV.agg [(At.sl 0 0 r.1 1), (At.sl 1 0 r.2.1 1), (At.sl 2 0 r.2.2.1 1)])), [(Blk.mk Bool.true (Body.fl .f32 r.2.2.2.1)), (Blk.mk Bool.true (Body.fl .f32 r.2.2.2.2.1)), (Blk.mk Bool.true (Body.fl .f32 r.2.2.2.2.2))])
  | none => none
theorem zn3 (q0o : Int) : evFn Γ7 8 8 47 (impTs 0 [.one (.s (.int .i64 q0o))]).1 (impTs 0 [.one (.s (.int .i64 q0o))]).2 (expo (impTs 0 [.one (.s (.int .i64 q0o))]).2.length) = z7d q0o (fun c0_ c1_ c2_ c3_ c4_ c5_ => some ((AV.v (TV.agg [(At.sl 0 0 c0_ 1), (At.sl 1 0 c1_ 1), (At.sl 2 0 c2_ 1)])), [(Blk.mk Bool.true (Body.fl .f32 c3_)), (Blk.mk Bool.true (Body.fl .f32 c4_)), (Blk.mk Bool.true (Body.fl .f32 c5_))])) := by kernel_rfl
theorem zlj : SumOne Try.prog 47 zf2 := sum_of (Γ := Γ7) (fuel := 8) (d := 8) tyTab_ok (FnL.ok fnTab_ok _ _) (LpL.ok lt7_ok) (SumL.ok tb7_ok _) mixed (by
  intro pts v news hp hc
  clear hc
  unfold zf2 at hp
  split at hp
  · rename_i q0o
    exact Eq.trans (Eq.trans (zn3 q0o) (zkr q0o (zic q0o) rfl (fun c0_ c1_ c2_ c3_ c4_ c5_ => some (c0_, c1_, c2_, c3_, c4_, c5_)))) (fin_out (o := (zic q0o)) (x := z3d q0o) (d := default) (V := fun r => ((AV.v (TV.agg [(At.sl 0 0 r.1 1), (At.sl 1 0 r.2.1 1), (At.sl 2 0 r.2.2.1 1)])), [(Blk.mk Bool.true (Body.fl .f32 r.2.2.2.1)), (Blk.mk Bool.true (Body.fl .f32 r.2.2.2.2.1)), (Blk.mk Bool.true (Body.fl .f32 r.2.2.2.2.2))])) (fun r => rfl) hp)
  · cases hp)
noncomputable def tb8 : List (Nat × (List PT → Option (Bool × AV × List Blk))) := (22, zep) :: (33, zem) :: (36, zfd) :: (47, zf2) :: tb7
noncomputable def lt8 : List ((Nat × Nat) × (Nat → St → Option (Bool × LO))) := lt7
noncomputable def Γ8 : Ctx := ⟨tyTab, fnTab, tblSum tb8, tblLp lt8⟩
theorem tb8_ok : SumL Try.prog tb8 := SumL.cons zkl (SumL.cons zkx (SumL.cons zll (SumL.cons zlj (tb7_ok))))
theorem lt8_ok : LpL Try.prog fnTab lt8 := lt7_ok
noncomputable def z4s (sn : Nat) (t7 : Int) (t8 : Int) (b0 : List Nat) (b1 : List Nat) (b2 : List Nat) (q0n : Nat) (q0r : Nat) (q0q : Nat) (b4 : Nat) : Bool × LO := ((z17 sn t7 b0 b4 t8), (LO.two (z16 sn t7 b0 b4 t8) (LO.one Ex.ret (St.mk [(4, (AV.v (TV.one (At.int .i64 (z0e sn t7 b0 b4 t8)))))] [(Blk.mk Bool.false (Body.fl .f32 b0)), (Blk.mk Bool.false (Body.fl .f32 b1)), (Blk.mk Bool.false (Body.fl .f32 b2)), (Blk.mk Bool.true (Body.cells [(At.vw 0 0 q0n 1), (At.vw 1 0 q0r 1), (At.vw 2 0 q0q 1)])), (Blk.mk Bool.true (Body.cells [(At.flt .f32 b4)]))])) (LO.one (Ex.exit 0) (St.mk [(0, (AV.v (TV.one (At.vw 0 0 sn 1)))), (1, (AV.v (TV.one (At.fn 67 [(At.ptr 4 0 1)])))), (7, (AV.v (TV.one (At.int .i64 t7)))), (8, (AV.v (TV.one (At.int .i64 (z31 sn t7 b0 b4 t8))))), (9, (AV.v (TV.one (At.bool (z30 sn t7 b0 b4 t8)))))] [(Blk.mk Bool.false (Body.fl .f32 b0)), (Blk.mk Bool.false (Body.fl .f32 b1)), (Blk.mk Bool.false (Body.fl .f32 b2)), (Blk.mk Bool.true (Body.cells [(At.vw 0 0 q0n 1), (At.vw 1 0 q0r 1), (At.vw 2 0 q0q 1)])), (Blk.mk Bool.true (Body.cells [(At.flt .f32 b4)]))]))))
noncomputable def z4x : Nat → St → Option (Bool × LO) := lpT 5 (pSt [(pTm 0 (pV (pOne (pVw 0 (liN 0) 1)))), (pTm 1 (pV (pOne (pFn 67 [(pPtr 4 (liN 0) 1)])))), (pTm 7 (pV (pOne (pInt .i64)))), (pTm 8 (pV (pOne (pInt .i64))))] [(pBlk Bool.false (pFl .f32)), (pBlk Bool.false (pFl .f32)), (pBlk Bool.false (pFl .f32)), (pBlk Bool.true (pCells [(pVw 0 (liN 0) 1), (pVw 1 (liN 0) 1), (pVw 2 (liN 0) 1)])), (pBlk Bool.true (pCells [(pFlt .f32)]))]) (fun hs => z4s (hvN (hGet hs 0)) (hvI (hGet hs 1)) (hvI (hGet hs 2)) (hvLn (hGet hs 3)) (hvLn (hGet hs 4)) (hvLn (hGet hs 5)) (hvN (hGet hs 6)) (hvN (hGet hs 7)) (hvN (hGet hs 8)) (hvN (hGet hs 9)))
def z1p (sn : Nat) (t7 : Int) (b0 : List Nat) (b1 : List Nat) (b2 : List Nat) (q0n : Nat) (q0r : Nat) (q0q : Nat) (b4 : Nat) : Option ((Int) ⊕ (Int × Bool)) → Option (Ex × St)
  | none => none
  | some (Sum.inl r) => some (Ex.ret, (St.mk [(4, (AV.v (TV.one (At.int .i64 r))))] [(Blk.mk Bool.false (Body.fl .f32 b0)), (Blk.mk Bool.false (Body.fl .f32 b1)), (Blk.mk Bool.false (Body.fl .f32 b2)), (Blk.mk Bool.true (Body.cells [(At.vw 0 0 q0n 1), (At.vw 1 0 q0r 1), (At.vw 2 0 q0q 1)])), (Blk.mk Bool.true (Body.cells [(At.flt .f32 b4)]))]))
  | some (Sum.inr r) => some ((Ex.exit 0), (St.mk [(0, (AV.v (TV.one (At.vw 0 0 sn 1)))), (1, (AV.v (TV.one (At.fn 67 [(At.ptr 4 0 1)])))), (7, (AV.v (TV.one (At.int .i64 t7)))), (8, (AV.v (TV.one (At.int .i64 r.1)))), (9, (AV.v (TV.one (At.bool r.2))))] [(Blk.mk Bool.false (Body.fl .f32 b0)), (Blk.mk Bool.false (Body.fl .f32 b1)), (Blk.mk Bool.false (Body.fl .f32 b2)), (Blk.mk Bool.true (Body.cells [(At.vw 0 0 q0n 1), (At.vw 1 0 q0r 1), (At.vw 2 0 q0q 1)])), (Blk.mk Bool.true (Body.cells [(At.flt .f32 b4)]))]))
def z9l (sn : Nat) (t7 : Int) (b0 : List Nat) (b1 : List Nat) (b2 : List Nat) (q0n : Nat) (q0r : Nat) (q0q : Nat) (b4 : Nat) (x : Option ((Int) ⊕ (Int × Bool))) : LO := (LO.two (oL x) (LO.one Ex.ret (St.mk [(4, (AV.v (TV.one (At.int .i64 ((tL x).getD default)))))] [(Blk.mk Bool.false (Body.fl .f32 b0)), (Blk.mk Bool.false (Body.fl .f32 b1)), (Blk.mk Bool.false (Body.fl .f32 b2)), (Blk.mk Bool.true (Body.cells [(At.vw 0 0 q0n 1), (At.vw 1 0 q0r 1), (At.vw 2 0 q0q 1)])), (Blk.mk Bool.true (Body.cells [(At.flt .f32 b4)]))])) (LO.one (Ex.exit 0) (St.mk [(0, (AV.v (TV.one (At.vw 0 0 sn 1)))), (1, (AV.v (TV.one (At.fn 67 [(At.ptr 4 0 1)])))), (7, (AV.v (TV.one (At.int .i64 t7)))), (8, (AV.v (TV.one (At.int .i64 ((tR x).getD default).1)))), (9, (AV.v (TV.one (At.bool ((tR x).getD default).2))))] [(Blk.mk Bool.false (Body.fl .f32 b0)), (Blk.mk Bool.false (Body.fl .f32 b1)), (Blk.mk Bool.false (Body.fl .f32 b2)), (Blk.mk Bool.true (Body.cells [(At.vw 0 0 q0n 1), (At.vw 1 0 q0r 1), (At.vw 2 0 q0q 1)])), (Blk.mk Bool.true (Body.cells [(At.flt .f32 b4)]))])))
theorem zaa (sn : Nat) (t7 : Int) (b0 : List Nat) (b1 : List Nat) (b2 : List Nat) (q0n : Nat) (q0r : Nat) (q0q : Nat) (b4 : Nat) : ∀ x : Option ((Int) ⊕ (Int × Bool)), x.isSome = true → (z1p sn t7 b0 b1 b2 q0n q0r q0q b4) x = some (pick (z9l sn t7 b0 b1 b2 q0n q0r q0q b4 x))
  | none, h => by cases h
  | some (Sum.inl r), _ => rfl
  | some (Sum.inr r), _ => rfl
theorem zad (sn : Nat) (t7 : Int) (t8 : Int) (b0 : List Nat) (b1 : List Nat) (b2 : List Nat) (q0n : Nat) (q0r : Nat) (q0q : Nat) (b4 : Nat) (K : Ex → St → Option (Ex × St)) : evC (R := Ex × St) Γ8 (evFn Γ8 8 8) 66 5 fi66.nt fi66.live fi66.nl 8 (findL 2 (loopsIn fi66.code)) (St.mk [(0, (AV.v (TV.one (At.vw 0 0 sn 1)))), (1, (AV.v (TV.one (At.fn 67 [(At.ptr 4 0 1)])))), (7, (AV.v (TV.one (At.int .i64 t7)))), (8, (AV.v (TV.one (At.int .i64 t8))))] [(Blk.mk Bool.false (Body.fl .f32 b0)), (Blk.mk Bool.false (Body.fl .f32 b1)), (Blk.mk Bool.false (Body.fl .f32 b2)), (Blk.mk Bool.true (Body.cells [(At.vw 0 0 q0n 1), (At.vw 1 0 q0r 1), (At.vw 2 0 q0q 1)])), (Blk.mk Bool.true (Body.cells [(At.flt .f32 b4)]))]) K = z0k sn t7 b0 b4 t8 (fun t8' => K .normal (St.mk [(0, (AV.v (TV.one (At.vw 0 0 sn 1)))), (1, (AV.v (TV.one (At.fn 67 [(At.ptr 4 0 1)])))), (7, (AV.v (TV.one (At.int .i64 t7)))), (8, (AV.v (TV.one (At.int .i64 t8'))))] [(Blk.mk Bool.false (Body.fl .f32 b0)), (Blk.mk Bool.false (Body.fl .f32 b1)), (Blk.mk Bool.false (Body.fl .f32 b2)), (Blk.mk Bool.true (Body.cells [(At.vw 0 0 q0n 1), (At.vw 1 0 q0r 1), (At.vw 2 0 q0q 1)])), (Blk.mk Bool.true (Body.cells [(At.flt .f32 b4)]))])) (fun c0_ => K Ex.ret (St.mk [(4, (AV.v (TV.one (At.int .i64 c0_))))] [(Blk.mk Bool.false (Body.fl .f32 b0)), (Blk.mk Bool.false (Body.fl .f32 b1)), (Blk.mk Bool.false (Body.fl .f32 b2)), (Blk.mk Bool.true (Body.cells [(At.vw 0 0 q0n 1), (At.vw 1 0 q0r 1), (At.vw 2 0 q0q 1)])), (Blk.mk Bool.true (Body.cells [(At.flt .f32 b4)]))])) (fun c0_ c1_ => K (Ex.exit 0) (St.mk [(0, (AV.v (TV.one (At.vw 0 0 sn 1)))), (1, (AV.v (TV.one (At.fn 67 [(At.ptr 4 0 1)])))), (7, (AV.v (TV.one (At.int .i64 t7)))), (8, (AV.v (TV.one (At.int .i64 c0_)))), (9, (AV.v (TV.one (At.bool c1_))))] [(Blk.mk Bool.false (Body.fl .f32 b0)), (Blk.mk Bool.false (Body.fl .f32 b1)), (Blk.mk Bool.false (Body.fl .f32 b2)), (Blk.mk Bool.true (Body.cells [(At.vw 0 0 q0n 1), (At.vw 1 0 q0r 1), (At.vw 2 0 q0q 1)])), (Blk.mk Bool.true (Body.cells [(At.flt .f32 b4)]))])) := by kernel_rfl
theorem z9x (sn : Nat) (t7 : Int) (b0 : List Nat) (b1 : List Nat) (b2 : List Nat) (q0n : Nat) (q0r : Nat) (q0q : Nat) (b4 : Nat) : ∀ (n : Nat) (t8 : Int), iter 66 2 5 (evC (R := Ex × St) Γ8 (evFn Γ8 8 8) 66 5 fi66.nt fi66.live fi66.nl 8 (findL 2 (loopsIn fi66.code))) n (St.mk [(0, (AV.v (TV.one (At.vw 0 0 sn 1)))), (1, (AV.v (TV.one (At.fn 67 [(At.ptr 4 0 1)])))), (7, (AV.v (TV.one (At.int .i64 t7)))), (8, (AV.v (TV.one (At.int .i64 t8))))] [(Blk.mk Bool.false (Body.fl .f32 b0)), (Blk.mk Bool.false (Body.fl .f32 b1)), (Blk.mk Bool.false (Body.fl .f32 b2)), (Blk.mk Bool.true (Body.cells [(At.vw 0 0 q0n 1), (At.vw 1 0 q0r 1), (At.vw 2 0 q0q 1)])), (Blk.mk Bool.true (Body.cells [(At.flt .f32 b4)]))]) (fun e st => some (e, st)) = (z1p sn t7 b0 b1 b2 q0n q0r q0q b4) (z08 sn t7 b0 b4 n t8) := by
  intro n
  induction n with
  | zero => intros; rfl
  | succ n ih =>
    intro t8
    refine Eq.trans (iter_succ ..) (Eq.trans (zad sn t7 t8 b0 b1 b2 q0n q0r q0q b4 (nextK 66 2 5 (evC (R := Ex × St) Γ8 (evFn Γ8 8 8) 66 5 fi66.nt fi66.live fi66.nl 8 (findL 2 (loopsIn fi66.code))) n (fun e st => some (e, st)))) (Eq.trans ?_ (z8p sn t7 b0 b4 t8 (z1p sn t7 b0 b1 b2 q0n q0r q0q b4) rfl (fun t8' => z08 sn t7 b0 b4 n t8') (fun c0_ => some (Sum.inl c0_)) (fun c0_ c1_ => some (Sum.inr (c0_, c1_))))))
    exact congrArg (fun kn_ => z0k sn t7 b0 b4 t8 kn_ (fun c0_ => (z1p sn t7 b0 b1 b2 q0n q0r q0q b4) (some (Sum.inl c0_))) (fun c0_ c1_ => (z1p sn t7 b0 b1 b2 q0n q0r q0q b4) (some (Sum.inr (c0_, c1_))))) (funext fun t8' => ih t8')
theorem z97 : LoopOne Try.prog fnTab 66 2 z4x := lp_of (Γ := Γ8) tyTab_ok (FnL.ok fnTab_ok _ _) (LpL.ok lt8_ok) (SumL.ok tb8_ok _) mixed (fi := fi66) (by kernel_rfl) (by kernel_rfl) (by
  intro lo st out hp
  obtain ⟨hs, e1, e2, e3⟩ := lpT_inv hp
  clear hp
  obtain rfl : st = (St.mk [(0, (AV.v (TV.one (At.vw 0 0 (hvN (hGet hs 0)) 1)))), (1, (AV.v (TV.one (At.fn 67 [(At.ptr 4 0 1)])))), (7, (AV.v (TV.one (At.int .i64 (hvI (hGet hs 1)))))), (8, (AV.v (TV.one (At.int .i64 (hvI (hGet hs 2))))))] [(Blk.mk Bool.false (Body.fl .f32 (hvLn (hGet hs 3)))), (Blk.mk Bool.false (Body.fl .f32 (hvLn (hGet hs 4)))), (Blk.mk Bool.false (Body.fl .f32 (hvLn (hGet hs 5)))), (Blk.mk Bool.true (Body.cells [(At.vw 0 0 (hvN (hGet hs 6)) 1), (At.vw 1 0 (hvN (hGet hs 7)) 1), (At.vw 2 0 (hvN (hGet hs 8)) 1)])), (Blk.mk Bool.true (Body.cells [(At.flt .f32 (hvN (hGet hs 9)))]))]) := e2.trans (by kernel_rfl)
  clear e2
  subst e1
  unfold z4s at e3
  injection e3 with h1 h2
  subst h2
  exact ⟨8, 8, big, Eq.trans (z9x (hvN (hGet hs 0)) (hvI (hGet hs 1)) (hvLn (hGet hs 3)) (hvLn (hGet hs 4)) (hvLn (hGet hs 5)) (hvN (hGet hs 6)) (hvN (hGet hs 7)) (hvN (hGet hs 8)) (hvN (hGet hs 9)) big (hvI (hGet hs 2))) (zaa (hvN (hGet hs 0)) (hvI (hGet hs 1)) (hvLn (hGet hs 3)) (hvLn (hGet hs 4)) (hvLn (hGet hs 5)) (hvN (hGet hs 6)) (hvN (hGet hs 7)) (hvN (hGet hs 8)) (hvN (hGet hs 9)) (z08 (hvN (hGet hs 0)) (hvI (hGet hs 1)) (hvLn (hGet hs 3)) (hvN (hGet hs 9)) big (hvI (hGet hs 2))) h1)⟩)
noncomputable def tb9 : List (Nat × (List PT → Option (Bool × AV × List Blk))) := tb8
noncomputable def lt9 : List ((Nat × Nat) × (Nat → St → Option (Bool × LO))) := ((66, 2), z4x) :: lt8
noncomputable def Γ9 : Ctx := ⟨tyTab, fnTab, tblSum tb9, tblLp lt9⟩
theorem tb9_ok : SumL Try.prog tb9 := tb8_ok
theorem lt9_ok : LpL Try.prog fnTab lt9 := LpL.cons z97 (lt8_ok)
noncomputable def zal : List PT → Option (Bool × AV × List Blk)
  | [.agg [.row 1 q02 (.fl .f32 q08), .row 1 q06 (.fl .f32 q0a), .row 1 q07 (.fl .f32 q0b)], .one (.s (.flt .f32 x1))] => some ((z72 q02 q08 q06 q0a q07 q0b x1), ((AV.tup [(TV.one (At.int .i64 (z2c q02 q08 q06 q0a q07 q0b x1))), (TV.one (At.int .i64 (z2b q02 q08 q06 q0a q07 q0b x1))), (TV.one (At.flt .f32 (z2v q02 q08 q06 q0a q07 q0b x1))), (TV.one (At.flt .f32 (z4c q02 q08 q06 q0a q07 q0b x1))), (TV.one (At.flt .f32 (z4u q02 q08 q06 q0a q07 q0b x1)))]), []))
  | _ => none
def ze7 (q02 : Nat) (q08 : List Nat) (q06 : Nat) (q0a : List Nat) (q07 : Nat) (q0b : List Nat) (x1 : Nat) : Option (Int × Int × Nat × Nat × Nat) → Option (AV × List Blk)
  | some r => some ((AV.tup [(TV.one (At.int .i64 r.1)), (TV.one (At.int .i64 r.2.1)), (TV.one (At.flt .f32 r.2.2.1)), (TV.one (At.flt .f32 r.2.2.2.1)), (TV.one (At.flt .f32 r.2.2.2.2))]), [])
  | none => none
theorem zil (q02 : Nat) (q08 : List Nat) (q06 : Nat) (q0a : List Nat) (q07 : Nat) (q0b : List Nat) (x1 : Nat) : evFn Γ9 8 8 52 (impTs 0 [.agg [.row 1 q02 (.fl .f32 q08), .row 1 q06 (.fl .f32 q0a), .row 1 q07 (.fl .f32 q0b)], .one (.s (.flt .f32 x1))]).1 (impTs 0 [.agg [.row 1 q02 (.fl .f32 q08), .row 1 q06 (.fl .f32 q0a), .row 1 q07 (.fl .f32 q0b)], .one (.s (.flt .f32 x1))]).2 (expo (impTs 0 [.agg [.row 1 q02 (.fl .f32 q08), .row 1 q06 (.fl .f32 q0a), .row 1 q07 (.fl .f32 q0b)], .one (.s (.flt .f32 x1))]).2.length) = z3i q02 q08 q06 q0a q07 q0b x1 (fun c0_ c1_ c2_ c3_ c4_ => some ((AV.tup [(TV.one (At.int .i64 c0_)), (TV.one (At.int .i64 c1_)), (TV.one (At.flt .f32 c2_)), (TV.one (At.flt .f32 c3_)), (TV.one (At.flt .f32 c4_))]), [])) := by kernel_rfl
theorem zh8 : SumOne Try.prog 52 zal := sum_of (Γ := Γ9) (fuel := 8) (d := 8) tyTab_ok (FnL.ok fnTab_ok _ _) (LpL.ok lt9_ok) (SumL.ok tb9_ok _) mixed (by
  intro pts v news hp hc
  clear hc
  unfold zal at hp
  split at hp
  · rename_i q02 q08 q06 q0a q07 q0b x1
    exact Eq.trans (Eq.trans (zil q02 q08 q06 q0a q07 q0b x1) (zge q02 q08 q06 q0a q07 q0b x1 (ze7 q02 q08 q06 q0a q07 q0b x1) rfl (fun c0_ c1_ c2_ c3_ c4_ => some (c0_, c1_, c2_, c3_, c4_)))) (fin_out (o := (ze7 q02 q08 q06 q0a q07 q0b x1)) (x := z1t q02 q08 q06 q0a q07 q0b x1) (d := default) (V := fun r => ((AV.tup [(TV.one (At.int .i64 r.1)), (TV.one (At.int .i64 r.2.1)), (TV.one (At.flt .f32 r.2.2.1)), (TV.one (At.flt .f32 r.2.2.2.1)), (TV.one (At.flt .f32 r.2.2.2.2))]), [])) (fun r => rfl) hp)
  · cases hp)
noncomputable def zdb (q1t : Nat) (t43 : Int) (t44 : Int) (b0 : List Nat) (b1 : List Nat) (b2 : List Nat) (q0n : Nat) (q0r : Nat) (q0q : Nat) : Bool × LO := ((z3j q1t t43 b0 q0n t44), (LO.two (z35 q1t t43 b0 q0n t44) (LO.one Ex.ret (St.mk [(2, (AV.v (TV.one (At.bool Bool.false))))] [(Blk.mk Bool.false (Body.fl .f32 b0)), (Blk.mk Bool.false (Body.fl .f32 b1)), (Blk.mk Bool.false (Body.fl .f32 b2))])) (LO.one (Ex.exit 0) (St.mk [(1, (AV.v (TV.one (At.ptr 3 0 3)))), (42, (AV.v (TV.one (At.vw 0 0 q1t 1)))), (43, (AV.v (TV.one (At.int .i64 t43)))), (44, (AV.v (TV.one (At.int .i64 (z8b q1t t43 b0 q0n t44))))), (45, (AV.v (TV.one (At.bool (z8c q1t t43 b0 q0n t44)))))] [(Blk.mk Bool.false (Body.fl .f32 b0)), (Blk.mk Bool.false (Body.fl .f32 b1)), (Blk.mk Bool.false (Body.fl .f32 b2)), (Blk.mk Bool.true (Body.cells [(At.vw 0 0 q0n 1), (At.vw 1 0 q0r 1), (At.vw 2 0 q0q 1)]))]))))
noncomputable def zee : Nat → St → Option (Bool × LO) := lpT 3 (pSt [(pTm 1 (pV (pOne (pPtr 3 (liN 0) 3)))), (pTm 42 (pV (pOne (pVw 0 (liN 0) 1)))), (pTm 43 (pV (pOne (pInt .i64)))), (pTm 44 (pV (pOne (pInt .i64))))] [(pBlk Bool.false (pFl .f32)), (pBlk Bool.false (pFl .f32)), (pBlk Bool.false (pFl .f32)), (pBlk Bool.true (pCells [(pVw 0 (liN 0) 1), (pVw 1 (liN 0) 1), (pVw 2 (liN 0) 1)]))]) (fun hs => zdb (hvN (hGet hs 0)) (hvI (hGet hs 1)) (hvI (hGet hs 2)) (hvLn (hGet hs 3)) (hvLn (hGet hs 4)) (hvLn (hGet hs 5)) (hvN (hGet hs 6)) (hvN (hGet hs 7)) (hvN (hGet hs 8)))
def z54 (q1t : Nat) (t43 : Int) (b0 : List Nat) (b1 : List Nat) (b2 : List Nat) (q0n : Nat) (q0r : Nat) (q0q : Nat) : Option ((Unit) ⊕ (Int × Bool)) → Option (Ex × St)
  | none => none
  | some (Sum.inl r) => some (Ex.ret, (St.mk [(2, (AV.v (TV.one (At.bool Bool.false))))] [(Blk.mk Bool.false (Body.fl .f32 b0)), (Blk.mk Bool.false (Body.fl .f32 b1)), (Blk.mk Bool.false (Body.fl .f32 b2))]))
  | some (Sum.inr r) => some ((Ex.exit 0), (St.mk [(1, (AV.v (TV.one (At.ptr 3 0 3)))), (42, (AV.v (TV.one (At.vw 0 0 q1t 1)))), (43, (AV.v (TV.one (At.int .i64 t43)))), (44, (AV.v (TV.one (At.int .i64 r.1)))), (45, (AV.v (TV.one (At.bool r.2))))] [(Blk.mk Bool.false (Body.fl .f32 b0)), (Blk.mk Bool.false (Body.fl .f32 b1)), (Blk.mk Bool.false (Body.fl .f32 b2)), (Blk.mk Bool.true (Body.cells [(At.vw 0 0 q0n 1), (At.vw 1 0 q0r 1), (At.vw 2 0 q0q 1)]))]))
def zi2 (q1t : Nat) (t43 : Int) (b0 : List Nat) (b1 : List Nat) (b2 : List Nat) (q0n : Nat) (q0r : Nat) (q0q : Nat) (x : Option ((Unit) ⊕ (Int × Bool))) : LO := (LO.two (oL x) (LO.one Ex.ret (St.mk [(2, (AV.v (TV.one (At.bool Bool.false))))] [(Blk.mk Bool.false (Body.fl .f32 b0)), (Blk.mk Bool.false (Body.fl .f32 b1)), (Blk.mk Bool.false (Body.fl .f32 b2))])) (LO.one (Ex.exit 0) (St.mk [(1, (AV.v (TV.one (At.ptr 3 0 3)))), (42, (AV.v (TV.one (At.vw 0 0 q1t 1)))), (43, (AV.v (TV.one (At.int .i64 t43)))), (44, (AV.v (TV.one (At.int .i64 ((tR x).getD default).1)))), (45, (AV.v (TV.one (At.bool ((tR x).getD default).2))))] [(Blk.mk Bool.false (Body.fl .f32 b0)), (Blk.mk Bool.false (Body.fl .f32 b1)), (Blk.mk Bool.false (Body.fl .f32 b2)), (Blk.mk Bool.true (Body.cells [(At.vw 0 0 q0n 1), (At.vw 1 0 q0r 1), (At.vw 2 0 q0q 1)]))])))
theorem zj2 (q1t : Nat) (t43 : Int) (b0 : List Nat) (b1 : List Nat) (b2 : List Nat) (q0n : Nat) (q0r : Nat) (q0q : Nat) : ∀ x : Option ((Unit) ⊕ (Int × Bool)), x.isSome = true → (z54 q1t t43 b0 b1 b2 q0n q0r q0q) x = some (pick (zi2 q1t t43 b0 b1 b2 q0n q0r q0q x))
  | none, h => by cases h
  | some (Sum.inl r), _ => rfl
  | some (Sum.inr r), _ => rfl
theorem ziz (q1t : Nat) (t43 : Int) (t44 : Int) (b0 : List Nat) (b1 : List Nat) (b2 : List Nat) (q0n : Nat) (q0r : Nat) (q0q : Nat) (K : Ex → St → Option (Ex × St)) : evC (R := Ex × St) Γ9 (evFn Γ9 8 8) 21 3 fi21.nt fi21.live fi21.nl 8 (findL 5 (loopsIn fi21.code)) (St.mk [(1, (AV.v (TV.one (At.ptr 3 0 3)))), (42, (AV.v (TV.one (At.vw 0 0 q1t 1)))), (43, (AV.v (TV.one (At.int .i64 t43)))), (44, (AV.v (TV.one (At.int .i64 t44))))] [(Blk.mk Bool.false (Body.fl .f32 b0)), (Blk.mk Bool.false (Body.fl .f32 b1)), (Blk.mk Bool.false (Body.fl .f32 b2)), (Blk.mk Bool.true (Body.cells [(At.vw 0 0 q0n 1), (At.vw 1 0 q0r 1), (At.vw 2 0 q0q 1)]))]) K = z2h q1t t43 b0 q0n t44 (fun t44' => K .normal (St.mk [(1, (AV.v (TV.one (At.ptr 3 0 3)))), (42, (AV.v (TV.one (At.vw 0 0 q1t 1)))), (43, (AV.v (TV.one (At.int .i64 t43)))), (44, (AV.v (TV.one (At.int .i64 t44'))))] [(Blk.mk Bool.false (Body.fl .f32 b0)), (Blk.mk Bool.false (Body.fl .f32 b1)), (Blk.mk Bool.false (Body.fl .f32 b2)), (Blk.mk Bool.true (Body.cells [(At.vw 0 0 q0n 1), (At.vw 1 0 q0r 1), (At.vw 2 0 q0q 1)]))])) (fun _ => K Ex.ret (St.mk [(2, (AV.v (TV.one (At.bool Bool.false))))] [(Blk.mk Bool.false (Body.fl .f32 b0)), (Blk.mk Bool.false (Body.fl .f32 b1)), (Blk.mk Bool.false (Body.fl .f32 b2))])) (fun c0_ c1_ => K (Ex.exit 0) (St.mk [(1, (AV.v (TV.one (At.ptr 3 0 3)))), (42, (AV.v (TV.one (At.vw 0 0 q1t 1)))), (43, (AV.v (TV.one (At.int .i64 t43)))), (44, (AV.v (TV.one (At.int .i64 c0_)))), (45, (AV.v (TV.one (At.bool c1_))))] [(Blk.mk Bool.false (Body.fl .f32 b0)), (Blk.mk Bool.false (Body.fl .f32 b1)), (Blk.mk Bool.false (Body.fl .f32 b2)), (Blk.mk Bool.true (Body.cells [(At.vw 0 0 q0n 1), (At.vw 1 0 q0r 1), (At.vw 2 0 q0q 1)]))])) := by kernel_rfl
theorem ziq (q1t : Nat) (t43 : Int) (b0 : List Nat) (b1 : List Nat) (b2 : List Nat) (q0n : Nat) (q0r : Nat) (q0q : Nat) : ∀ (n : Nat) (t44 : Int), iter 21 5 3 (evC (R := Ex × St) Γ9 (evFn Γ9 8 8) 21 3 fi21.nt fi21.live fi21.nl 8 (findL 5 (loopsIn fi21.code))) n (St.mk [(1, (AV.v (TV.one (At.ptr 3 0 3)))), (42, (AV.v (TV.one (At.vw 0 0 q1t 1)))), (43, (AV.v (TV.one (At.int .i64 t43)))), (44, (AV.v (TV.one (At.int .i64 t44))))] [(Blk.mk Bool.false (Body.fl .f32 b0)), (Blk.mk Bool.false (Body.fl .f32 b1)), (Blk.mk Bool.false (Body.fl .f32 b2)), (Blk.mk Bool.true (Body.cells [(At.vw 0 0 q0n 1), (At.vw 1 0 q0r 1), (At.vw 2 0 q0q 1)]))]) (fun e st => some (e, st)) = (z54 q1t t43 b0 b1 b2 q0n q0r q0q) (z19 q1t t43 b0 q0n n t44) := by
  intro n
  induction n with
  | zero => intros; rfl
  | succ n ih =>
    intro t44
    refine Eq.trans (iter_succ ..) (Eq.trans (ziz q1t t43 t44 b0 b1 b2 q0n q0r q0q (nextK 21 5 3 (evC (R := Ex × St) Γ9 (evFn Γ9 8 8) 21 3 fi21.nt fi21.live fi21.nl 8 (findL 5 (loopsIn fi21.code))) n (fun e st => some (e, st)))) (Eq.trans ?_ (zgu q1t t43 b0 q0n t44 (z54 q1t t43 b0 b1 b2 q0n q0r q0q) rfl (fun t44' => z19 q1t t43 b0 q0n n t44') (fun _ => some (Sum.inl ())) (fun c0_ c1_ => some (Sum.inr (c0_, c1_))))))
    exact congrArg (fun kn_ => z2h q1t t43 b0 q0n t44 kn_ (fun _ => (z54 q1t t43 b0 b1 b2 q0n q0r q0q) (some (Sum.inl ()))) (fun c0_ c1_ => (z54 q1t t43 b0 b1 b2 q0n q0r q0q) (some (Sum.inr (c0_, c1_))))) (funext fun t44' => ih t44')
theorem zhf : LoopOne Try.prog fnTab 21 5 zee := lp_of (Γ := Γ9) tyTab_ok (FnL.ok fnTab_ok _ _) (LpL.ok lt9_ok) (SumL.ok tb9_ok _) mixed (fi := fi21) (by kernel_rfl) (by kernel_rfl) (by
  intro lo st out hp
  obtain ⟨hs, e1, e2, e3⟩ := lpT_inv hp
  clear hp
  obtain rfl : st = (St.mk [(1, (AV.v (TV.one (At.ptr 3 0 3)))), (42, (AV.v (TV.one (At.vw 0 0 (hvN (hGet hs 0)) 1)))), (43, (AV.v (TV.one (At.int .i64 (hvI (hGet hs 1)))))), (44, (AV.v (TV.one (At.int .i64 (hvI (hGet hs 2))))))] [(Blk.mk Bool.false (Body.fl .f32 (hvLn (hGet hs 3)))), (Blk.mk Bool.false (Body.fl .f32 (hvLn (hGet hs 4)))), (Blk.mk Bool.false (Body.fl .f32 (hvLn (hGet hs 5)))), (Blk.mk Bool.true (Body.cells [(At.vw 0 0 (hvN (hGet hs 6)) 1), (At.vw 1 0 (hvN (hGet hs 7)) 1), (At.vw 2 0 (hvN (hGet hs 8)) 1)]))]) := e2.trans (by kernel_rfl)
  clear e2
  subst e1
  unfold zdb at e3
  injection e3 with h1 h2
  subst h2
  exact ⟨8, 8, big, Eq.trans (ziq (hvN (hGet hs 0)) (hvI (hGet hs 1)) (hvLn (hGet hs 3)) (hvLn (hGet hs 4)) (hvLn (hGet hs 5)) (hvN (hGet hs 6)) (hvN (hGet hs 7)) (hvN (hGet hs 8)) big (hvI (hGet hs 2))) (zj2 (hvN (hGet hs 0)) (hvI (hGet hs 1)) (hvLn (hGet hs 3)) (hvLn (hGet hs 4)) (hvLn (hGet hs 5)) (hvN (hGet hs 6)) (hvN (hGet hs 7)) (hvN (hGet hs 8)) (z19 (hvN (hGet hs 0)) (hvI (hGet hs 1)) (hvLn (hGet hs 3)) (hvN (hGet hs 6)) big (hvI (hGet hs 2))) h1)⟩)
noncomputable def tb10 : List (Nat × (List PT → Option (Bool × AV × List Blk))) := (52, zal) :: tb9
noncomputable def lt10 : List ((Nat × Nat) × (Nat → St → Option (Bool × LO))) := ((21, 5), zee) :: lt9
noncomputable def Γ10 : Ctx := ⟨tyTab, fnTab, tblSum tb10, tblLp lt10⟩
theorem tb10_ok : SumL Try.prog tb10 := SumL.cons zh8 (tb9_ok)
theorem lt10_ok : LpL Try.prog fnTab lt10 := LpL.cons zhf (lt9_ok)
noncomputable def zd0 : List PT → Option (Bool × AV × List Blk)
  | [.agg [.row 1 q02 (.fl .f32 q08), .row 1 q06 (.fl .f32 q0a), .row 1 q07 (.fl .f32 q0b)]] => some ((z0x q02 q08 q06 q0a q07 q0b), ((AV.v (TV.one (At.bool (z0s q02 q08 q06 q0a q07 q0b)))), []))
  | _ => none
def zfp (q02 : Nat) (q08 : List Nat) (q06 : Nat) (q0a : List Nat) (q07 : Nat) (q0b : List Nat) : Option (Bool) → Option (AV × List Blk)
  | some r => some ((AV.v (TV.one (At.bool r))), [])
  | none => none
theorem zl0 (q02 : Nat) (q08 : List Nat) (q06 : Nat) (q0a : List Nat) (q07 : Nat) (q0b : List Nat) : evFn Γ10 8 8 21 (impTs 0 [.agg [.row 1 q02 (.fl .f32 q08), .row 1 q06 (.fl .f32 q0a), .row 1 q07 (.fl .f32 q0b)]]).1 (impTs 0 [.agg [.row 1 q02 (.fl .f32 q08), .row 1 q06 (.fl .f32 q0a), .row 1 q07 (.fl .f32 q0b)]]).2 (expo (impTs 0 [.agg [.row 1 q02 (.fl .f32 q08), .row 1 q06 (.fl .f32 q0a), .row 1 q07 (.fl .f32 q0b)]]).2.length) = z4z q02 q08 q06 q0a q07 q0b (fun c0_ => some ((AV.v (TV.one (At.bool c0_))), [])) := by kernel_rfl
theorem zj1 : SumOne Try.prog 21 zd0 := sum_of (Γ := Γ10) (fuel := 8) (d := 8) tyTab_ok (FnL.ok fnTab_ok _ _) (LpL.ok lt10_ok) (SumL.ok tb10_ok _) mixed (by
  intro pts v news hp hc
  clear hc
  unfold zd0 at hp
  split at hp
  · rename_i q02 q08 q06 q0a q07 q0b
    exact Eq.trans (Eq.trans (zl0 q02 q08 q06 q0a q07 q0b) (zi4 q02 q08 q06 q0a q07 q0b (zfp q02 q08 q06 q0a q07 q0b) rfl (fun c0_ => some c0_))) (fin_out (o := (zfp q02 q08 q06 q0a q07 q0b)) (x := z50 q02 q08 q06 q0a q07 q0b) (d := default) (V := fun r => ((AV.v (TV.one (At.bool r))), [])) (fun r => rfl) hp)
  · cases hp)
noncomputable def ze6 : List PT → Option (Bool × AV × List Blk)
  | [.agg [.row 1 q03 (.fl .f32 q09), .row 1 q05 (.fl .f32 q0d), .row 1 q04 (.fl .f32 q0c)], .one (.row 1 q0w (.fl .f32 q14)), .one (.s (.flt .f32 q0t))] => some ((z7z q03 q09 q05 q0d q04 q0c q0w q14 q0t), ((AV.v (TV.one (At.flt .f32 (z3e q03 q09 q05 q0d q04 q0c q0w q14 q0t)))), []))
  | _ => none
def zh0 (q03 : Nat) (q09 : List Nat) (q05 : Nat) (q0d : List Nat) (q04 : Nat) (q0c : List Nat) (q0w : Nat) (q14 : List Nat) (q0t : Nat) : Option (Nat) → Option (AV × List Blk)
  | some r => some ((AV.v (TV.one (At.flt .f32 r))), [])
  | none => none
theorem zma (q03 : Nat) (q09 : List Nat) (q05 : Nat) (q0d : List Nat) (q04 : Nat) (q0c : List Nat) (q0w : Nat) (q14 : List Nat) (q0t : Nat) : evFn Γ10 8 8 32 (impTs 0 [.agg [.row 1 q03 (.fl .f32 q09), .row 1 q05 (.fl .f32 q0d), .row 1 q04 (.fl .f32 q0c)], .one (.row 1 q0w (.fl .f32 q14)), .one (.s (.flt .f32 q0t))]).1 (impTs 0 [.agg [.row 1 q03 (.fl .f32 q09), .row 1 q05 (.fl .f32 q0d), .row 1 q04 (.fl .f32 q0c)], .one (.row 1 q0w (.fl .f32 q14)), .one (.s (.flt .f32 q0t))]).2 (expo (impTs 0 [.agg [.row 1 q03 (.fl .f32 q09), .row 1 q05 (.fl .f32 q0d), .row 1 q04 (.fl .f32 q0c)], .one (.row 1 q0w (.fl .f32 q14)), .one (.s (.flt .f32 q0t))]).2.length) = z67 q03 q09 q05 q0d q04 q0c q0w q14 q0t (fun c0_ => some ((AV.v (TV.one (At.flt .f32 c0_))), [])) := by kernel_rfl
theorem zk1 : SumOne Try.prog 32 ze6 := sum_of (Γ := Γ10) (fuel := 8) (d := 8) tyTab_ok (FnL.ok fnTab_ok _ _) (LpL.ok lt10_ok) (SumL.ok tb10_ok _) mixed (by
  intro pts v news hp hc
  clear hc
  unfold ze6 at hp
  split at hp
  · rename_i q03 q09 q05 q0d q04 q0c q0w q14 q0t
    exact Eq.trans (Eq.trans (zma q03 q09 q05 q0d q04 q0c q0w q14 q0t) (zjo q03 q09 q05 q0d q04 q0c q0w q14 q0t (zh0 q03 q09 q05 q0d q04 q0c q0w q14 q0t) rfl (fun c0_ => some c0_))) (fin_out (o := (zh0 q03 q09 q05 q0d q04 q0c q0w q14 q0t)) (x := z68 q03 q09 q05 q0d q04 q0c q0w q14 q0t) (d := default) (V := fun r => ((AV.v (TV.one (At.flt .f32 r))), [])) (fun r => rfl) hp)
  · cases hp)
noncomputable def tb11 : List (Nat × (List PT → Option (Bool × AV × List Blk))) := (21, zd0) :: (32, ze6) :: tb10
noncomputable def lt11 : List ((Nat × Nat) × (Nat → St → Option (Bool × LO))) := lt10
noncomputable def Γ11 : Ctx := ⟨tyTab, fnTab, tblSum tb11, tblLp lt11⟩
theorem tb11_ok : SumL Try.prog tb11 := SumL.cons zj1 (SumL.cons zk1 (tb10_ok))
theorem lt11_ok : LpL Try.prog fnTab lt11 := lt10_ok
noncomputable def zgh : List PT → Option (Bool × AV × List Blk)
  | [.agg [.row 1 q03 (.fl .f32 q09), .row 1 q05 (.fl .f32 q0d), .row 1 q04 (.fl .f32 q0c)], .one (.s (.flt .f32 q0t))] => some ((z3q q03 q09 q05 q0d q04 q0c q0t), ((AV.tup [(TV.one (At.flt .f32 (z4k q03 q09 q05 q0d q04 q0c q0t))), (TV.one (At.bool (z37 q03 q09 q05 q0d q04 q0c q0t)))]), []))
  | _ => none
def zkf (q03 : Nat) (q09 : List Nat) (q05 : Nat) (q0d : List Nat) (q04 : Nat) (q0c : List Nat) (q0t : Nat) : Option (Nat × Bool) → Option (AV × List Blk)
  | some r => some ((AV.tup [(TV.one (At.flt .f32 r.1)), (TV.one (At.bool r.2))]), [])
  | none => none
theorem znn (q03 : Nat) (q09 : List Nat) (q05 : Nat) (q0d : List Nat) (q04 : Nat) (q0c : List Nat) (q0t : Nat) : evFn Γ11 8 8 13 (impTs 0 [.agg [.row 1 q03 (.fl .f32 q09), .row 1 q05 (.fl .f32 q0d), .row 1 q04 (.fl .f32 q0c)], .one (.s (.flt .f32 q0t))]).1 (impTs 0 [.agg [.row 1 q03 (.fl .f32 q09), .row 1 q05 (.fl .f32 q0d), .row 1 q04 (.fl .f32 q0c)], .one (.s (.flt .f32 q0t))]).2 (expo (impTs 0 [.agg [.row 1 q03 (.fl .f32 q09), .row 1 q05 (.fl .f32 q0d), .row 1 q04 (.fl .f32 q0c)], .one (.s (.flt .f32 q0t))]).2.length) = z9s q03 q09 q05 q0d q04 q0c q0t (fun c0_ c1_ => some ((AV.tup [(TV.one (At.flt .f32 c0_)), (TV.one (At.bool c1_))]), [])) := by kernel_rfl
theorem zmm : SumOne Try.prog 13 zgh := sum_of (Γ := Γ11) (fuel := 8) (d := 8) tyTab_ok (FnL.ok fnTab_ok _ _) (LpL.ok lt11_ok) (SumL.ok tb11_ok _) mixed (by
  intro pts v news hp hc
  clear hc
  unfold zgh at hp
  split at hp
  · rename_i q03 q09 q05 q0d q04 q0c q0t
    exact Eq.trans (Eq.trans (znn q03 q09 q05 q0d q04 q0c q0t) (zlr q03 q09 q05 q0d q04 q0c q0t (zkf q03 q09 q05 q0d q04 q0c q0t) rfl (fun c0_ c1_ => some (c0_, c1_)))) (fin_out (o := (zkf q03 q09 q05 q0d q04 q0c q0t)) (x := z7w q03 q09 q05 q0d q04 q0c q0t) (d := default) (V := fun r => ((AV.tup [(TV.one (At.flt .f32 r.1)), (TV.one (At.bool r.2))]), [])) (fun r => rfl) hp)
  · cases hp)
noncomputable def zgm : List PT → Option (Bool × AV × List Blk)
  | [.agg [.row 1 q03 (.fl .f32 q09), .row 1 q05 (.fl .f32 q0d), .row 1 q04 (.fl .f32 q0c)], .one (.s (.flt .f32 q0t))] => some ((z9t q03 q09 q05 q0d q04 q0c q0t), ((AV.tup [(TV.one (At.flt .f32 (z8s q03 q09 q05 q0d q04 q0c q0t))), (TV.one (At.bool (z8o q03 q09 q05 q0d q04 q0c q0t)))]), []))
  | _ => none
def zke (q03 : Nat) (q09 : List Nat) (q05 : Nat) (q0d : List Nat) (q04 : Nat) (q0c : List Nat) (q0t : Nat) : Option (Nat × Bool) → Option (AV × List Blk)
  | some r => some ((AV.tup [(TV.one (At.flt .f32 r.1)), (TV.one (At.bool r.2))]), [])
  | none => none
theorem znk (q03 : Nat) (q09 : List Nat) (q05 : Nat) (q0d : List Nat) (q04 : Nat) (q0c : List Nat) (q0t : Nat) : evFn Γ11 8 8 20 (impTs 0 [.agg [.row 1 q03 (.fl .f32 q09), .row 1 q05 (.fl .f32 q0d), .row 1 q04 (.fl .f32 q0c)], .one (.s (.flt .f32 q0t))]).1 (impTs 0 [.agg [.row 1 q03 (.fl .f32 q09), .row 1 q05 (.fl .f32 q0d), .row 1 q04 (.fl .f32 q0c)], .one (.s (.flt .f32 q0t))]).2 (expo (impTs 0 [.agg [.row 1 q03 (.fl .f32 q09), .row 1 q05 (.fl .f32 q0d), .row 1 q04 (.fl .f32 q0c)], .one (.s (.flt .f32 q0t))]).2.length) = z9p q03 q09 q05 q0d q04 q0c q0t (fun c0_ c1_ => some ((AV.tup [(TV.one (At.flt .f32 c0_)), (TV.one (At.bool c1_))]), [])) := by kernel_rfl
theorem zmj : SumOne Try.prog 20 zgm := sum_of (Γ := Γ11) (fuel := 8) (d := 8) tyTab_ok (FnL.ok fnTab_ok _ _) (LpL.ok lt11_ok) (SumL.ok tb11_ok _) mixed (by
  intro pts v news hp hc
  clear hc
  unfold zgm at hp
  split at hp
  · rename_i q03 q09 q05 q0d q04 q0c q0t
    exact Eq.trans (Eq.trans (znk q03 q09 q05 q0d q04 q0c q0t) (zm5 q03 q09 q05 q0d q04 q0c q0t (zke q03 q09 q05 q0d q04 q0c q0t) rfl (fun c0_ c1_ => some (c0_, c1_)))) (fin_out (o := (zke q03 q09 q05 q0d q04 q0c q0t)) (x := z7s q03 q09 q05 q0d q04 q0c q0t) (d := default) (V := fun r => ((AV.tup [(TV.one (At.flt .f32 r.1)), (TV.one (At.bool r.2))]), [])) (fun r => rfl) hp)
  · cases hp)
noncomputable def z8j (b0 : List Int) (q0g : Nat) (q0l : Int) (q0m : Int) : Bool × LO := ((z2j b0 q0g q0l q0m), (LO.one Ex.ret (St.mk [(2, (AV.v (TV.one (At.int .i64 (z0m b0 q0g q0l q0m)))))] [(Blk.mk Bool.false (Body.il .u8 b0)), (Blk.mk Bool.true (Body.cells [At.nilsl, At.nilsl, At.nilsl])), (Blk.mk Bool.true (Body.cells [(At.vw 0 0 q0g 1), (At.int .i64 (z01 b0 q0g q0l q0m)), (At.int .u64 (z00 b0 q0g q0l q0m))])), (Blk.mk Bool.true (Body.cells [At.nilsl, At.nilsl, At.nilsl]))])))
noncomputable def z9f : Nat → St → Option (Bool × LO) := lpT 4 (pSt [(pTm 0 (pV (pOne (pPtr 2 (liN 0) 3))))] [(pBlk Bool.false (pIl .u8)), (pBlk Bool.true (pCells [pNil, pNil, pNil])), (pBlk Bool.true (pCells [(pVw 0 (liN 0) 1), (pInt .i64), (pInt .u64)])), (pBlk Bool.true (pCells [pNil, pNil, pNil]))]) (fun hs => z8j (hvLi (hGet hs 0)) (hvN (hGet hs 1)) (hvI (hGet hs 2)) (hvI (hGet hs 3)))
def z5z (b0 : List Int) (q0g : Nat) (q0l : Int) (q0m : Int) : Option ((Int × Int × Int)) → Option (Ex × St)
  | none => none
  | some r => some (Ex.ret, (St.mk [(2, (AV.v (TV.one (At.int .i64 r.1))))] [(Blk.mk Bool.false (Body.il .u8 b0)), (Blk.mk Bool.true (Body.cells [At.nilsl, At.nilsl, At.nilsl])), (Blk.mk Bool.true (Body.cells [(At.vw 0 0 q0g 1), (At.int .i64 r.2.1), (At.int .u64 r.2.2)])), (Blk.mk Bool.true (Body.cells [At.nilsl, At.nilsl, At.nilsl]))]))
def zel (b0 : List Int) (q0g : Nat) (q0l : Int) (q0m : Int) (x : Option ((Int × Int × Int))) : LO := (LO.one Ex.ret (St.mk [(2, (AV.v (TV.one (At.int .i64 (x.getD default).1))))] [(Blk.mk Bool.false (Body.il .u8 b0)), (Blk.mk Bool.true (Body.cells [At.nilsl, At.nilsl, At.nilsl])), (Blk.mk Bool.true (Body.cells [(At.vw 0 0 q0g 1), (At.int .i64 (x.getD default).2.1), (At.int .u64 (x.getD default).2.2)])), (Blk.mk Bool.true (Body.cells [At.nilsl, At.nilsl, At.nilsl]))]))
theorem zf0 (b0 : List Int) (q0g : Nat) (q0l : Int) (q0m : Int) : ∀ x : Option ((Int × Int × Int)), x.isSome = true → (z5z b0 q0g q0l q0m) x = some (pick (zel b0 q0g q0l q0m x))
  | none, h => by cases h
  | some r, _ => rfl
theorem zez (b0 : List Int) (q0g : Nat) (q0l : Int) (q0m : Int) (K : Ex → St → Option (Ex × St)) : evC (R := Ex × St) Γ11 (evFn Γ11 8 8) 65 4 fi65.nt fi65.live fi65.nl 8 fi65.code (St.mk [(0, (AV.v (TV.one (At.ptr 2 0 3))))] [(Blk.mk Bool.false (Body.il .u8 b0)), (Blk.mk Bool.true (Body.cells [At.nilsl, At.nilsl, At.nilsl])), (Blk.mk Bool.true (Body.cells [(At.vw 0 0 q0g 1), (At.int .i64 q0l), (At.int .u64 q0m)])), (Blk.mk Bool.true (Body.cells [At.nilsl, At.nilsl, At.nilsl]))]) K = z22 b0 q0g q0l q0m (fun _ => K .normal (St.mk [(0, (AV.v (TV.one (At.ptr 2 0 3))))] [(Blk.mk Bool.false (Body.il .u8 b0)), (Blk.mk Bool.true (Body.cells [At.nilsl, At.nilsl, At.nilsl])), (Blk.mk Bool.true (Body.cells [(At.vw 0 0 q0g 1), (At.int .i64 q0l), (At.int .u64 q0m)])), (Blk.mk Bool.true (Body.cells [At.nilsl, At.nilsl, At.nilsl]))])) (fun c0_ c1_ c2_ => K Ex.ret (St.mk [(2, (AV.v (TV.one (At.int .i64 c0_))))] [(Blk.mk Bool.false (Body.il .u8 b0)), (Blk.mk Bool.true (Body.cells [At.nilsl, At.nilsl, At.nilsl])), (Blk.mk Bool.true (Body.cells [(At.vw 0 0 q0g 1), (At.int .i64 c1_), (At.int .u64 c2_)])), (Blk.mk Bool.true (Body.cells [At.nilsl, At.nilsl, At.nilsl]))])) := by kernel_rfl
theorem zey (b0 : List Int) (q0g : Nat) (q0l : Int) (q0m : Int) : evC (R := Ex × St) Γ11 (evFn Γ11 8 8) 65 4 fi65.nt fi65.live fi65.nl 8 fi65.code (St.mk [(0, (AV.v (TV.one (At.ptr 2 0 3))))] [(Blk.mk Bool.false (Body.il .u8 b0)), (Blk.mk Bool.true (Body.cells [At.nilsl, At.nilsl, At.nilsl])), (Blk.mk Bool.true (Body.cells [(At.vw 0 0 q0g 1), (At.int .i64 q0l), (At.int .u64 q0m)])), (Blk.mk Bool.true (Body.cells [At.nilsl, At.nilsl, At.nilsl]))]) (fun e st => some (e, st)) = (z5z b0 q0g q0l q0m) (z0r b0 q0g q0l q0m big ) := by
  obtain ⟨n, hn⟩ := big_succ
  rw [hn]
  refine Eq.trans (zez b0 q0g q0l q0m (fun e st => some (e, st))) (Eq.trans ?_ (zds b0 q0g q0l q0m (z5z b0 q0g q0l q0m) rfl (fun _ => z0r b0 q0g q0l q0m n ) (fun c0_ c1_ c2_ => some (c0_, c1_, c2_))))
  unfold z22
  rfl
theorem ze0 : LoopOne Try.prog fnTab 65 bodyId z9f := bd_of (Γ := Γ11) tyTab_ok (FnL.ok fnTab_ok _ _) (LpL.ok lt11_ok) (SumL.ok tb11_ok _) mixed (fi := fi65) (by kernel_rfl) (by kernel_rfl) (by
  intro lo st out hp
  obtain ⟨hs, e1, e2, e3⟩ := lpT_inv hp
  clear hp
  obtain rfl : st = (St.mk [(0, (AV.v (TV.one (At.ptr 2 0 3))))] [(Blk.mk Bool.false (Body.il .u8 (hvLi (hGet hs 0)))), (Blk.mk Bool.true (Body.cells [At.nilsl, At.nilsl, At.nilsl])), (Blk.mk Bool.true (Body.cells [(At.vw 0 0 (hvN (hGet hs 1)) 1), (At.int .i64 (hvI (hGet hs 2))), (At.int .u64 (hvI (hGet hs 3)))])), (Blk.mk Bool.true (Body.cells [At.nilsl, At.nilsl, At.nilsl]))]) := e2.trans (by kernel_rfl)
  clear e2
  subst e1
  unfold z8j at e3
  injection e3 with h1 h2
  subst h2
  exact ⟨8, 8, Eq.trans (zey (hvLi (hGet hs 0)) (hvN (hGet hs 1)) (hvI (hGet hs 2)) (hvI (hGet hs 3)) ) (zf0 (hvLi (hGet hs 0)) (hvN (hGet hs 1)) (hvI (hGet hs 2)) (hvI (hGet hs 3)) (z0r (hvLi (hGet hs 0)) (hvN (hGet hs 1)) (hvI (hGet hs 2)) (hvI (hGet hs 3)) big ) h1)⟩)
noncomputable def tb12 : List (Nat × (List PT → Option (Bool × AV × List Blk))) := (13, zgh) :: (20, zgm) :: tb11
noncomputable def lt12 : List ((Nat × Nat) × (Nat → St → Option (Bool × LO))) := ((65, 1000000007), z9f) :: lt11
noncomputable def Γ12 : Ctx := ⟨tyTab, fnTab, tblSum tb12, tblLp lt12⟩
theorem tb12_ok : SumL Try.prog tb12 := SumL.cons zmm (SumL.cons zmj (tb11_ok))
theorem lt12_ok : LpL Try.prog fnTab lt12 := LpL.cons ze0 (lt11_ok)
noncomputable def ze1 : List PT → Option (Bool × AV × List Blk)
  | [.agg [.row 1 q03 (.fl .f32 q09), .row 1 q05 (.fl .f32 q0d), .row 1 q04 (.fl .f32 q0c)], .one (.s (.flt .f32 q0i)), .one (.s (.flt .f32 to))] => some ((z80 q03 q09 q05 q0d q04 q0c q0i to), ((AV.tup [(TV.agg [(At.sl 0 0 (za8 q03 q09 q05 q0d q04 q0c q0i to) 1), (At.sl 1 0 (za6 q03 q09 q05 q0d q04 q0c q0i to) 1), (At.sl 2 0 (zaf q03 q09 q05 q0d q04 q0c q0i to) 1)]), (TV.one (At.bool (z75 q03 q09 q05 q0d q04 q0c q0i to)))]), [(Blk.mk Bool.true (Body.fl .f32 (z9z q03 q09 q05 q0d q04 q0c q0i to))), (Blk.mk Bool.true (Body.fl .f32 (za2 q03 q09 q05 q0d q04 q0c q0i to))), (Blk.mk Bool.true (Body.fl .f32 (za3 q03 q09 q05 q0d q04 q0c q0i to)))]))
  | _ => none
def zh1 (q03 : Nat) (q09 : List Nat) (q05 : Nat) (q0d : List Nat) (q04 : Nat) (q0c : List Nat) (q0i : Nat) (to : Nat) : Option (Nat × Nat × Nat × Bool × (List Nat) × (List Nat) × (List Nat)) → Option (AV × List Blk)
  | some r => some ((AV.tup [(TV.agg [(At.sl 0 0 r.1 1), (At.sl 1 0 r.2.1 1), (At.sl 2 0 r.2.2.1 1)]), (TV.one (At.bool r.2.2.2.1))]), [(Blk.mk Bool.true (Body.fl .f32 r.2.2.2.2.1)), (Blk.mk Bool.true (Body.fl .f32 r.2.2.2.2.2.1)), (Blk.mk Bool.true (Body.fl .f32 r.2.2.2.2.2.2))])
  | none => none
theorem zly (q03 : Nat) (q09 : List Nat) (q05 : Nat) (q0d : List Nat) (q04 : Nat) (q0c : List Nat) (q0i : Nat) (to : Nat) : evFn Γ12 8 8 25 (impTs 0 [.agg [.row 1 q03 (.fl .f32 q09), .row 1 q05 (.fl .f32 q0d), .row 1 q04 (.fl .f32 q0c)], .one (.s (.flt .f32 q0i)), .one (.s (.flt .f32 to))]).1 (impTs 0 [.agg [.row 1 q03 (.fl .f32 q09), .row 1 q05 (.fl .f32 q0d), .row 1 q04 (.fl .f32 q0c)], .one (.s (.flt .f32 q0i)), .one (.s (.flt .f32 to))]).2 (expo (impTs 0 [.agg [.row 1 q03 (.fl .f32 q09), .row 1 q05 (.fl .f32 q0d), .row 1 q04 (.fl .f32 q0c)], .one (.s (.flt .f32 q0i)), .one (.s (.flt .f32 to))]).2.length) = z6a q03 q09 q05 q0d q04 q0c q0i to (fun c0_ c1_ c2_ c3_ c4_ c5_ c6_ => some ((AV.tup [(TV.agg [(At.sl 0 0 c0_ 1), (At.sl 1 0 c1_ 1), (At.sl 2 0 c2_ 1)]), (TV.one (At.bool c3_))]), [(Blk.mk Bool.true (Body.fl .f32 c4_)), (Blk.mk Bool.true (Body.fl .f32 c5_)), (Blk.mk Bool.true (Body.fl .f32 c6_))])) := by kernel_rfl
theorem zk0 : SumOne Try.prog 25 ze1 := sum_of (Γ := Γ12) (fuel := 8) (d := 8) tyTab_ok (FnL.ok fnTab_ok _ _) (LpL.ok lt12_ok) (SumL.ok tb12_ok _) mixed (by
  intro pts v news hp hc
  clear hc
  unfold ze1 at hp
  split at hp
  · rename_i q03 q09 q05 q0d q04 q0c q0i to
    exact Eq.trans (Eq.trans (zly q03 q09 q05 q0d q04 q0c q0i to) (zje q03 q09 q05 q0d q04 q0c q0i to (zh1 q03 q09 q05 q0d q04 q0c q0i to) rfl (fun c0_ c1_ c2_ c3_ c4_ c5_ c6_ => some (c0_, c1_, c2_, c3_, c4_, c5_, c6_)))) (fin_out (o := (zh1 q03 q09 q05 q0d q04 q0c q0i to)) (x := z2e q03 q09 q05 q0d q04 q0c q0i to) (d := default) (V := fun r => ((AV.tup [(TV.agg [(At.sl 0 0 r.1 1), (At.sl 1 0 r.2.1 1), (At.sl 2 0 r.2.2.1 1)]), (TV.one (At.bool r.2.2.2.1))]), [(Blk.mk Bool.true (Body.fl .f32 r.2.2.2.2.1)), (Blk.mk Bool.true (Body.fl .f32 r.2.2.2.2.2.1)), (Blk.mk Bool.true (Body.fl .f32 r.2.2.2.2.2.2))])) (fun r => rfl) hp)
  · cases hp)
noncomputable def tb13 : List (Nat × (List PT → Option (Bool × AV × List Blk))) := (25, ze1) :: tb12
noncomputable def lt13 : List ((Nat × Nat) × (Nat → St → Option (Bool × LO))) := lt12
noncomputable def Γ13 : Ctx := ⟨tyTab, fnTab, tblSum tb13, tblLp lt13⟩
theorem tb13_ok : SumL Try.prog tb13 := SumL.cons zk0 (tb12_ok)
theorem lt13_ok : LpL Try.prog fnTab lt13 := lt12_ok
noncomputable def z7e (b0 : List Int) (q0g : Nat) (q0l : Int) (q0m : Int) (q0p : Nat) (q0j : Nat) (q0k : Nat) (b5 : List Nat) (b6 : List Nat) (b7 : List Nat) : Bool × LO := ((z11 b0 q0g q0l q0m), (LO.one Ex.ret (St.mk [(2, (AV.v (TV.one (At.int .i64 (z07 b0 q0g q0l q0m)))))] [(Blk.mk Bool.false (Body.il .u8 b0)), (Blk.mk Bool.true (Body.cells [At.nilsl, At.nilsl, At.nilsl])), (Blk.mk Bool.true (Body.cells [(At.vw 0 0 q0g 1), (At.int .i64 (z02 b0 q0g q0l q0m)), (At.int .u64 (z03 b0 q0g q0l q0m))])), (Blk.mk Bool.true (Body.cells [At.nilsl, At.nilsl, At.nilsl])), (Blk.mk Bool.true (Body.cells [(At.sl 5 0 q0p 1), (At.sl 6 0 q0j 1), (At.sl 7 0 q0k 1)])), (Blk.mk Bool.true (Body.fl .f32 b5)), (Blk.mk Bool.true (Body.fl .f32 b6)), (Blk.mk Bool.true (Body.fl .f32 b7))])))
noncomputable def z8l : Nat → St → Option (Bool × LO) := lpT 8 (pSt [(pTm 0 (pV (pOne (pPtr 2 (liN 0) 3))))] [(pBlk Bool.false (pIl .u8)), (pBlk Bool.true (pCells [pNil, pNil, pNil])), (pBlk Bool.true (pCells [(pVw 0 (liN 0) 1), (pInt .i64), (pInt .u64)])), (pBlk Bool.true (pCells [pNil, pNil, pNil])), (pBlk Bool.true (pCells [(pSl 5 (liN 0) 1), (pSl 6 (liN 0) 1), (pSl 7 (liN 0) 1)])), (pBlk Bool.true (pFl .f32)), (pBlk Bool.true (pFl .f32)), (pBlk Bool.true (pFl .f32))]) (fun hs => z7e (hvLi (hGet hs 0)) (hvN (hGet hs 1)) (hvI (hGet hs 2)) (hvI (hGet hs 3)) (hvN (hGet hs 4)) (hvN (hGet hs 5)) (hvN (hGet hs 6)) (hvLn (hGet hs 7)) (hvLn (hGet hs 8)) (hvLn (hGet hs 9)))
def z59 (b0 : List Int) (q0g : Nat) (q0l : Int) (q0m : Int) (q0p : Nat) (q0j : Nat) (q0k : Nat) (b5 : List Nat) (b6 : List Nat) (b7 : List Nat) : Option ((Int × Int × Int)) → Option (Ex × St)
  | none => none
  | some r => some (Ex.ret, (St.mk [(2, (AV.v (TV.one (At.int .i64 r.1))))] [(Blk.mk Bool.false (Body.il .u8 b0)), (Blk.mk Bool.true (Body.cells [At.nilsl, At.nilsl, At.nilsl])), (Blk.mk Bool.true (Body.cells [(At.vw 0 0 q0g 1), (At.int .i64 r.2.1), (At.int .u64 r.2.2)])), (Blk.mk Bool.true (Body.cells [At.nilsl, At.nilsl, At.nilsl])), (Blk.mk Bool.true (Body.cells [(At.sl 5 0 q0p 1), (At.sl 6 0 q0j 1), (At.sl 7 0 q0k 1)])), (Blk.mk Bool.true (Body.fl .f32 b5)), (Blk.mk Bool.true (Body.fl .f32 b6)), (Blk.mk Bool.true (Body.fl .f32 b7))]))
def ze3 (b0 : List Int) (q0g : Nat) (q0l : Int) (q0m : Int) (q0p : Nat) (q0j : Nat) (q0k : Nat) (b5 : List Nat) (b6 : List Nat) (b7 : List Nat) (x : Option ((Int × Int × Int))) : LO := (LO.one Ex.ret (St.mk [(2, (AV.v (TV.one (At.int .i64 (x.getD default).1))))] [(Blk.mk Bool.false (Body.il .u8 b0)), (Blk.mk Bool.true (Body.cells [At.nilsl, At.nilsl, At.nilsl])), (Blk.mk Bool.true (Body.cells [(At.vw 0 0 q0g 1), (At.int .i64 (x.getD default).2.1), (At.int .u64 (x.getD default).2.2)])), (Blk.mk Bool.true (Body.cells [At.nilsl, At.nilsl, At.nilsl])), (Blk.mk Bool.true (Body.cells [(At.sl 5 0 q0p 1), (At.sl 6 0 q0j 1), (At.sl 7 0 q0k 1)])), (Blk.mk Bool.true (Body.fl .f32 b5)), (Blk.mk Bool.true (Body.fl .f32 b6)), (Blk.mk Bool.true (Body.fl .f32 b7))]))
theorem ze9 (b0 : List Int) (q0g : Nat) (q0l : Int) (q0m : Int) (q0p : Nat) (q0j : Nat) (q0k : Nat) (b5 : List Nat) (b6 : List Nat) (b7 : List Nat) : ∀ x : Option ((Int × Int × Int)), x.isSome = true → (z59 b0 q0g q0l q0m q0p q0j q0k b5 b6 b7) x = some (pick (ze3 b0 q0g q0l q0m q0p q0j q0k b5 b6 b7 x))
  | none, h => by cases h
  | some r, _ => rfl
theorem zed (b0 : List Int) (q0g : Nat) (q0l : Int) (q0m : Int) (q0p : Nat) (q0j : Nat) (q0k : Nat) (b5 : List Nat) (b6 : List Nat) (b7 : List Nat) (K : Ex → St → Option (Ex × St)) : evC (R := Ex × St) Γ13 (evFn Γ13 8 8) 65 8 fi65.nt fi65.live fi65.nl 8 fi65.code (St.mk [(0, (AV.v (TV.one (At.ptr 2 0 3))))] [(Blk.mk Bool.false (Body.il .u8 b0)), (Blk.mk Bool.true (Body.cells [At.nilsl, At.nilsl, At.nilsl])), (Blk.mk Bool.true (Body.cells [(At.vw 0 0 q0g 1), (At.int .i64 q0l), (At.int .u64 q0m)])), (Blk.mk Bool.true (Body.cells [At.nilsl, At.nilsl, At.nilsl])), (Blk.mk Bool.true (Body.cells [(At.sl 5 0 q0p 1), (At.sl 6 0 q0j 1), (At.sl 7 0 q0k 1)])), (Blk.mk Bool.true (Body.fl .f32 b5)), (Blk.mk Bool.true (Body.fl .f32 b6)), (Blk.mk Bool.true (Body.fl .f32 b7))]) K = z1s b0 q0g q0l q0m (fun _ => K .normal (St.mk [(0, (AV.v (TV.one (At.ptr 2 0 3))))] [(Blk.mk Bool.false (Body.il .u8 b0)), (Blk.mk Bool.true (Body.cells [At.nilsl, At.nilsl, At.nilsl])), (Blk.mk Bool.true (Body.cells [(At.vw 0 0 q0g 1), (At.int .i64 q0l), (At.int .u64 q0m)])), (Blk.mk Bool.true (Body.cells [At.nilsl, At.nilsl, At.nilsl])), (Blk.mk Bool.true (Body.cells [(At.sl 5 0 q0p 1), (At.sl 6 0 q0j 1), (At.sl 7 0 q0k 1)])), (Blk.mk Bool.true (Body.fl .f32 b5)), (Blk.mk Bool.true (Body.fl .f32 b6)), (Blk.mk Bool.true (Body.fl .f32 b7))])) (fun c0_ c1_ c2_ => K Ex.ret (St.mk [(2, (AV.v (TV.one (At.int .i64 c0_))))] [(Blk.mk Bool.false (Body.il .u8 b0)), (Blk.mk Bool.true (Body.cells [At.nilsl, At.nilsl, At.nilsl])), (Blk.mk Bool.true (Body.cells [(At.vw 0 0 q0g 1), (At.int .i64 c1_), (At.int .u64 c2_)])), (Blk.mk Bool.true (Body.cells [At.nilsl, At.nilsl, At.nilsl])), (Blk.mk Bool.true (Body.cells [(At.sl 5 0 q0p 1), (At.sl 6 0 q0j 1), (At.sl 7 0 q0k 1)])), (Blk.mk Bool.true (Body.fl .f32 b5)), (Blk.mk Bool.true (Body.fl .f32 b6)), (Blk.mk Bool.true (Body.fl .f32 b7))])) := by kernel_rfl
theorem zef (b0 : List Int) (q0g : Nat) (q0l : Int) (q0m : Int) (q0p : Nat) (q0j : Nat) (q0k : Nat) (b5 : List Nat) (b6 : List Nat) (b7 : List Nat) : evC (R := Ex × St) Γ13 (evFn Γ13 8 8) 65 8 fi65.nt fi65.live fi65.nl 8 fi65.code (St.mk [(0, (AV.v (TV.one (At.ptr 2 0 3))))] [(Blk.mk Bool.false (Body.il .u8 b0)), (Blk.mk Bool.true (Body.cells [At.nilsl, At.nilsl, At.nilsl])), (Blk.mk Bool.true (Body.cells [(At.vw 0 0 q0g 1), (At.int .i64 q0l), (At.int .u64 q0m)])), (Blk.mk Bool.true (Body.cells [At.nilsl, At.nilsl, At.nilsl])), (Blk.mk Bool.true (Body.cells [(At.sl 5 0 q0p 1), (At.sl 6 0 q0j 1), (At.sl 7 0 q0k 1)])), (Blk.mk Bool.true (Body.fl .f32 b5)), (Blk.mk Bool.true (Body.fl .f32 b6)), (Blk.mk Bool.true (Body.fl .f32 b7))]) (fun e st => some (e, st)) = (z59 b0 q0g q0l q0m q0p q0j q0k b5 b6 b7) (z0n b0 q0g q0l q0m big ) := by
  obtain ⟨n, hn⟩ := big_succ
  rw [hn]
  refine Eq.trans (zed b0 q0g q0l q0m q0p q0j q0k b5 b6 b7 (fun e st => some (e, st))) (Eq.trans ?_ (zd6 b0 q0g q0l q0m (z59 b0 q0g q0l q0m q0p q0j q0k b5 b6 b7) rfl (fun _ => z0n b0 q0g q0l q0m n ) (fun c0_ c1_ c2_ => some (c0_, c1_, c2_))))
  unfold z1s
  rfl
theorem zdh : LoopOne Try.prog fnTab 65 bodyId z8l := bd_of (Γ := Γ13) tyTab_ok (FnL.ok fnTab_ok _ _) (LpL.ok lt13_ok) (SumL.ok tb13_ok _) mixed (fi := fi65) (by kernel_rfl) (by kernel_rfl) (by
  intro lo st out hp
  obtain ⟨hs, e1, e2, e3⟩ := lpT_inv hp
  clear hp
  obtain rfl : st = (St.mk [(0, (AV.v (TV.one (At.ptr 2 0 3))))] [(Blk.mk Bool.false (Body.il .u8 (hvLi (hGet hs 0)))), (Blk.mk Bool.true (Body.cells [At.nilsl, At.nilsl, At.nilsl])), (Blk.mk Bool.true (Body.cells [(At.vw 0 0 (hvN (hGet hs 1)) 1), (At.int .i64 (hvI (hGet hs 2))), (At.int .u64 (hvI (hGet hs 3)))])), (Blk.mk Bool.true (Body.cells [At.nilsl, At.nilsl, At.nilsl])), (Blk.mk Bool.true (Body.cells [(At.sl 5 0 (hvN (hGet hs 4)) 1), (At.sl 6 0 (hvN (hGet hs 5)) 1), (At.sl 7 0 (hvN (hGet hs 6)) 1)])), (Blk.mk Bool.true (Body.fl .f32 (hvLn (hGet hs 7)))), (Blk.mk Bool.true (Body.fl .f32 (hvLn (hGet hs 8)))), (Blk.mk Bool.true (Body.fl .f32 (hvLn (hGet hs 9))))]) := e2.trans (by kernel_rfl)
  clear e2
  subst e1
  unfold z7e at e3
  injection e3 with h1 h2
  subst h2
  exact ⟨8, 8, Eq.trans (zef (hvLi (hGet hs 0)) (hvN (hGet hs 1)) (hvI (hGet hs 2)) (hvI (hGet hs 3)) (hvN (hGet hs 4)) (hvN (hGet hs 5)) (hvN (hGet hs 6)) (hvLn (hGet hs 7)) (hvLn (hGet hs 8)) (hvLn (hGet hs 9)) ) (ze9 (hvLi (hGet hs 0)) (hvN (hGet hs 1)) (hvI (hGet hs 2)) (hvI (hGet hs 3)) (hvN (hGet hs 4)) (hvN (hGet hs 5)) (hvN (hGet hs 6)) (hvLn (hGet hs 7)) (hvLn (hGet hs 8)) (hvLn (hGet hs 9)) (z0n (hvLi (hGet hs 0)) (hvN (hGet hs 1)) (hvI (hGet hs 2)) (hvI (hGet hs 3)) big ) h1)⟩)
noncomputable def zdu (t2 : Nat) (t36 : Int) (t37 : Int) (b0 : List Nat) (b1 : List Nat) (b2 : List Nat) (b3 : List Nat) (b4 : List Nat) (b5 : List Nat) (q18 : Nat) (q0y : Nat) (q15 : Nat) (q27 : Nat) (q1o : Nat) (q1m : Nat) (q26 : Nat) (q1l : Nat) (q1n : Nat) (b10 : List Nat) (b11 : List Nat) (b12 : List Nat) : Bool × LO := ((z7c t2 t36 b1 b2 b4 b5 q0y q15 q1o q1m q1l q1n t37 b11 b12), (LO.one (Ex.exit 0) (St.mk [(2, (AV.v (TV.one (At.flt .f32 t2)))), (3, (AV.v (TV.one (At.ptr 6 0 3)))), (4, (AV.v (TV.one (At.ptr 7 0 3)))), (6, (AV.v (TV.one (At.ptr 8 0 3)))), (8, (AV.v (TV.one (At.ptr 9 0 3)))), (36, (AV.v (TV.one (At.int .i64 t36)))), (37, (AV.v (TV.one (At.int .i64 (z91 t2 t36 b1 b2 b4 b5 q0y q15 q1o q1m q1l q1n t37 b11 b12))))), (38, (AV.v (TV.one (At.bool (z8y t2 t36 b1 b2 b4 b5 q0y q15 q1o q1m q1l q1n t37 b11 b12)))))] [(Blk.mk Bool.false (Body.fl .f32 b0)), (Blk.mk Bool.false (Body.fl .f32 b1)), (Blk.mk Bool.false (Body.fl .f32 b2)), (Blk.mk Bool.false (Body.fl .f32 b3)), (Blk.mk Bool.false (Body.fl .f32 b4)), (Blk.mk Bool.false (Body.fl .f32 b5)), (Blk.mk Bool.true (Body.cells [(At.vw 0 0 q18 1), (At.vw 1 0 q0y 1), (At.vw 2 0 q15 1)])), (Blk.mk Bool.true (Body.cells [(At.vw 3 0 q27 1), (At.vw 4 0 q1o 1), (At.vw 5 0 q1m 1)])), (Blk.mk Bool.true (Body.cells [At.nilsl, At.nilsl, At.nilsl])), (Blk.mk Bool.true (Body.cells [(At.sl 10 0 q26 1), (At.sl 11 0 q1l 1), (At.sl 12 0 q1n 1)])), (Blk.mk Bool.true (Body.fl .f32 b10)), (Blk.mk Bool.true (Body.fl .f32 (z3s t2 t36 b1 b2 b4 b5 q0y q15 q1o q1m q1l q1n t37 b11 b12))), (Blk.mk Bool.true (Body.fl .f32 (z3w t2 t36 b1 b2 b4 b5 q0y q15 q1o q1m q1l q1n t37 b11 b12)))])))
noncomputable def zeu : Nat → St → Option (Bool × LO) := lpT 6 (pSt [(pTm 2 (pV (pOne (pFlt .f32)))), (pTm 3 (pV (pOne (pPtr 6 (liN 0) 3)))), (pTm 4 (pV (pOne (pPtr 7 (liN 0) 3)))), (pTm 6 (pV (pOne (pPtr 8 (liN 0) 3)))), (pTm 8 (pV (pOne (pPtr 9 (liN 0) 3)))), (pTm 36 (pV (pOne (pInt .i64)))), (pTm 37 (pV (pOne (pInt .i64))))] [(pBlk Bool.false (pFl .f32)), (pBlk Bool.false (pFl .f32)), (pBlk Bool.false (pFl .f32)), (pBlk Bool.false (pFl .f32)), (pBlk Bool.false (pFl .f32)), (pBlk Bool.false (pFl .f32)), (pBlk Bool.true (pCells [(pVw 0 (liN 0) 1), (pVw 1 (liN 0) 1), (pVw 2 (liN 0) 1)])), (pBlk Bool.true (pCells [(pVw 3 (liN 0) 1), (pVw 4 (liN 0) 1), (pVw 5 (liN 0) 1)])), (pBlk Bool.true (pCells [pNil, pNil, pNil])), (pBlk Bool.true (pCells [(pSl 10 (liN 0) 1), (pSl 11 (liN 0) 1), (pSl 12 (liN 0) 1)])), (pBlk Bool.true (pFl .f32)), (pBlk Bool.true (pFl .f32)), (pBlk Bool.true (pFl .f32))]) (fun hs => zdu (hvN (hGet hs 0)) (hvI (hGet hs 1)) (hvI (hGet hs 2)) (hvLn (hGet hs 3)) (hvLn (hGet hs 4)) (hvLn (hGet hs 5)) (hvLn (hGet hs 6)) (hvLn (hGet hs 7)) (hvLn (hGet hs 8)) (hvN (hGet hs 9)) (hvN (hGet hs 10)) (hvN (hGet hs 11)) (hvN (hGet hs 12)) (hvN (hGet hs 13)) (hvN (hGet hs 14)) (hvN (hGet hs 15)) (hvN (hGet hs 16)) (hvN (hGet hs 17)) (hvLn (hGet hs 18)) (hvLn (hGet hs 19)) (hvLn (hGet hs 20)))
def z7f (t2 : Nat) (t36 : Int) (b0 : List Nat) (b1 : List Nat) (b2 : List Nat) (b3 : List Nat) (b4 : List Nat) (b5 : List Nat) (q18 : Nat) (q0y : Nat) (q15 : Nat) (q27 : Nat) (q1o : Nat) (q1m : Nat) (q26 : Nat) (q1l : Nat) (q1n : Nat) (b10 : List Nat) : Option ((Int × Bool × (List Nat) × (List Nat))) → Option (Ex × St)
  | none => none
  | some r => some ((Ex.exit 0), (St.mk [(2, (AV.v (TV.one (At.flt .f32 t2)))), (3, (AV.v (TV.one (At.ptr 6 0 3)))), (4, (AV.v (TV.one (At.ptr 7 0 3)))), (6, (AV.v (TV.one (At.ptr 8 0 3)))), (8, (AV.v (TV.one (At.ptr 9 0 3)))), (36, (AV.v (TV.one (At.int .i64 t36)))), (37, (AV.v (TV.one (At.int .i64 r.1)))), (38, (AV.v (TV.one (At.bool r.2.1))))] [(Blk.mk Bool.false (Body.fl .f32 b0)), (Blk.mk Bool.false (Body.fl .f32 b1)), (Blk.mk Bool.false (Body.fl .f32 b2)), (Blk.mk Bool.false (Body.fl .f32 b3)), (Blk.mk Bool.false (Body.fl .f32 b4)), (Blk.mk Bool.false (Body.fl .f32 b5)), (Blk.mk Bool.true (Body.cells [(At.vw 0 0 q18 1), (At.vw 1 0 q0y 1), (At.vw 2 0 q15 1)])), (Blk.mk Bool.true (Body.cells [(At.vw 3 0 q27 1), (At.vw 4 0 q1o 1), (At.vw 5 0 q1m 1)])), (Blk.mk Bool.true (Body.cells [At.nilsl, At.nilsl, At.nilsl])), (Blk.mk Bool.true (Body.cells [(At.sl 10 0 q26 1), (At.sl 11 0 q1l 1), (At.sl 12 0 q1n 1)])), (Blk.mk Bool.true (Body.fl .f32 b10)), (Blk.mk Bool.true (Body.fl .f32 r.2.2.1)), (Blk.mk Bool.true (Body.fl .f32 r.2.2.2))]))
def zin (t2 : Nat) (t36 : Int) (b0 : List Nat) (b1 : List Nat) (b2 : List Nat) (b3 : List Nat) (b4 : List Nat) (b5 : List Nat) (q18 : Nat) (q0y : Nat) (q15 : Nat) (q27 : Nat) (q1o : Nat) (q1m : Nat) (q26 : Nat) (q1l : Nat) (q1n : Nat) (b10 : List Nat) (x : Option ((Int × Bool × (List Nat) × (List Nat)))) : LO := (LO.one (Ex.exit 0) (St.mk [(2, (AV.v (TV.one (At.flt .f32 t2)))), (3, (AV.v (TV.one (At.ptr 6 0 3)))), (4, (AV.v (TV.one (At.ptr 7 0 3)))), (6, (AV.v (TV.one (At.ptr 8 0 3)))), (8, (AV.v (TV.one (At.ptr 9 0 3)))), (36, (AV.v (TV.one (At.int .i64 t36)))), (37, (AV.v (TV.one (At.int .i64 (x.getD default).1)))), (38, (AV.v (TV.one (At.bool (x.getD default).2.1))))] [(Blk.mk Bool.false (Body.fl .f32 b0)), (Blk.mk Bool.false (Body.fl .f32 b1)), (Blk.mk Bool.false (Body.fl .f32 b2)), (Blk.mk Bool.false (Body.fl .f32 b3)), (Blk.mk Bool.false (Body.fl .f32 b4)), (Blk.mk Bool.false (Body.fl .f32 b5)), (Blk.mk Bool.true (Body.cells [(At.vw 0 0 q18 1), (At.vw 1 0 q0y 1), (At.vw 2 0 q15 1)])), (Blk.mk Bool.true (Body.cells [(At.vw 3 0 q27 1), (At.vw 4 0 q1o 1), (At.vw 5 0 q1m 1)])), (Blk.mk Bool.true (Body.cells [At.nilsl, At.nilsl, At.nilsl])), (Blk.mk Bool.true (Body.cells [(At.sl 10 0 q26 1), (At.sl 11 0 q1l 1), (At.sl 12 0 q1n 1)])), (Blk.mk Bool.true (Body.fl .f32 b10)), (Blk.mk Bool.true (Body.fl .f32 (x.getD default).2.2.1)), (Blk.mk Bool.true (Body.fl .f32 (x.getD default).2.2.2))]))
theorem zjb (t2 : Nat) (t36 : Int) (b0 : List Nat) (b1 : List Nat) (b2 : List Nat) (b3 : List Nat) (b4 : List Nat) (b5 : List Nat) (q18 : Nat) (q0y : Nat) (q15 : Nat) (q27 : Nat) (q1o : Nat) (q1m : Nat) (q26 : Nat) (q1l : Nat) (q1n : Nat) (b10 : List Nat) : ∀ x : Option ((Int × Bool × (List Nat) × (List Nat))), x.isSome = true → (z7f t2 t36 b0 b1 b2 b3 b4 b5 q18 q0y q15 q27 q1o q1m q26 q1l q1n b10) x = some (pick (zin t2 t36 b0 b1 b2 b3 b4 b5 q18 q0y q15 q27 q1o q1m q26 q1l q1n b10 x))
  | none, h => by cases h
  | some r, _ => rfl
theorem zjj (t2 : Nat) (t36 : Int) (t37 : Int) (b0 : List Nat) (b1 : List Nat) (b2 : List Nat) (b3 : List Nat) (b4 : List Nat) (b5 : List Nat) (q18 : Nat) (q0y : Nat) (q15 : Nat) (q27 : Nat) (q1o : Nat) (q1m : Nat) (q26 : Nat) (q1l : Nat) (q1n : Nat) (b10 : List Nat) (b11 : List Nat) (b12 : List Nat) (K : Ex → St → Option (Ex × St)) : evC (R := Ex × St) Γ13 (evFn Γ13 8 8) 23 6 fi23.nt fi23.live fi23.nl 8 (findL 5 (loopsIn fi23.code)) (St.mk [(2, (AV.v (TV.one (At.flt .f32 t2)))), (3, (AV.v (TV.one (At.ptr 6 0 3)))), (4, (AV.v (TV.one (At.ptr 7 0 3)))), (6, (AV.v (TV.one (At.ptr 8 0 3)))), (8, (AV.v (TV.one (At.ptr 9 0 3)))), (36, (AV.v (TV.one (At.int .i64 t36)))), (37, (AV.v (TV.one (At.int .i64 t37))))] [(Blk.mk Bool.false (Body.fl .f32 b0)), (Blk.mk Bool.false (Body.fl .f32 b1)), (Blk.mk Bool.false (Body.fl .f32 b2)), (Blk.mk Bool.false (Body.fl .f32 b3)), (Blk.mk Bool.false (Body.fl .f32 b4)), (Blk.mk Bool.false (Body.fl .f32 b5)), (Blk.mk Bool.true (Body.cells [(At.vw 0 0 q18 1), (At.vw 1 0 q0y 1), (At.vw 2 0 q15 1)])), (Blk.mk Bool.true (Body.cells [(At.vw 3 0 q27 1), (At.vw 4 0 q1o 1), (At.vw 5 0 q1m 1)])), (Blk.mk Bool.true (Body.cells [At.nilsl, At.nilsl, At.nilsl])), (Blk.mk Bool.true (Body.cells [(At.sl 10 0 q26 1), (At.sl 11 0 q1l 1), (At.sl 12 0 q1n 1)])), (Blk.mk Bool.true (Body.fl .f32 b10)), (Blk.mk Bool.true (Body.fl .f32 b11)), (Blk.mk Bool.true (Body.fl .f32 b12))]) K = z2s t2 t36 b1 b2 b4 b5 q0y q15 q1o q1m q1l q1n t37 b11 b12 (fun t37' b11' b12' => K .normal (St.mk [(2, (AV.v (TV.one (At.flt .f32 t2)))), (3, (AV.v (TV.one (At.ptr 6 0 3)))), (4, (AV.v (TV.one (At.ptr 7 0 3)))), (6, (AV.v (TV.one (At.ptr 8 0 3)))), (8, (AV.v (TV.one (At.ptr 9 0 3)))), (36, (AV.v (TV.one (At.int .i64 t36)))), (37, (AV.v (TV.one (At.int .i64 t37'))))] [(Blk.mk Bool.false (Body.fl .f32 b0)), (Blk.mk Bool.false (Body.fl .f32 b1)), (Blk.mk Bool.false (Body.fl .f32 b2)), (Blk.mk Bool.false (Body.fl .f32 b3)), (Blk.mk Bool.false (Body.fl .f32 b4)), (Blk.mk Bool.false (Body.fl .f32 b5)), (Blk.mk Bool.true (Body.cells [(At.vw 0 0 q18 1), (At.vw 1 0 q0y 1), (At.vw 2 0 q15 1)])), (Blk.mk Bool.true (Body.cells [(At.vw 3 0 q27 1), (At.vw 4 0 q1o 1), (At.vw 5 0 q1m 1)])), (Blk.mk Bool.true (Body.cells [At.nilsl, At.nilsl, At.nilsl])), (Blk.mk Bool.true (Body.cells [(At.sl 10 0 q26 1), (At.sl 11 0 q1l 1), (At.sl 12 0 q1n 1)])), (Blk.mk Bool.true (Body.fl .f32 b10)), (Blk.mk Bool.true (Body.fl .f32 b11')), (Blk.mk Bool.true (Body.fl .f32 b12'))])) (fun c0_ c1_ c2_ c3_ => K (Ex.exit 0) (St.mk [(2, (AV.v (TV.one (At.flt .f32 t2)))), (3, (AV.v (TV.one (At.ptr 6 0 3)))), (4, (AV.v (TV.one (At.ptr 7 0 3)))), (6, (AV.v (TV.one (At.ptr 8 0 3)))), (8, (AV.v (TV.one (At.ptr 9 0 3)))), (36, (AV.v (TV.one (At.int .i64 t36)))), (37, (AV.v (TV.one (At.int .i64 c0_)))), (38, (AV.v (TV.one (At.bool c1_))))] [(Blk.mk Bool.false (Body.fl .f32 b0)), (Blk.mk Bool.false (Body.fl .f32 b1)), (Blk.mk Bool.false (Body.fl .f32 b2)), (Blk.mk Bool.false (Body.fl .f32 b3)), (Blk.mk Bool.false (Body.fl .f32 b4)), (Blk.mk Bool.false (Body.fl .f32 b5)), (Blk.mk Bool.true (Body.cells [(At.vw 0 0 q18 1), (At.vw 1 0 q0y 1), (At.vw 2 0 q15 1)])), (Blk.mk Bool.true (Body.cells [(At.vw 3 0 q27 1), (At.vw 4 0 q1o 1), (At.vw 5 0 q1m 1)])), (Blk.mk Bool.true (Body.cells [At.nilsl, At.nilsl, At.nilsl])), (Blk.mk Bool.true (Body.cells [(At.sl 10 0 q26 1), (At.sl 11 0 q1l 1), (At.sl 12 0 q1n 1)])), (Blk.mk Bool.true (Body.fl .f32 b10)), (Blk.mk Bool.true (Body.fl .f32 c2_)), (Blk.mk Bool.true (Body.fl .f32 c3_))])) := by kernel_rfl
theorem zjx (t2 : Nat) (t36 : Int) (b0 : List Nat) (b1 : List Nat) (b2 : List Nat) (b3 : List Nat) (b4 : List Nat) (b5 : List Nat) (q18 : Nat) (q0y : Nat) (q15 : Nat) (q27 : Nat) (q1o : Nat) (q1m : Nat) (q26 : Nat) (q1l : Nat) (q1n : Nat) (b10 : List Nat) : ∀ (n : Nat) (t37 : Int) (b11 : List Nat) (b12 : List Nat), iter 23 5 6 (evC (R := Ex × St) Γ13 (evFn Γ13 8 8) 23 6 fi23.nt fi23.live fi23.nl 8 (findL 5 (loopsIn fi23.code))) n (St.mk [(2, (AV.v (TV.one (At.flt .f32 t2)))), (3, (AV.v (TV.one (At.ptr 6 0 3)))), (4, (AV.v (TV.one (At.ptr 7 0 3)))), (6, (AV.v (TV.one (At.ptr 8 0 3)))), (8, (AV.v (TV.one (At.ptr 9 0 3)))), (36, (AV.v (TV.one (At.int .i64 t36)))), (37, (AV.v (TV.one (At.int .i64 t37))))] [(Blk.mk Bool.false (Body.fl .f32 b0)), (Blk.mk Bool.false (Body.fl .f32 b1)), (Blk.mk Bool.false (Body.fl .f32 b2)), (Blk.mk Bool.false (Body.fl .f32 b3)), (Blk.mk Bool.false (Body.fl .f32 b4)), (Blk.mk Bool.false (Body.fl .f32 b5)), (Blk.mk Bool.true (Body.cells [(At.vw 0 0 q18 1), (At.vw 1 0 q0y 1), (At.vw 2 0 q15 1)])), (Blk.mk Bool.true (Body.cells [(At.vw 3 0 q27 1), (At.vw 4 0 q1o 1), (At.vw 5 0 q1m 1)])), (Blk.mk Bool.true (Body.cells [At.nilsl, At.nilsl, At.nilsl])), (Blk.mk Bool.true (Body.cells [(At.sl 10 0 q26 1), (At.sl 11 0 q1l 1), (At.sl 12 0 q1n 1)])), (Blk.mk Bool.true (Body.fl .f32 b10)), (Blk.mk Bool.true (Body.fl .f32 b11)), (Blk.mk Bool.true (Body.fl .f32 b12))]) (fun e st => some (e, st)) = (z7f t2 t36 b0 b1 b2 b3 b4 b5 q18 q0y q15 q27 q1o q1m q26 q1l q1n b10) (z0u t2 t36 b1 b2 b4 b5 q0y q15 q1o q1m q1l q1n n t37 b11 b12) := by
  intro n
  induction n with
  | zero => intros; rfl
  | succ n ih =>
    intro t37 b11 b12
    refine Eq.trans (iter_succ ..) (Eq.trans (zjj t2 t36 t37 b0 b1 b2 b3 b4 b5 q18 q0y q15 q27 q1o q1m q26 q1l q1n b10 b11 b12 (nextK 23 5 6 (evC (R := Ex × St) Γ13 (evFn Γ13 8 8) 23 6 fi23.nt fi23.live fi23.nl 8 (findL 5 (loopsIn fi23.code))) n (fun e st => some (e, st)))) (Eq.trans ?_ (zhd t2 t36 b1 b2 b4 b5 q0y q15 q1o q1m q1l q1n t37 b11 b12 (z7f t2 t36 b0 b1 b2 b3 b4 b5 q18 q0y q15 q27 q1o q1m q26 q1l q1n b10) rfl (fun t37' b11' b12' => z0u t2 t36 b1 b2 b4 b5 q0y q15 q1o q1m q1l q1n n t37' b11' b12') (fun c0_ c1_ c2_ c3_ => some (c0_, c1_, c2_, c3_)))))
    exact congrArg (fun kn_ => z2s t2 t36 b1 b2 b4 b5 q0y q15 q1o q1m q1l q1n t37 b11 b12 kn_ (fun c0_ c1_ c2_ c3_ => (z7f t2 t36 b0 b1 b2 b3 b4 b5 q18 q0y q15 q27 q1o q1m q26 q1l q1n b10) (some (c0_, c1_, c2_, c3_)))) (funext fun t37' => funext fun b11' => funext fun b12' => ih t37' b11' b12')
theorem zhw : LoopOne Try.prog fnTab 23 5 zeu := lp_of (Γ := Γ13) tyTab_ok (FnL.ok fnTab_ok _ _) (LpL.ok lt13_ok) (SumL.ok tb13_ok _) mixed (fi := fi23) (by kernel_rfl) (by kernel_rfl) (by
  intro lo st out hp
  obtain ⟨hs, e1, e2, e3⟩ := lpT_inv hp
  clear hp
  obtain rfl : st = (St.mk [(2, (AV.v (TV.one (At.flt .f32 (hvN (hGet hs 0)))))), (3, (AV.v (TV.one (At.ptr 6 0 3)))), (4, (AV.v (TV.one (At.ptr 7 0 3)))), (6, (AV.v (TV.one (At.ptr 8 0 3)))), (8, (AV.v (TV.one (At.ptr 9 0 3)))), (36, (AV.v (TV.one (At.int .i64 (hvI (hGet hs 1)))))), (37, (AV.v (TV.one (At.int .i64 (hvI (hGet hs 2))))))] [(Blk.mk Bool.false (Body.fl .f32 (hvLn (hGet hs 3)))), (Blk.mk Bool.false (Body.fl .f32 (hvLn (hGet hs 4)))), (Blk.mk Bool.false (Body.fl .f32 (hvLn (hGet hs 5)))), (Blk.mk Bool.false (Body.fl .f32 (hvLn (hGet hs 6)))), (Blk.mk Bool.false (Body.fl .f32 (hvLn (hGet hs 7)))), (Blk.mk Bool.false (Body.fl .f32 (hvLn (hGet hs 8)))), (Blk.mk Bool.true (Body.cells [(At.vw 0 0 (hvN (hGet hs 9)) 1), (At.vw 1 0 (hvN (hGet hs 10)) 1), (At.vw 2 0 (hvN (hGet hs 11)) 1)])), (Blk.mk Bool.true (Body.cells [(At.vw 3 0 (hvN (hGet hs 12)) 1), (At.vw 4 0 (hvN (hGet hs 13)) 1), (At.vw 5 0 (hvN (hGet hs 14)) 1)])), (Blk.mk Bool.true (Body.cells [At.nilsl, At.nilsl, At.nilsl])), (Blk.mk Bool.true (Body.cells [(At.sl 10 0 (hvN (hGet hs 15)) 1), (At.sl 11 0 (hvN (hGet hs 16)) 1), (At.sl 12 0 (hvN (hGet hs 17)) 1)])), (Blk.mk Bool.true (Body.fl .f32 (hvLn (hGet hs 18)))), (Blk.mk Bool.true (Body.fl .f32 (hvLn (hGet hs 19)))), (Blk.mk Bool.true (Body.fl .f32 (hvLn (hGet hs 20))))]) := e2.trans (by kernel_rfl)
  clear e2
  subst e1
  unfold zdu at e3
  injection e3 with h1 h2
  subst h2
  exact ⟨8, 8, big, Eq.trans (zjx (hvN (hGet hs 0)) (hvI (hGet hs 1)) (hvLn (hGet hs 3)) (hvLn (hGet hs 4)) (hvLn (hGet hs 5)) (hvLn (hGet hs 6)) (hvLn (hGet hs 7)) (hvLn (hGet hs 8)) (hvN (hGet hs 9)) (hvN (hGet hs 10)) (hvN (hGet hs 11)) (hvN (hGet hs 12)) (hvN (hGet hs 13)) (hvN (hGet hs 14)) (hvN (hGet hs 15)) (hvN (hGet hs 16)) (hvN (hGet hs 17)) (hvLn (hGet hs 18)) big (hvI (hGet hs 2)) (hvLn (hGet hs 19)) (hvLn (hGet hs 20))) (zjb (hvN (hGet hs 0)) (hvI (hGet hs 1)) (hvLn (hGet hs 3)) (hvLn (hGet hs 4)) (hvLn (hGet hs 5)) (hvLn (hGet hs 6)) (hvLn (hGet hs 7)) (hvLn (hGet hs 8)) (hvN (hGet hs 9)) (hvN (hGet hs 10)) (hvN (hGet hs 11)) (hvN (hGet hs 12)) (hvN (hGet hs 13)) (hvN (hGet hs 14)) (hvN (hGet hs 15)) (hvN (hGet hs 16)) (hvN (hGet hs 17)) (hvLn (hGet hs 18)) (z0u (hvN (hGet hs 0)) (hvI (hGet hs 1)) (hvLn (hGet hs 4)) (hvLn (hGet hs 5)) (hvLn (hGet hs 7)) (hvLn (hGet hs 8)) (hvN (hGet hs 10)) (hvN (hGet hs 11)) (hvN (hGet hs 13)) (hvN (hGet hs 14)) (hvN (hGet hs 16)) (hvN (hGet hs 17)) big (hvI (hGet hs 2)) (hvLn (hGet hs 19)) (hvLn (hGet hs 20))) h1)⟩)
noncomputable def zdg (q12 : Nat) (q13 : Nat) (t18 : Int) (t19 : Int) (b0 : List Nat) (b1 : List Nat) (b2 : List Nat) (q0p : Nat) (q0j : Nat) (q0k : Nat) (b5 : List Nat) (b6 : List Nat) (b7 : List Nat) : Bool × LO := ((z73 q12 q13 t18 q0j q0k t19 b6 b7), (LO.one (Ex.exit 0) (St.mk [(1, (AV.v (TV.one (At.flt .f32 q12)))), (2, (AV.v (TV.one (At.flt .f32 q13)))), (6, (AV.v (TV.one (At.ptr 3 0 3)))), (8, (AV.v (TV.one (At.ptr 4 0 3)))), (18, (AV.v (TV.one (At.int .i64 t18)))), (19, (AV.v (TV.one (At.int .i64 (z84 q12 q13 t18 q0j q0k t19 b6 b7))))), (20, (AV.v (TV.one (At.bool (z89 q12 q13 t18 q0j q0k t19 b6 b7)))))] [(Blk.mk Bool.false (Body.fl .f32 b0)), (Blk.mk Bool.false (Body.fl .f32 b1)), (Blk.mk Bool.false (Body.fl .f32 b2)), (Blk.mk Bool.true (Body.cells [At.nilsl, At.nilsl, At.nilsl])), (Blk.mk Bool.true (Body.cells [(At.sl 5 0 q0p 1), (At.sl 6 0 q0j 1), (At.sl 7 0 q0k 1)])), (Blk.mk Bool.true (Body.fl .f32 b5)), (Blk.mk Bool.true (Body.fl .f32 (z3k q12 q13 t18 q0j q0k t19 b6 b7))), (Blk.mk Bool.true (Body.fl .f32 (z3l q12 q13 t18 q0j q0k t19 b6 b7)))])))
noncomputable def zeb : Nat → St → Option (Bool × LO) := lpT 3 (pSt [(pTm 1 (pV (pOne (pFlt .f32)))), (pTm 2 (pV (pOne (pFlt .f32)))), (pTm 6 (pV (pOne (pPtr 3 (liN 0) 3)))), (pTm 8 (pV (pOne (pPtr 4 (liN 0) 3)))), (pTm 18 (pV (pOne (pInt .i64)))), (pTm 19 (pV (pOne (pInt .i64))))] [(pBlk Bool.false (pFl .f32)), (pBlk Bool.false (pFl .f32)), (pBlk Bool.false (pFl .f32)), (pBlk Bool.true (pCells [pNil, pNil, pNil])), (pBlk Bool.true (pCells [(pSl 5 (liN 0) 1), (pSl 6 (liN 0) 1), (pSl 7 (liN 0) 1)])), (pBlk Bool.true (pFl .f32)), (pBlk Bool.true (pFl .f32)), (pBlk Bool.true (pFl .f32))]) (fun hs => zdg (hvN (hGet hs 0)) (hvN (hGet hs 1)) (hvI (hGet hs 2)) (hvI (hGet hs 3)) (hvLn (hGet hs 4)) (hvLn (hGet hs 5)) (hvLn (hGet hs 6)) (hvN (hGet hs 7)) (hvN (hGet hs 8)) (hvN (hGet hs 9)) (hvLn (hGet hs 10)) (hvLn (hGet hs 11)) (hvLn (hGet hs 12)))
def z70 (q12 : Nat) (q13 : Nat) (t18 : Int) (b0 : List Nat) (b1 : List Nat) (b2 : List Nat) (q0p : Nat) (q0j : Nat) (q0k : Nat) (b5 : List Nat) : Option ((Int × Bool × (List Nat) × (List Nat))) → Option (Ex × St)
  | none => none
  | some r => some ((Ex.exit 0), (St.mk [(1, (AV.v (TV.one (At.flt .f32 q12)))), (2, (AV.v (TV.one (At.flt .f32 q13)))), (6, (AV.v (TV.one (At.ptr 3 0 3)))), (8, (AV.v (TV.one (At.ptr 4 0 3)))), (18, (AV.v (TV.one (At.int .i64 t18)))), (19, (AV.v (TV.one (At.int .i64 r.1)))), (20, (AV.v (TV.one (At.bool r.2.1))))] [(Blk.mk Bool.false (Body.fl .f32 b0)), (Blk.mk Bool.false (Body.fl .f32 b1)), (Blk.mk Bool.false (Body.fl .f32 b2)), (Blk.mk Bool.true (Body.cells [At.nilsl, At.nilsl, At.nilsl])), (Blk.mk Bool.true (Body.cells [(At.sl 5 0 q0p 1), (At.sl 6 0 q0j 1), (At.sl 7 0 q0k 1)])), (Blk.mk Bool.true (Body.fl .f32 b5)), (Blk.mk Bool.true (Body.fl .f32 r.2.2.1)), (Blk.mk Bool.true (Body.fl .f32 r.2.2.2))]))
def zi6 (q12 : Nat) (q13 : Nat) (t18 : Int) (b0 : List Nat) (b1 : List Nat) (b2 : List Nat) (q0p : Nat) (q0j : Nat) (q0k : Nat) (b5 : List Nat) (x : Option ((Int × Bool × (List Nat) × (List Nat)))) : LO := (LO.one (Ex.exit 0) (St.mk [(1, (AV.v (TV.one (At.flt .f32 q12)))), (2, (AV.v (TV.one (At.flt .f32 q13)))), (6, (AV.v (TV.one (At.ptr 3 0 3)))), (8, (AV.v (TV.one (At.ptr 4 0 3)))), (18, (AV.v (TV.one (At.int .i64 t18)))), (19, (AV.v (TV.one (At.int .i64 (x.getD default).1)))), (20, (AV.v (TV.one (At.bool (x.getD default).2.1))))] [(Blk.mk Bool.false (Body.fl .f32 b0)), (Blk.mk Bool.false (Body.fl .f32 b1)), (Blk.mk Bool.false (Body.fl .f32 b2)), (Blk.mk Bool.true (Body.cells [At.nilsl, At.nilsl, At.nilsl])), (Blk.mk Bool.true (Body.cells [(At.sl 5 0 q0p 1), (At.sl 6 0 q0j 1), (At.sl 7 0 q0k 1)])), (Blk.mk Bool.true (Body.fl .f32 b5)), (Blk.mk Bool.true (Body.fl .f32 (x.getD default).2.2.1)), (Blk.mk Bool.true (Body.fl .f32 (x.getD default).2.2.2))]))
theorem zii (q12 : Nat) (q13 : Nat) (t18 : Int) (b0 : List Nat) (b1 : List Nat) (b2 : List Nat) (q0p : Nat) (q0j : Nat) (q0k : Nat) (b5 : List Nat) : ∀ x : Option ((Int × Bool × (List Nat) × (List Nat))), x.isSome = true → (z70 q12 q13 t18 b0 b1 b2 q0p q0j q0k b5) x = some (pick (zi6 q12 q13 t18 b0 b1 b2 q0p q0j q0k b5 x))
  | none, h => by cases h
  | some r, _ => rfl
theorem zij (q12 : Nat) (q13 : Nat) (t18 : Int) (t19 : Int) (b0 : List Nat) (b1 : List Nat) (b2 : List Nat) (q0p : Nat) (q0j : Nat) (q0k : Nat) (b5 : List Nat) (b6 : List Nat) (b7 : List Nat) (K : Ex → St → Option (Ex × St)) : evC (R := Ex × St) Γ13 (evFn Γ13 8 8) 24 3 fi24.nt fi24.live fi24.nl 8 (findL 5 (loopsIn fi24.code)) (St.mk [(1, (AV.v (TV.one (At.flt .f32 q12)))), (2, (AV.v (TV.one (At.flt .f32 q13)))), (6, (AV.v (TV.one (At.ptr 3 0 3)))), (8, (AV.v (TV.one (At.ptr 4 0 3)))), (18, (AV.v (TV.one (At.int .i64 t18)))), (19, (AV.v (TV.one (At.int .i64 t19))))] [(Blk.mk Bool.false (Body.fl .f32 b0)), (Blk.mk Bool.false (Body.fl .f32 b1)), (Blk.mk Bool.false (Body.fl .f32 b2)), (Blk.mk Bool.true (Body.cells [At.nilsl, At.nilsl, At.nilsl])), (Blk.mk Bool.true (Body.cells [(At.sl 5 0 q0p 1), (At.sl 6 0 q0j 1), (At.sl 7 0 q0k 1)])), (Blk.mk Bool.true (Body.fl .f32 b5)), (Blk.mk Bool.true (Body.fl .f32 b6)), (Blk.mk Bool.true (Body.fl .f32 b7))]) K = z2i q12 q13 t18 q0j q0k t19 b6 b7 (fun t19' b6' b7' => K .normal (St.mk [(1, (AV.v (TV.one (At.flt .f32 q12)))), (2, (AV.v (TV.one (At.flt .f32 q13)))), (6, (AV.v (TV.one (At.ptr 3 0 3)))), (8, (AV.v (TV.one (At.ptr 4 0 3)))), (18, (AV.v (TV.one (At.int .i64 t18)))), (19, (AV.v (TV.one (At.int .i64 t19'))))] [(Blk.mk Bool.false (Body.fl .f32 b0)), (Blk.mk Bool.false (Body.fl .f32 b1)), (Blk.mk Bool.false (Body.fl .f32 b2)), (Blk.mk Bool.true (Body.cells [At.nilsl, At.nilsl, At.nilsl])), (Blk.mk Bool.true (Body.cells [(At.sl 5 0 q0p 1), (At.sl 6 0 q0j 1), (At.sl 7 0 q0k 1)])), (Blk.mk Bool.true (Body.fl .f32 b5)), (Blk.mk Bool.true (Body.fl .f32 b6')), (Blk.mk Bool.true (Body.fl .f32 b7'))])) (fun c0_ c1_ c2_ c3_ => K (Ex.exit 0) (St.mk [(1, (AV.v (TV.one (At.flt .f32 q12)))), (2, (AV.v (TV.one (At.flt .f32 q13)))), (6, (AV.v (TV.one (At.ptr 3 0 3)))), (8, (AV.v (TV.one (At.ptr 4 0 3)))), (18, (AV.v (TV.one (At.int .i64 t18)))), (19, (AV.v (TV.one (At.int .i64 c0_)))), (20, (AV.v (TV.one (At.bool c1_))))] [(Blk.mk Bool.false (Body.fl .f32 b0)), (Blk.mk Bool.false (Body.fl .f32 b1)), (Blk.mk Bool.false (Body.fl .f32 b2)), (Blk.mk Bool.true (Body.cells [At.nilsl, At.nilsl, At.nilsl])), (Blk.mk Bool.true (Body.cells [(At.sl 5 0 q0p 1), (At.sl 6 0 q0j 1), (At.sl 7 0 q0k 1)])), (Blk.mk Bool.true (Body.fl .f32 b5)), (Blk.mk Bool.true (Body.fl .f32 c2_)), (Blk.mk Bool.true (Body.fl .f32 c3_))])) := by kernel_rfl
theorem zj3 (q12 : Nat) (q13 : Nat) (t18 : Int) (b0 : List Nat) (b1 : List Nat) (b2 : List Nat) (q0p : Nat) (q0j : Nat) (q0k : Nat) (b5 : List Nat) : ∀ (n : Nat) (t19 : Int) (b6 : List Nat) (b7 : List Nat), iter 24 5 3 (evC (R := Ex × St) Γ13 (evFn Γ13 8 8) 24 3 fi24.nt fi24.live fi24.nl 8 (findL 5 (loopsIn fi24.code))) n (St.mk [(1, (AV.v (TV.one (At.flt .f32 q12)))), (2, (AV.v (TV.one (At.flt .f32 q13)))), (6, (AV.v (TV.one (At.ptr 3 0 3)))), (8, (AV.v (TV.one (At.ptr 4 0 3)))), (18, (AV.v (TV.one (At.int .i64 t18)))), (19, (AV.v (TV.one (At.int .i64 t19))))] [(Blk.mk Bool.false (Body.fl .f32 b0)), (Blk.mk Bool.false (Body.fl .f32 b1)), (Blk.mk Bool.false (Body.fl .f32 b2)), (Blk.mk Bool.true (Body.cells [At.nilsl, At.nilsl, At.nilsl])), (Blk.mk Bool.true (Body.cells [(At.sl 5 0 q0p 1), (At.sl 6 0 q0j 1), (At.sl 7 0 q0k 1)])), (Blk.mk Bool.true (Body.fl .f32 b5)), (Blk.mk Bool.true (Body.fl .f32 b6)), (Blk.mk Bool.true (Body.fl .f32 b7))]) (fun e st => some (e, st)) = (z70 q12 q13 t18 b0 b1 b2 q0p q0j q0k b5) (z0t q12 q13 t18 q0j q0k n t19 b6 b7) := by
  intro n
  induction n with
  | zero => intros; rfl
  | succ n ih =>
    intro t19 b6 b7
    refine Eq.trans (iter_succ ..) (Eq.trans (zij q12 q13 t18 t19 b0 b1 b2 q0p q0j q0k b5 b6 b7 (nextK 24 5 3 (evC (R := Ex × St) Γ13 (evFn Γ13 8 8) 24 3 fi24.nt fi24.live fi24.nl 8 (findL 5 (loopsIn fi24.code))) n (fun e st => some (e, st)))) (Eq.trans ?_ (zgi q12 q13 t18 q0j q0k t19 b6 b7 (z70 q12 q13 t18 b0 b1 b2 q0p q0j q0k b5) rfl (fun t19' b6' b7' => z0t q12 q13 t18 q0j q0k n t19' b6' b7') (fun c0_ c1_ c2_ c3_ => some (c0_, c1_, c2_, c3_)))))
    exact congrArg (fun kn_ => z2i q12 q13 t18 q0j q0k t19 b6 b7 kn_ (fun c0_ c1_ c2_ c3_ => (z70 q12 q13 t18 b0 b1 b2 q0p q0j q0k b5) (some (c0_, c1_, c2_, c3_)))) (funext fun t19' => funext fun b6' => funext fun b7' => ih t19' b6' b7')
theorem zhc : LoopOne Try.prog fnTab 24 5 zeb := lp_of (Γ := Γ13) tyTab_ok (FnL.ok fnTab_ok _ _) (LpL.ok lt13_ok) (SumL.ok tb13_ok _) mixed (fi := fi24) (by kernel_rfl) (by kernel_rfl) (by
  intro lo st out hp
  obtain ⟨hs, e1, e2, e3⟩ := lpT_inv hp
  clear hp
  obtain rfl : st = (St.mk [(1, (AV.v (TV.one (At.flt .f32 (hvN (hGet hs 0)))))), (2, (AV.v (TV.one (At.flt .f32 (hvN (hGet hs 1)))))), (6, (AV.v (TV.one (At.ptr 3 0 3)))), (8, (AV.v (TV.one (At.ptr 4 0 3)))), (18, (AV.v (TV.one (At.int .i64 (hvI (hGet hs 2)))))), (19, (AV.v (TV.one (At.int .i64 (hvI (hGet hs 3))))))] [(Blk.mk Bool.false (Body.fl .f32 (hvLn (hGet hs 4)))), (Blk.mk Bool.false (Body.fl .f32 (hvLn (hGet hs 5)))), (Blk.mk Bool.false (Body.fl .f32 (hvLn (hGet hs 6)))), (Blk.mk Bool.true (Body.cells [At.nilsl, At.nilsl, At.nilsl])), (Blk.mk Bool.true (Body.cells [(At.sl 5 0 (hvN (hGet hs 7)) 1), (At.sl 6 0 (hvN (hGet hs 8)) 1), (At.sl 7 0 (hvN (hGet hs 9)) 1)])), (Blk.mk Bool.true (Body.fl .f32 (hvLn (hGet hs 10)))), (Blk.mk Bool.true (Body.fl .f32 (hvLn (hGet hs 11)))), (Blk.mk Bool.true (Body.fl .f32 (hvLn (hGet hs 12))))]) := e2.trans (by kernel_rfl)
  clear e2
  subst e1
  unfold zdg at e3
  injection e3 with h1 h2
  subst h2
  exact ⟨8, 8, big, Eq.trans (zj3 (hvN (hGet hs 0)) (hvN (hGet hs 1)) (hvI (hGet hs 2)) (hvLn (hGet hs 4)) (hvLn (hGet hs 5)) (hvLn (hGet hs 6)) (hvN (hGet hs 7)) (hvN (hGet hs 8)) (hvN (hGet hs 9)) (hvLn (hGet hs 10)) big (hvI (hGet hs 3)) (hvLn (hGet hs 11)) (hvLn (hGet hs 12))) (zii (hvN (hGet hs 0)) (hvN (hGet hs 1)) (hvI (hGet hs 2)) (hvLn (hGet hs 4)) (hvLn (hGet hs 5)) (hvLn (hGet hs 6)) (hvN (hGet hs 7)) (hvN (hGet hs 8)) (hvN (hGet hs 9)) (hvLn (hGet hs 10)) (z0t (hvN (hGet hs 0)) (hvN (hGet hs 1)) (hvI (hGet hs 2)) (hvN (hGet hs 8)) (hvN (hGet hs 9)) big (hvI (hGet hs 3)) (hvLn (hGet hs 11)) (hvLn (hGet hs 12))) h1)⟩)
noncomputable def zfo (t1 : Nat) (t2 : Nat) (t3 : Nat) (t10 : Int) (b0 : List Nat) (b1 : List Nat) (b2 : List Nat) (q0n : Nat) (q0r : Nat) (q0q : Nat) : Bool × LO := ((zgz t1 b0 q0n t10), (LO.one (Ex.exit 0) (St.mk [(1, (AV.v (TV.one (At.flt .f32 t1)))), (2, (AV.v (TV.one (At.flt .f32 t2)))), (3, (AV.v (TV.one (At.flt .f32 t3)))), (4, (AV.v (TV.one (At.ptr 3 0 3)))), (8, (AV.v (TV.one (At.ptr 4 0 3)))), (10, (AV.v (TV.one (At.int .i64 (zc4 t1 b0 q0n t10))))), (35, (AV.v (TV.one (At.bool (zk6 t1 b0 q0n t10)))))] [(Blk.mk Bool.false (Body.fl .f32 b0)), (Blk.mk Bool.false (Body.fl .f32 b1)), (Blk.mk Bool.false (Body.fl .f32 b2)), (Blk.mk Bool.true (Body.cells [(At.vw 0 0 q0n 1), (At.vw 1 0 q0r 1), (At.vw 2 0 q0q 1)])), (Blk.mk Bool.true (Body.cells [At.nilsl, At.nilsl, At.nilsl]))])))
noncomputable def zh4 : Nat → St → Option (Bool × LO) := lpT 3 (pSt [(pTm 1 (pV (pOne (pFlt .f32)))), (pTm 2 (pV (pOne (pFlt .f32)))), (pTm 3 (pV (pOne (pFlt .f32)))), (pTm 4 (pV (pOne (pPtr 3 (liN 0) 3)))), (pTm 8 (pV (pOne (pPtr 4 (liN 0) 3)))), (pTm 10 (pV (pOne (pInt .i64))))] [(pBlk Bool.false (pFl .f32)), (pBlk Bool.false (pFl .f32)), (pBlk Bool.false (pFl .f32)), (pBlk Bool.true (pCells [(pVw 0 (liN 0) 1), (pVw 1 (liN 0) 1), (pVw 2 (liN 0) 1)])), (pBlk Bool.true (pCells [pNil, pNil, pNil]))]) (fun hs => zfo (hvN (hGet hs 0)) (hvN (hGet hs 1)) (hvN (hGet hs 2)) (hvI (hGet hs 3)) (hvLn (hGet hs 4)) (hvLn (hGet hs 5)) (hvLn (hGet hs 6)) (hvN (hGet hs 7)) (hvN (hGet hs 8)) (hvN (hGet hs 9)))
def zaz (t1 : Nat) (t2 : Nat) (t3 : Nat) (b0 : List Nat) (b1 : List Nat) (b2 : List Nat) (q0n : Nat) (q0r : Nat) (q0q : Nat) : Option ((Int × Bool)) → Option (Ex × St)
  | none => none
  | some r => some ((Ex.exit 0), (St.mk [(1, (AV.v (TV.one (At.flt .f32 t1)))), (2, (AV.v (TV.one (At.flt .f32 t2)))), (3, (AV.v (TV.one (At.flt .f32 t3)))), (4, (AV.v (TV.one (At.ptr 3 0 3)))), (8, (AV.v (TV.one (At.ptr 4 0 3)))), (10, (AV.v (TV.one (At.int .i64 r.1)))), (35, (AV.v (TV.one (At.bool r.2))))] [(Blk.mk Bool.false (Body.fl .f32 b0)), (Blk.mk Bool.false (Body.fl .f32 b1)), (Blk.mk Bool.false (Body.fl .f32 b2)), (Blk.mk Bool.true (Body.cells [(At.vw 0 0 q0n 1), (At.vw 1 0 q0r 1), (At.vw 2 0 q0q 1)])), (Blk.mk Bool.true (Body.cells [At.nilsl, At.nilsl, At.nilsl]))]))
def zlp (t1 : Nat) (t2 : Nat) (t3 : Nat) (b0 : List Nat) (b1 : List Nat) (b2 : List Nat) (q0n : Nat) (q0r : Nat) (q0q : Nat) (x : Option ((Int × Bool))) : LO := (LO.one (Ex.exit 0) (St.mk [(1, (AV.v (TV.one (At.flt .f32 t1)))), (2, (AV.v (TV.one (At.flt .f32 t2)))), (3, (AV.v (TV.one (At.flt .f32 t3)))), (4, (AV.v (TV.one (At.ptr 3 0 3)))), (8, (AV.v (TV.one (At.ptr 4 0 3)))), (10, (AV.v (TV.one (At.int .i64 (x.getD default).1)))), (35, (AV.v (TV.one (At.bool (x.getD default).2))))] [(Blk.mk Bool.false (Body.fl .f32 b0)), (Blk.mk Bool.false (Body.fl .f32 b1)), (Blk.mk Bool.false (Body.fl .f32 b2)), (Blk.mk Bool.true (Body.cells [(At.vw 0 0 q0n 1), (At.vw 1 0 q0r 1), (At.vw 2 0 q0q 1)])), (Blk.mk Bool.true (Body.cells [At.nilsl, At.nilsl, At.nilsl]))]))
theorem zmb (t1 : Nat) (t2 : Nat) (t3 : Nat) (b0 : List Nat) (b1 : List Nat) (b2 : List Nat) (q0n : Nat) (q0r : Nat) (q0q : Nat) : ∀ x : Option ((Int × Bool)), x.isSome = true → (zaz t1 t2 t3 b0 b1 b2 q0n q0r q0q) x = some (pick (zlp t1 t2 t3 b0 b1 b2 q0n q0r q0q x))
  | none, h => by cases h
  | some r, _ => rfl
theorem zm8 (t1 : Nat) (t2 : Nat) (t3 : Nat) (t10 : Int) (b0 : List Nat) (b1 : List Nat) (b2 : List Nat) (q0n : Nat) (q0r : Nat) (q0q : Nat) (K : Ex → St → Option (Ex × St)) : evC (R := Ex × St) Γ13 (evFn Γ13 8 8) 27 3 fi27.nt fi27.live fi27.nl 8 (findL 4 (loopsIn fi27.code)) (St.mk [(1, (AV.v (TV.one (At.flt .f32 t1)))), (2, (AV.v (TV.one (At.flt .f32 t2)))), (3, (AV.v (TV.one (At.flt .f32 t3)))), (4, (AV.v (TV.one (At.ptr 3 0 3)))), (8, (AV.v (TV.one (At.ptr 4 0 3)))), (10, (AV.v (TV.one (At.int .i64 t10))))] [(Blk.mk Bool.false (Body.fl .f32 b0)), (Blk.mk Bool.false (Body.fl .f32 b1)), (Blk.mk Bool.false (Body.fl .f32 b2)), (Blk.mk Bool.true (Body.cells [(At.vw 0 0 q0n 1), (At.vw 1 0 q0r 1), (At.vw 2 0 q0q 1)])), (Blk.mk Bool.true (Body.cells [At.nilsl, At.nilsl, At.nilsl]))]) K = z4w t1 b0 q0n t10 (fun t10' => K .normal (St.mk [(1, (AV.v (TV.one (At.flt .f32 t1)))), (2, (AV.v (TV.one (At.flt .f32 t2)))), (3, (AV.v (TV.one (At.flt .f32 t3)))), (4, (AV.v (TV.one (At.ptr 3 0 3)))), (8, (AV.v (TV.one (At.ptr 4 0 3)))), (10, (AV.v (TV.one (At.int .i64 t10'))))] [(Blk.mk Bool.false (Body.fl .f32 b0)), (Blk.mk Bool.false (Body.fl .f32 b1)), (Blk.mk Bool.false (Body.fl .f32 b2)), (Blk.mk Bool.true (Body.cells [(At.vw 0 0 q0n 1), (At.vw 1 0 q0r 1), (At.vw 2 0 q0q 1)])), (Blk.mk Bool.true (Body.cells [At.nilsl, At.nilsl, At.nilsl]))])) (fun c0_ c1_ => K (Ex.exit 0) (St.mk [(1, (AV.v (TV.one (At.flt .f32 t1)))), (2, (AV.v (TV.one (At.flt .f32 t2)))), (3, (AV.v (TV.one (At.flt .f32 t3)))), (4, (AV.v (TV.one (At.ptr 3 0 3)))), (8, (AV.v (TV.one (At.ptr 4 0 3)))), (10, (AV.v (TV.one (At.int .i64 c0_)))), (35, (AV.v (TV.one (At.bool c1_))))] [(Blk.mk Bool.false (Body.fl .f32 b0)), (Blk.mk Bool.false (Body.fl .f32 b1)), (Blk.mk Bool.false (Body.fl .f32 b2)), (Blk.mk Bool.true (Body.cells [(At.vw 0 0 q0n 1), (At.vw 1 0 q0r 1), (At.vw 2 0 q0q 1)])), (Blk.mk Bool.true (Body.cells [At.nilsl, At.nilsl, At.nilsl]))])) := by kernel_rfl
theorem zlz (t1 : Nat) (t2 : Nat) (t3 : Nat) (b0 : List Nat) (b1 : List Nat) (b2 : List Nat) (q0n : Nat) (q0r : Nat) (q0q : Nat) : ∀ (n : Nat) (t10 : Int), iter 27 4 3 (evC (R := Ex × St) Γ13 (evFn Γ13 8 8) 27 3 fi27.nt fi27.live fi27.nl 8 (findL 4 (loopsIn fi27.code))) n (St.mk [(1, (AV.v (TV.one (At.flt .f32 t1)))), (2, (AV.v (TV.one (At.flt .f32 t2)))), (3, (AV.v (TV.one (At.flt .f32 t3)))), (4, (AV.v (TV.one (At.ptr 3 0 3)))), (8, (AV.v (TV.one (At.ptr 4 0 3)))), (10, (AV.v (TV.one (At.int .i64 t10))))] [(Blk.mk Bool.false (Body.fl .f32 b0)), (Blk.mk Bool.false (Body.fl .f32 b1)), (Blk.mk Bool.false (Body.fl .f32 b2)), (Blk.mk Bool.true (Body.cells [(At.vw 0 0 q0n 1), (At.vw 1 0 q0r 1), (At.vw 2 0 q0q 1)])), (Blk.mk Bool.true (Body.cells [At.nilsl, At.nilsl, At.nilsl]))]) (fun e st => some (e, st)) = (zaz t1 t2 t3 b0 b1 b2 q0n q0r q0q) (z3p t1 b0 q0n n t10) := by
  intro n
  induction n with
  | zero => intros; rfl
  | succ n ih =>
    intro t10
    refine Eq.trans (iter_succ ..) (Eq.trans (zm8 t1 t2 t3 t10 b0 b1 b2 q0n q0r q0q (nextK 27 4 3 (evC (R := Ex × St) Γ13 (evFn Γ13 8 8) 27 3 fi27.nt fi27.live fi27.nl 8 (findL 4 (loopsIn fi27.code))) n (fun e st => some (e, st)))) (Eq.trans ?_ (zjs t1 b0 q0n t10 (zaz t1 t2 t3 b0 b1 b2 q0n q0r q0q) rfl (fun t10' => z3p t1 b0 q0n n t10') (fun c0_ c1_ => some (c0_, c1_)))))
    exact congrArg (fun kn_ => z4w t1 b0 q0n t10 kn_ (fun c0_ c1_ => (zaz t1 t2 t3 b0 b1 b2 q0n q0r q0q) (some (c0_, c1_)))) (funext fun t10' => ih t10')
theorem zk2 : LoopOne Try.prog fnTab 27 4 zh4 := lp_of (Γ := Γ13) tyTab_ok (FnL.ok fnTab_ok _ _) (LpL.ok lt13_ok) (SumL.ok tb13_ok _) mixed (fi := fi27) (by kernel_rfl) (by kernel_rfl) (by
  intro lo st out hp
  obtain ⟨hs, e1, e2, e3⟩ := lpT_inv hp
  clear hp
  obtain rfl : st = (St.mk [(1, (AV.v (TV.one (At.flt .f32 (hvN (hGet hs 0)))))), (2, (AV.v (TV.one (At.flt .f32 (hvN (hGet hs 1)))))), (3, (AV.v (TV.one (At.flt .f32 (hvN (hGet hs 2)))))), (4, (AV.v (TV.one (At.ptr 3 0 3)))), (8, (AV.v (TV.one (At.ptr 4 0 3)))), (10, (AV.v (TV.one (At.int .i64 (hvI (hGet hs 3))))))] [(Blk.mk Bool.false (Body.fl .f32 (hvLn (hGet hs 4)))), (Blk.mk Bool.false (Body.fl .f32 (hvLn (hGet hs 5)))), (Blk.mk Bool.false (Body.fl .f32 (hvLn (hGet hs 6)))), (Blk.mk Bool.true (Body.cells [(At.vw 0 0 (hvN (hGet hs 7)) 1), (At.vw 1 0 (hvN (hGet hs 8)) 1), (At.vw 2 0 (hvN (hGet hs 9)) 1)])), (Blk.mk Bool.true (Body.cells [At.nilsl, At.nilsl, At.nilsl]))]) := e2.trans (by kernel_rfl)
  clear e2
  subst e1
  unfold zfo at e3
  injection e3 with h1 h2
  subst h2
  exact ⟨8, 8, big, Eq.trans (zlz (hvN (hGet hs 0)) (hvN (hGet hs 1)) (hvN (hGet hs 2)) (hvLn (hGet hs 4)) (hvLn (hGet hs 5)) (hvLn (hGet hs 6)) (hvN (hGet hs 7)) (hvN (hGet hs 8)) (hvN (hGet hs 9)) big (hvI (hGet hs 3))) (zmb (hvN (hGet hs 0)) (hvN (hGet hs 1)) (hvN (hGet hs 2)) (hvLn (hGet hs 4)) (hvLn (hGet hs 5)) (hvLn (hGet hs 6)) (hvN (hGet hs 7)) (hvN (hGet hs 8)) (hvN (hGet hs 9)) (z3p (hvN (hGet hs 0)) (hvLn (hGet hs 4)) (hvN (hGet hs 7)) big (hvI (hGet hs 3))) h1)⟩)
noncomputable def tb14 : List (Nat × (List PT → Option (Bool × AV × List Blk))) := tb13
noncomputable def lt14 : List ((Nat × Nat) × (Nat → St → Option (Bool × LO))) := ((65, 1000000007), z8l) :: ((23, 5), zeu) :: ((24, 5), zeb) :: ((27, 4), zh4) :: lt13
noncomputable def Γ14 : Ctx := ⟨tyTab, fnTab, tblSum tb14, tblLp lt14⟩
theorem tb14_ok : SumL Try.prog tb14 := tb13_ok
theorem lt14_ok : LpL Try.prog fnTab lt14 := LpL.cons zdh (LpL.cons zhw (LpL.cons zhc (LpL.cons zk2 (lt13_ok))))
noncomputable def zd9 : List PT → Option (Bool × AV × List Blk)
  | [.agg [.row 1 q02 (.fl .f32 q08), .row 1 q06 (.fl .f32 q0a), .row 1 q07 (.fl .f32 q0b)], .agg [.row 1 q0s (.fl .f32 q0z), .row 1 q0v (.fl .f32 q11), .row 1 q0u (.fl .f32 q10)], .one (.s (.flt .f32 x2))] => some ((z77 q02 q08 q06 q0a q07 q0b q0s q0z q0v q11 q0u q10 x2), ((AV.tup [(TV.agg [(At.sl 0 0 (zcw q02 q08 q06 q0a q07 q0b q0s q0z q0v q11 q0u q10 x2) 1), (At.sl 1 0 (z99 q02 q08 q06 q0a q07 q0b q0s q0z q0v q11 q0u q10 x2) 1), (At.sl 2 0 (zcv q02 q08 q06 q0a q07 q0b q0s q0z q0v q11 q0u q10 x2) 1)]), (TV.one (At.bool (z6n q02 q08 q06 q0a q07 q0b q0s q0z q0v q11 q0u q10 x2)))]), [(Blk.mk Bool.true (Body.fl .f32 (zcx q02 q08 q06 q0a q07 q0b q0s q0z q0v q11 q0u q10 x2))), (Blk.mk Bool.true (Body.fl .f32 (z9b q02 q08 q06 q0a q07 q0b q0s q0z q0v q11 q0u q10 x2))), (Blk.mk Bool.true (Body.fl .f32 (zcz q02 q08 q06 q0a q07 q0b q0s q0z q0v q11 q0u q10 x2)))]))
  | _ => none
def zgd (q02 : Nat) (q08 : List Nat) (q06 : Nat) (q0a : List Nat) (q07 : Nat) (q0b : List Nat) (q0s : Nat) (q0z : List Nat) (q0v : Nat) (q11 : List Nat) (q0u : Nat) (q10 : List Nat) (x2 : Nat) : Option (Nat × Nat × Nat × Bool × (List Nat) × (List Nat) × (List Nat)) → Option (AV × List Blk)
  | some r => some ((AV.tup [(TV.agg [(At.sl 0 0 r.1 1), (At.sl 1 0 r.2.1 1), (At.sl 2 0 r.2.2.1 1)]), (TV.one (At.bool r.2.2.2.1))]), [(Blk.mk Bool.true (Body.fl .f32 r.2.2.2.2.1)), (Blk.mk Bool.true (Body.fl .f32 r.2.2.2.2.2.1)), (Blk.mk Bool.true (Body.fl .f32 r.2.2.2.2.2.2))])
  | none => none
theorem zl6 (q02 : Nat) (q08 : List Nat) (q06 : Nat) (q0a : List Nat) (q07 : Nat) (q0b : List Nat) (q0s : Nat) (q0z : List Nat) (q0v : Nat) (q11 : List Nat) (q0u : Nat) (q10 : List Nat) (x2 : Nat) : evFn Γ14 8 8 23 (impTs 0 [.agg [.row 1 q02 (.fl .f32 q08), .row 1 q06 (.fl .f32 q0a), .row 1 q07 (.fl .f32 q0b)], .agg [.row 1 q0s (.fl .f32 q0z), .row 1 q0v (.fl .f32 q11), .row 1 q0u (.fl .f32 q10)], .one (.s (.flt .f32 x2))]).1 (impTs 0 [.agg [.row 1 q02 (.fl .f32 q08), .row 1 q06 (.fl .f32 q0a), .row 1 q07 (.fl .f32 q0b)], .agg [.row 1 q0s (.fl .f32 q0z), .row 1 q0v (.fl .f32 q11), .row 1 q0u (.fl .f32 q10)], .one (.s (.flt .f32 x2))]).2 (expo (impTs 0 [.agg [.row 1 q02 (.fl .f32 q08), .row 1 q06 (.fl .f32 q0a), .row 1 q07 (.fl .f32 q0b)], .agg [.row 1 q0s (.fl .f32 q0z), .row 1 q0v (.fl .f32 q11), .row 1 q0u (.fl .f32 q10)], .one (.s (.flt .f32 x2))]).2.length) = z5x q02 q08 q06 q0a q07 q0b q0s q0z q0v q11 q0u q10 x2 (fun c0_ c1_ c2_ c3_ c4_ c5_ c6_ => some ((AV.tup [(TV.agg [(At.sl 0 0 c0_ 1), (At.sl 1 0 c1_ 1), (At.sl 2 0 c2_ 1)]), (TV.one (At.bool c3_))]), [(Blk.mk Bool.true (Body.fl .f32 c4_)), (Blk.mk Bool.true (Body.fl .f32 c5_)), (Blk.mk Bool.true (Body.fl .f32 c6_))])) := by kernel_rfl
theorem zjw : SumOne Try.prog 23 zd9 := sum_of (Γ := Γ14) (fuel := 8) (d := 8) tyTab_ok (FnL.ok fnTab_ok _ _) (LpL.ok lt14_ok) (SumL.ok tb14_ok _) mixed (by
  intro pts v news hp hc
  clear hc
  unfold zd9 at hp
  split at hp
  · rename_i q02 q08 q06 q0a q07 q0b q0s q0z q0v q11 q0u q10 x2
    exact Eq.trans (Eq.trans (zl6 q02 q08 q06 q0a q07 q0b q0s q0z q0v q11 q0u q10 x2) (zih q02 q08 q06 q0a q07 q0b q0s q0z q0v q11 q0u q10 x2 (zgd q02 q08 q06 q0a q07 q0b q0s q0z q0v q11 q0u q10 x2) rfl (fun c0_ c1_ c2_ c3_ c4_ c5_ c6_ => some (c0_, c1_, c2_, c3_, c4_, c5_, c6_)))) (fin_out (o := (zgd q02 q08 q06 q0a q07 q0b q0s q0z q0v q11 q0u q10 x2)) (x := z1x q02 q08 q06 q0a q07 q0b q0s q0z q0v q11 q0u q10 x2) (d := default) (V := fun r => ((AV.tup [(TV.agg [(At.sl 0 0 r.1 1), (At.sl 1 0 r.2.1 1), (At.sl 2 0 r.2.2.1 1)]), (TV.one (At.bool r.2.2.2.1))]), [(Blk.mk Bool.true (Body.fl .f32 r.2.2.2.2.1)), (Blk.mk Bool.true (Body.fl .f32 r.2.2.2.2.2.1)), (Blk.mk Bool.true (Body.fl .f32 r.2.2.2.2.2.2))])) (fun r => rfl) hp)
  · cases hp)
noncomputable def zd2 : List PT → Option (Bool × AV × List Blk)
  | [.agg [.row 1 q03 (.fl .f32 q09), .row 1 q05 (.fl .f32 q0d), .row 1 q04 (.fl .f32 q0c)], .one (.s (.flt .f32 q12)), .one (.s (.flt .f32 q13))] => some ((z6o q03 q09 q05 q0d q04 q0c q12 q13), ((AV.tup [(TV.agg [(At.sl 0 0 (z8e q03 q09 q05 q0d q04 q0c q12 q13) 1), (At.sl 1 0 (z87 q03 q09 q05 q0d q04 q0c q12 q13) 1), (At.sl 2 0 (z8g q03 q09 q05 q0d q04 q0c q12 q13) 1)]), (TV.one (At.bool (z62 q03 q09 q05 q0d q04 q0c q12 q13)))]), [(Blk.mk Bool.true (Body.fl .f32 (z86 q03 q09 q05 q0d q04 q0c q12 q13))), (Blk.mk Bool.true (Body.fl .f32 (z8i q03 q09 q05 q0d q04 q0c q12 q13))), (Blk.mk Bool.true (Body.fl .f32 (z88 q03 q09 q05 q0d q04 q0c q12 q13)))]))
  | _ => none
def zfn (q03 : Nat) (q09 : List Nat) (q05 : Nat) (q0d : List Nat) (q04 : Nat) (q0c : List Nat) (q12 : Nat) (q13 : Nat) : Option (Nat × Nat × Nat × Bool × (List Nat) × (List Nat) × (List Nat)) → Option (AV × List Blk)
  | some r => some ((AV.tup [(TV.agg [(At.sl 0 0 r.1 1), (At.sl 1 0 r.2.1 1), (At.sl 2 0 r.2.2.1 1)]), (TV.one (At.bool r.2.2.2.1))]), [(Blk.mk Bool.true (Body.fl .f32 r.2.2.2.2.1)), (Blk.mk Bool.true (Body.fl .f32 r.2.2.2.2.2.1)), (Blk.mk Bool.true (Body.fl .f32 r.2.2.2.2.2.2))])
  | none => none
theorem zkm (q03 : Nat) (q09 : List Nat) (q05 : Nat) (q0d : List Nat) (q04 : Nat) (q0c : List Nat) (q12 : Nat) (q13 : Nat) : evFn Γ14 8 8 24 (impTs 0 [.agg [.row 1 q03 (.fl .f32 q09), .row 1 q05 (.fl .f32 q0d), .row 1 q04 (.fl .f32 q0c)], .one (.s (.flt .f32 q12)), .one (.s (.flt .f32 q13))]).1 (impTs 0 [.agg [.row 1 q03 (.fl .f32 q09), .row 1 q05 (.fl .f32 q0d), .row 1 q04 (.fl .f32 q0c)], .one (.s (.flt .f32 q12)), .one (.s (.flt .f32 q13))]).2 (expo (impTs 0 [.agg [.row 1 q03 (.fl .f32 q09), .row 1 q05 (.fl .f32 q0d), .row 1 q04 (.fl .f32 q0c)], .one (.s (.flt .f32 q12)), .one (.s (.flt .f32 q13))]).2.length) = z51 q03 q09 q05 q0d q04 q0c q12 q13 (fun c0_ c1_ c2_ c3_ c4_ c5_ c6_ => some ((AV.tup [(TV.agg [(At.sl 0 0 c0_ 1), (At.sl 1 0 c1_ 1), (At.sl 2 0 c2_ 1)]), (TV.one (At.bool c3_))]), [(Blk.mk Bool.true (Body.fl .f32 c4_)), (Blk.mk Bool.true (Body.fl .f32 c5_)), (Blk.mk Bool.true (Body.fl .f32 c6_))])) := by kernel_rfl
theorem zit : SumOne Try.prog 24 zd2 := sum_of (Γ := Γ14) (fuel := 8) (d := 8) tyTab_ok (FnL.ok fnTab_ok _ _) (LpL.ok lt14_ok) (SumL.ok tb14_ok _) mixed (by
  intro pts v news hp hc
  clear hc
  unfold zd2 at hp
  split at hp
  · rename_i q03 q09 q05 q0d q04 q0c q12 q13
    exact Eq.trans (Eq.trans (zkm q03 q09 q05 q0d q04 q0c q12 q13) (zi1 q03 q09 q05 q0d q04 q0c q12 q13 (zfn q03 q09 q05 q0d q04 q0c q12 q13) rfl (fun c0_ c1_ c2_ c3_ c4_ c5_ c6_ => some (c0_, c1_, c2_, c3_, c4_, c5_, c6_)))) (fin_out (o := (zfn q03 q09 q05 q0d q04 q0c q12 q13)) (x := z23 q03 q09 q05 q0d q04 q0c q12 q13) (d := default) (V := fun r => ((AV.tup [(TV.agg [(At.sl 0 0 r.1 1), (At.sl 1 0 r.2.1 1), (At.sl 2 0 r.2.2.1 1)]), (TV.one (At.bool r.2.2.2.1))]), [(Blk.mk Bool.true (Body.fl .f32 r.2.2.2.2.1)), (Blk.mk Bool.true (Body.fl .f32 r.2.2.2.2.2.1)), (Blk.mk Bool.true (Body.fl .f32 r.2.2.2.2.2.2))])) (fun r => rfl) hp)
  · cases hp)
noncomputable def zfv : List PT → Option (Bool × AV × List Blk)
  | [.agg [.row 1 q02 (.fl .f32 q08), .row 1 q06 (.fl .f32 q0a), .row 1 q07 (.fl .f32 q0b)], .one (.s (.flt .f32 x1)), .one (.s (.flt .f32 x2)), .one (.s (.flt .f32 x3))] => some ((zb8 q02 q08 q06 q0a q07 q0b x1 x2 x3), ((AV.tup [(TV.agg [(At.sl 0 0 0 1), (At.sl 1 0 0 1), (At.sl 2 0 0 1)]), (TV.one (At.bool Bool.false))]), [(Blk.mk Bool.true (Body.fl .f32 (zf8 q02 q08 q06 q0a q07 q0b x1 x2 x3))), (Blk.mk Bool.true (Body.fl .f32 (zfb q02 q08 q06 q0a q07 q0b x1 x2 x3))), (Blk.mk Bool.true (Body.fl .f32 (zfg q02 q08 q06 q0a q07 q0b x1 x2 x3)))]))
  | _ => none
def zja (q02 : Nat) (q08 : List Nat) (q06 : Nat) (q0a : List Nat) (q07 : Nat) (q0b : List Nat) (x1 : Nat) (x2 : Nat) (x3 : Nat) : Option ((List Nat) × (List Nat) × (List Nat)) → Option (AV × List Blk)
  | some r => some ((AV.tup [(TV.agg [(At.sl 0 0 0 1), (At.sl 1 0 0 1), (At.sl 2 0 0 1)]), (TV.one (At.bool Bool.false))]), [(Blk.mk Bool.true (Body.fl .f32 r.1)), (Blk.mk Bool.true (Body.fl .f32 r.2.1)), (Blk.mk Bool.true (Body.fl .f32 r.2.2))])
  | none => none
theorem znd (q02 : Nat) (q08 : List Nat) (q06 : Nat) (q0a : List Nat) (q07 : Nat) (q0b : List Nat) (x1 : Nat) (x2 : Nat) (x3 : Nat) : evFn Γ14 8 8 27 (impTs 0 [.agg [.row 1 q02 (.fl .f32 q08), .row 1 q06 (.fl .f32 q0a), .row 1 q07 (.fl .f32 q0b)], .one (.s (.flt .f32 x1)), .one (.s (.flt .f32 x2)), .one (.s (.flt .f32 x3))]).1 (impTs 0 [.agg [.row 1 q02 (.fl .f32 q08), .row 1 q06 (.fl .f32 q0a), .row 1 q07 (.fl .f32 q0b)], .one (.s (.flt .f32 x1)), .one (.s (.flt .f32 x2)), .one (.s (.flt .f32 x3))]).2 (expo (impTs 0 [.agg [.row 1 q02 (.fl .f32 q08), .row 1 q06 (.fl .f32 q0a), .row 1 q07 (.fl .f32 q0b)], .one (.s (.flt .f32 x1)), .one (.s (.flt .f32 x2)), .one (.s (.flt .f32 x3))]).2.length) = z8r q02 q08 q06 q0a q07 q0b x1 x2 x3 (fun c0_ c1_ c2_ => some ((AV.tup [(TV.agg [(At.sl 0 0 0 1), (At.sl 1 0 0 1), (At.sl 2 0 0 1)]), (TV.one (At.bool Bool.false))]), [(Blk.mk Bool.true (Body.fl .f32 c0_)), (Blk.mk Bool.true (Body.fl .f32 c1_)), (Blk.mk Bool.true (Body.fl .f32 c2_))])) := by kernel_rfl
theorem zm9 : SumOne Try.prog 27 zfv := sum_of (Γ := Γ14) (fuel := 8) (d := 8) tyTab_ok (FnL.ok fnTab_ok _ _) (LpL.ok lt14_ok) (SumL.ok tb14_ok _) mixed (by
  intro pts v news hp hc
  clear hc
  unfold zfv at hp
  split at hp
  · rename_i q02 q08 q06 q0a q07 q0b x1 x2 x3
    exact Eq.trans (Eq.trans (znd q02 q08 q06 q0a q07 q0b x1 x2 x3) (zl5 q02 q08 q06 q0a q07 q0b x1 x2 x3 (zja q02 q08 q06 q0a q07 q0b x1 x2 x3) rfl (fun c0_ c1_ c2_ => some (c0_, c1_, c2_)))) (fin_out (o := (zja q02 q08 q06 q0a q07 q0b x1 x2 x3)) (x := z5j q02 q08 q06 q0a q07 q0b x1 x2 x3) (d := default) (V := fun r => ((AV.tup [(TV.agg [(At.sl 0 0 0 1), (At.sl 1 0 0 1), (At.sl 2 0 0 1)]), (TV.one (At.bool Bool.false))]), [(Blk.mk Bool.true (Body.fl .f32 r.1)), (Blk.mk Bool.true (Body.fl .f32 r.2.1)), (Blk.mk Bool.true (Body.fl .f32 r.2.2))])) (fun r => rfl) hp)
  · cases hp)
noncomputable def tb15 : List (Nat × (List PT → Option (Bool × AV × List Blk))) := (23, zd9) :: (24, zd2) :: (27, zfv) :: tb14
noncomputable def lt15 : List ((Nat × Nat) × (Nat → St → Option (Bool × LO))) := lt14
noncomputable def Γ15 : Ctx := ⟨tyTab, fnTab, tblSum tb15, tblLp lt15⟩
theorem tb15_ok : SumL Try.prog tb15 := SumL.cons zjw (SumL.cons zit (SumL.cons zm9 (tb14_ok)))
theorem lt15_ok : LpL Try.prog fnTab lt15 := lt14_ok
noncomputable def z90 (x : Nat) (n_ : Int) (b0 : List Int) (q0g : Nat) (q0l : Int) (q0m : Int) (q0p : Nat) (q0j : Nat) (q0k : Nat) (b5 : List Nat) (b6 : List Nat) (b7 : List Nat) : Bool × LO := ((z4n b0 q0g x n_ q0l q0m q0p q0j q0k b5 b6 b7), (LO.one (Ex.exit 0) (St.mk [(0, (AV.v (TV.one (At.ptr 2 0 3)))), (2, (AV.v (TV.one (At.ptr 3 0 3)))), (3, (AV.v (TV.one (At.ptr 4 0 3)))), (4, (AV.v (TV.one (At.flt .f32 (z5a b0 q0g x n_ q0l q0m q0p q0j q0k b5 b6 b7))))), (5, (AV.v (TV.one (At.int .i64 (z58 b0 q0g x n_ q0l q0m q0p q0j q0k b5 b6 b7))))), (23, (AV.v (TV.one (At.bool (z57 b0 q0g x n_ q0l q0m q0p q0j q0k b5 b6 b7)))))] [(Blk.mk Bool.false (Body.il .u8 b0)), (Blk.mk Bool.true (Body.cells [At.nilsl, At.nilsl, At.nilsl])), (Blk.mk Bool.true (Body.cells [(At.vw 0 0 q0g 1), (At.int .i64 (z53 b0 q0g x n_ q0l q0m q0p q0j q0k b5 b6 b7)), (At.int .u64 (z56 b0 q0g x n_ q0l q0m q0p q0j q0k b5 b6 b7))])), (Blk.mk Bool.true (Body.cells [At.nilsl, At.nilsl, At.nilsl])), (Blk.mk Bool.true (Body.cells [(At.sl 5 0 (z40 b0 q0g x n_ q0l q0m q0p q0j q0k b5 b6 b7) 1), (At.sl 6 0 (z42 b0 q0g x n_ q0l q0m q0p q0j q0k b5 b6 b7) 1), (At.sl 7 0 (z43 b0 q0g x n_ q0l q0m q0p q0j q0k b5 b6 b7) 1)])), (Blk.mk Bool.true (Body.fl .f32 (z3y b0 q0g x n_ q0l q0m q0p q0j q0k b5 b6 b7))), (Blk.mk Bool.true (Body.fl .f32 (z41 b0 q0g x n_ q0l q0m q0p q0j q0k b5 b6 b7))), (Blk.mk Bool.true (Body.fl .f32 (z3n b0 q0g x n_ q0l q0m q0p q0j q0k b5 b6 b7)))])))
noncomputable def zaj : Nat → St → Option (Bool × LO) := lpT 3 (pSt [(pTm 0 (pV (pOne (pPtr 2 (liN 0) 3)))), (pTm 2 (pV (pOne (pPtr 3 (liN 0) 3)))), (pTm 3 (pV (pOne (pPtr 4 (liN 0) 3)))), (pTm 4 (pV (pOne (pFlt .f32)))), (pTm 5 (pV (pOne (pInt .i64))))] [(pBlk Bool.false (pIl .u8)), (pBlk Bool.true (pCells [pNil, pNil, pNil])), (pBlk Bool.true (pCells [(pVw 0 (liN 0) 1), (pInt .i64), (pInt .u64)])), (pBlk Bool.true (pCells [pNil, pNil, pNil])), (pBlk Bool.true (pCells [(pSl 5 (liN 0) 1), (pSl 6 (liN 0) 1), (pSl 7 (liN 0) 1)])), (pBlk Bool.true (pFl .f32)), (pBlk Bool.true (pFl .f32)), (pBlk Bool.true (pFl .f32))]) (fun hs => z90 (hvN (hGet hs 0)) (hvI (hGet hs 1)) (hvLi (hGet hs 2)) (hvN (hGet hs 3)) (hvI (hGet hs 4)) (hvI (hGet hs 5)) (hvN (hGet hs 6)) (hvN (hGet hs 7)) (hvN (hGet hs 8)) (hvLn (hGet hs 9)) (hvLn (hGet hs 10)) (hvLn (hGet hs 11)))
def z4m (b0 : List Int) (q0g : Nat) : Option ((Nat × Int × Bool × Int × Int × Nat × Nat × Nat × (List Nat) × (List Nat) × (List Nat))) → Option (Ex × St)
  | none => none
  | some r => some ((Ex.exit 0), (St.mk [(0, (AV.v (TV.one (At.ptr 2 0 3)))), (2, (AV.v (TV.one (At.ptr 3 0 3)))), (3, (AV.v (TV.one (At.ptr 4 0 3)))), (4, (AV.v (TV.one (At.flt .f32 r.1)))), (5, (AV.v (TV.one (At.int .i64 r.2.1)))), (23, (AV.v (TV.one (At.bool r.2.2.1))))] [(Blk.mk Bool.false (Body.il .u8 b0)), (Blk.mk Bool.true (Body.cells [At.nilsl, At.nilsl, At.nilsl])), (Blk.mk Bool.true (Body.cells [(At.vw 0 0 q0g 1), (At.int .i64 r.2.2.2.1), (At.int .u64 r.2.2.2.2.1)])), (Blk.mk Bool.true (Body.cells [At.nilsl, At.nilsl, At.nilsl])), (Blk.mk Bool.true (Body.cells [(At.sl 5 0 r.2.2.2.2.2.1 1), (At.sl 6 0 r.2.2.2.2.2.2.1 1), (At.sl 7 0 r.2.2.2.2.2.2.2.1 1)])), (Blk.mk Bool.true (Body.fl .f32 r.2.2.2.2.2.2.2.2.1)), (Blk.mk Bool.true (Body.fl .f32 r.2.2.2.2.2.2.2.2.2.1)), (Blk.mk Bool.true (Body.fl .f32 r.2.2.2.2.2.2.2.2.2.2))]))
def zex (b0 : List Int) (q0g : Nat) (x : Option ((Nat × Int × Bool × Int × Int × Nat × Nat × Nat × (List Nat) × (List Nat) × (List Nat)))) : LO := (LO.one (Ex.exit 0) (St.mk [(0, (AV.v (TV.one (At.ptr 2 0 3)))), (2, (AV.v (TV.one (At.ptr 3 0 3)))), (3, (AV.v (TV.one (At.ptr 4 0 3)))), (4, (AV.v (TV.one (At.flt .f32 (x.getD default).1)))), (5, (AV.v (TV.one (At.int .i64 (x.getD default).2.1)))), (23, (AV.v (TV.one (At.bool (x.getD default).2.2.1))))] [(Blk.mk Bool.false (Body.il .u8 b0)), (Blk.mk Bool.true (Body.cells [At.nilsl, At.nilsl, At.nilsl])), (Blk.mk Bool.true (Body.cells [(At.vw 0 0 q0g 1), (At.int .i64 (x.getD default).2.2.2.1), (At.int .u64 (x.getD default).2.2.2.2.1)])), (Blk.mk Bool.true (Body.cells [At.nilsl, At.nilsl, At.nilsl])), (Blk.mk Bool.true (Body.cells [(At.sl 5 0 (x.getD default).2.2.2.2.2.1 1), (At.sl 6 0 (x.getD default).2.2.2.2.2.2.1 1), (At.sl 7 0 (x.getD default).2.2.2.2.2.2.2.1 1)])), (Blk.mk Bool.true (Body.fl .f32 (x.getD default).2.2.2.2.2.2.2.2.1)), (Blk.mk Bool.true (Body.fl .f32 (x.getD default).2.2.2.2.2.2.2.2.2.1)), (Blk.mk Bool.true (Body.fl .f32 (x.getD default).2.2.2.2.2.2.2.2.2.2))]))
theorem zfa (b0 : List Int) (q0g : Nat) : ∀ x : Option ((Nat × Int × Bool × Int × Int × Nat × Nat × Nat × (List Nat) × (List Nat) × (List Nat))), x.isSome = true → (z4m b0 q0g) x = some (pick (zex b0 q0g x))
  | none, h => by cases h
  | some r, _ => rfl
theorem zf7 (x : Nat) (n_ : Int) (b0 : List Int) (q0g : Nat) (q0l : Int) (q0m : Int) (q0p : Nat) (q0j : Nat) (q0k : Nat) (b5 : List Nat) (b6 : List Nat) (b7 : List Nat) (K : Ex → St → Option (Ex × St)) : evC (R := Ex × St) Γ15 (evFn Γ15 8 8) 29 3 fi29.nt fi29.live fi29.nl 8 (findL 6 (loopsIn fi29.code)) (St.mk [(0, (AV.v (TV.one (At.ptr 2 0 3)))), (2, (AV.v (TV.one (At.ptr 3 0 3)))), (3, (AV.v (TV.one (At.ptr 4 0 3)))), (4, (AV.v (TV.one (At.flt .f32 x)))), (5, (AV.v (TV.one (At.int .i64 n_))))] [(Blk.mk Bool.false (Body.il .u8 b0)), (Blk.mk Bool.true (Body.cells [At.nilsl, At.nilsl, At.nilsl])), (Blk.mk Bool.true (Body.cells [(At.vw 0 0 q0g 1), (At.int .i64 q0l), (At.int .u64 q0m)])), (Blk.mk Bool.true (Body.cells [At.nilsl, At.nilsl, At.nilsl])), (Blk.mk Bool.true (Body.cells [(At.sl 5 0 q0p 1), (At.sl 6 0 q0j 1), (At.sl 7 0 q0k 1)])), (Blk.mk Bool.true (Body.fl .f32 b5)), (Blk.mk Bool.true (Body.fl .f32 b6)), (Blk.mk Bool.true (Body.fl .f32 b7))]) K = z1c b0 q0g x n_ q0l q0m q0p q0j q0k b5 b6 b7 (fun x' n_' q0l' q0m' q0p' q0j' q0k' b5' b6' b7' => K .normal (St.mk [(0, (AV.v (TV.one (At.ptr 2 0 3)))), (2, (AV.v (TV.one (At.ptr 3 0 3)))), (3, (AV.v (TV.one (At.ptr 4 0 3)))), (4, (AV.v (TV.one (At.flt .f32 x')))), (5, (AV.v (TV.one (At.int .i64 n_'))))] [(Blk.mk Bool.false (Body.il .u8 b0)), (Blk.mk Bool.true (Body.cells [At.nilsl, At.nilsl, At.nilsl])), (Blk.mk Bool.true (Body.cells [(At.vw 0 0 q0g 1), (At.int .i64 q0l'), (At.int .u64 q0m')])), (Blk.mk Bool.true (Body.cells [At.nilsl, At.nilsl, At.nilsl])), (Blk.mk Bool.true (Body.cells [(At.sl 5 0 q0p' 1), (At.sl 6 0 q0j' 1), (At.sl 7 0 q0k' 1)])), (Blk.mk Bool.true (Body.fl .f32 b5')), (Blk.mk Bool.true (Body.fl .f32 b6')), (Blk.mk Bool.true (Body.fl .f32 b7'))])) (fun c0_ c1_ c2_ c3_ c4_ c5_ c6_ c7_ c8_ c9_ c10_ => K (Ex.exit 0) (St.mk [(0, (AV.v (TV.one (At.ptr 2 0 3)))), (2, (AV.v (TV.one (At.ptr 3 0 3)))), (3, (AV.v (TV.one (At.ptr 4 0 3)))), (4, (AV.v (TV.one (At.flt .f32 c0_)))), (5, (AV.v (TV.one (At.int .i64 c1_)))), (23, (AV.v (TV.one (At.bool c2_))))] [(Blk.mk Bool.false (Body.il .u8 b0)), (Blk.mk Bool.true (Body.cells [At.nilsl, At.nilsl, At.nilsl])), (Blk.mk Bool.true (Body.cells [(At.vw 0 0 q0g 1), (At.int .i64 c3_), (At.int .u64 c4_)])), (Blk.mk Bool.true (Body.cells [At.nilsl, At.nilsl, At.nilsl])), (Blk.mk Bool.true (Body.cells [(At.sl 5 0 c5_ 1), (At.sl 6 0 c6_ 1), (At.sl 7 0 c7_ 1)])), (Blk.mk Bool.true (Body.fl .f32 c8_)), (Blk.mk Bool.true (Body.fl .f32 c9_)), (Blk.mk Bool.true (Body.fl .f32 c10_))])) := by kernel_rfl
theorem zf9 (b0 : List Int) (q0g : Nat) : ∀ (n : Nat) (x : Nat) (n_ : Int) (q0l : Int) (q0m : Int) (q0p : Nat) (q0j : Nat) (q0k : Nat) (b5 : List Nat) (b6 : List Nat) (b7 : List Nat), iter 29 6 3 (evC (R := Ex × St) Γ15 (evFn Γ15 8 8) 29 3 fi29.nt fi29.live fi29.nl 8 (findL 6 (loopsIn fi29.code))) n (St.mk [(0, (AV.v (TV.one (At.ptr 2 0 3)))), (2, (AV.v (TV.one (At.ptr 3 0 3)))), (3, (AV.v (TV.one (At.ptr 4 0 3)))), (4, (AV.v (TV.one (At.flt .f32 x)))), (5, (AV.v (TV.one (At.int .i64 n_))))] [(Blk.mk Bool.false (Body.il .u8 b0)), (Blk.mk Bool.true (Body.cells [At.nilsl, At.nilsl, At.nilsl])), (Blk.mk Bool.true (Body.cells [(At.vw 0 0 q0g 1), (At.int .i64 q0l), (At.int .u64 q0m)])), (Blk.mk Bool.true (Body.cells [At.nilsl, At.nilsl, At.nilsl])), (Blk.mk Bool.true (Body.cells [(At.sl 5 0 q0p 1), (At.sl 6 0 q0j 1), (At.sl 7 0 q0k 1)])), (Blk.mk Bool.true (Body.fl .f32 b5)), (Blk.mk Bool.true (Body.fl .f32 b6)), (Blk.mk Bool.true (Body.fl .f32 b7))]) (fun e st => some (e, st)) = (z4m b0 q0g) (z0b b0 q0g n x n_ q0l q0m q0p q0j q0k b5 b6 b7) := by
  intro n
  induction n with
  | zero => intros; rfl
  | succ n ih =>
    intro x n_ q0l q0m q0p q0j q0k b5 b6 b7
    refine Eq.trans (iter_succ ..) (Eq.trans (zf7 x n_ b0 q0g q0l q0m q0p q0j q0k b5 b6 b7 (nextK 29 6 3 (evC (R := Ex × St) Γ15 (evFn Γ15 8 8) 29 3 fi29.nt fi29.live fi29.nl 8 (findL 6 (loopsIn fi29.code))) n (fun e st => some (e, st)))) (Eq.trans ?_ (ze4 b0 q0g x n_ q0l q0m q0p q0j q0k b5 b6 b7 (z4m b0 q0g) rfl (fun x' n_' q0l' q0m' q0p' q0j' q0k' b5' b6' b7' => z0b b0 q0g n x' n_' q0l' q0m' q0p' q0j' q0k' b5' b6' b7') (fun c0_ c1_ c2_ c3_ c4_ c5_ c6_ c7_ c8_ c9_ c10_ => some (c0_, c1_, c2_, c3_, c4_, c5_, c6_, c7_, c8_, c9_, c10_)))))
    exact congrArg (fun kn_ => z1c b0 q0g x n_ q0l q0m q0p q0j q0k b5 b6 b7 kn_ (fun c0_ c1_ c2_ c3_ c4_ c5_ c6_ c7_ c8_ c9_ c10_ => (z4m b0 q0g) (some (c0_, c1_, c2_, c3_, c4_, c5_, c6_, c7_, c8_, c9_, c10_)))) (funext fun x' => funext fun n_' => funext fun q0l' => funext fun q0m' => funext fun q0p' => funext fun q0j' => funext fun q0k' => funext fun b5' => funext fun b6' => funext fun b7' => ih x' n_' q0l' q0m' q0p' q0j' q0k' b5' b6' b7')
theorem zea : LoopOne Try.prog fnTab 29 6 zaj := lp_of (Γ := Γ15) tyTab_ok (FnL.ok fnTab_ok _ _) (LpL.ok lt15_ok) (SumL.ok tb15_ok _) mixed (fi := fi29) (by kernel_rfl) (by kernel_rfl) (by
  intro lo st out hp
  obtain ⟨hs, e1, e2, e3⟩ := lpT_inv hp
  clear hp
  obtain rfl : st = (St.mk [(0, (AV.v (TV.one (At.ptr 2 0 3)))), (2, (AV.v (TV.one (At.ptr 3 0 3)))), (3, (AV.v (TV.one (At.ptr 4 0 3)))), (4, (AV.v (TV.one (At.flt .f32 (hvN (hGet hs 0)))))), (5, (AV.v (TV.one (At.int .i64 (hvI (hGet hs 1))))))] [(Blk.mk Bool.false (Body.il .u8 (hvLi (hGet hs 2)))), (Blk.mk Bool.true (Body.cells [At.nilsl, At.nilsl, At.nilsl])), (Blk.mk Bool.true (Body.cells [(At.vw 0 0 (hvN (hGet hs 3)) 1), (At.int .i64 (hvI (hGet hs 4))), (At.int .u64 (hvI (hGet hs 5)))])), (Blk.mk Bool.true (Body.cells [At.nilsl, At.nilsl, At.nilsl])), (Blk.mk Bool.true (Body.cells [(At.sl 5 0 (hvN (hGet hs 6)) 1), (At.sl 6 0 (hvN (hGet hs 7)) 1), (At.sl 7 0 (hvN (hGet hs 8)) 1)])), (Blk.mk Bool.true (Body.fl .f32 (hvLn (hGet hs 9)))), (Blk.mk Bool.true (Body.fl .f32 (hvLn (hGet hs 10)))), (Blk.mk Bool.true (Body.fl .f32 (hvLn (hGet hs 11))))]) := e2.trans (by kernel_rfl)
  clear e2
  subst e1
  unfold z90 at e3
  injection e3 with h1 h2
  subst h2
  exact ⟨8, 8, big, Eq.trans (zf9 (hvLi (hGet hs 2)) (hvN (hGet hs 3)) big (hvN (hGet hs 0)) (hvI (hGet hs 1)) (hvI (hGet hs 4)) (hvI (hGet hs 5)) (hvN (hGet hs 6)) (hvN (hGet hs 7)) (hvN (hGet hs 8)) (hvLn (hGet hs 9)) (hvLn (hGet hs 10)) (hvLn (hGet hs 11))) (zfa (hvLi (hGet hs 2)) (hvN (hGet hs 3)) (z0b (hvLi (hGet hs 2)) (hvN (hGet hs 3)) big (hvN (hGet hs 0)) (hvI (hGet hs 1)) (hvI (hGet hs 4)) (hvI (hGet hs 5)) (hvN (hGet hs 6)) (hvN (hGet hs 7)) (hvN (hGet hs 8)) (hvLn (hGet hs 9)) (hvLn (hGet hs 10)) (hvLn (hGet hs 11))) h1)⟩)
noncomputable def tb16 : List (Nat × (List PT → Option (Bool × AV × List Blk))) := tb15
noncomputable def lt16 : List ((Nat × Nat) × (Nat → St → Option (Bool × LO))) := ((29, 6), zaj) :: lt15
noncomputable def Γ16 : Ctx := ⟨tyTab, fnTab, tblSum tb16, tblLp lt16⟩
theorem tb16_ok : SumL Try.prog tb16 := tb15_ok
theorem lt16_ok : LpL Try.prog fnTab lt16 := LpL.cons zea (lt15_ok)
noncomputable def zen : List PT → Option (Bool × AV × List Blk)
  | [.one (.row 1 q0f (.il .u8 q0h))] => some ((zc3 q0f q0h), ((AV.v (TV.agg [(At.sl 0 0 (z05 q0f q0h) 1), (At.sl 1 0 (z04 q0f q0h) 1), (At.sl 2 0 (z06 q0f q0h) 1)])), [(Blk.mk Bool.true (Body.fl .f32 (z3o q0f q0h))), (Blk.mk Bool.true (Body.fl .f32 (z1h q0f q0h))), (Blk.mk Bool.true (Body.fl .f32 (z7y q0f q0h)))]))
  | _ => none
def zhx (q0f : Nat) (q0h : List Int) : Option (Nat × Nat × Nat × (List Nat) × (List Nat) × (List Nat)) → Option (AV × List Blk)
  | some r => some ((AV.v (TV.agg [(At.sl 0 0 r.1 1), (At.sl 1 0 r.2.1 1), (At.sl 2 0 r.2.2.1 1)])), [(Blk.mk Bool.true (Body.fl .f32 r.2.2.2.1)), (Blk.mk Bool.true (Body.fl .f32 r.2.2.2.2.1)), (Blk.mk Bool.true (Body.fl .f32 r.2.2.2.2.2))])
  | none => none
theorem zme (q0f : Nat) (q0h : List Int) : evFn Γ16 8 8 6 (impTs 0 [.one (.row 1 q0f (.il .u8 q0h))]).1 (impTs 0 [.one (.row 1 q0f (.il .u8 q0h))]).2 (expo (impTs 0 [.one (.row 1 q0f (.il .u8 q0h))]).2.length) = z5e q0f q0h (fun c0_ c1_ c2_ c3_ c4_ c5_ => some ((AV.v (TV.agg [(At.sl 0 0 c0_ 1), (At.sl 1 0 c1_ 1), (At.sl 2 0 c2_ 1)])), [(Blk.mk Bool.true (Body.fl .f32 c3_)), (Blk.mk Bool.true (Body.fl .f32 c4_)), (Blk.mk Bool.true (Body.fl .f32 c5_))])) := by kernel_rfl
theorem zkq : SumOne Try.prog 6 zen := sum_of (Γ := Γ16) (fuel := 8) (d := 8) tyTab_ok (FnL.ok fnTab_ok _ _) (LpL.ok lt16_ok) (SumL.ok tb16_ok _) mixed (by
  intro pts v news hp hc
  clear hc
  unfold zen at hp
  split at hp
  · rename_i q0f q0h
    exact Eq.trans (Eq.trans (zme q0f q0h) (zka q0f q0h (zhx q0f q0h) rfl (fun c0_ c1_ c2_ c3_ c4_ c5_ => some (c0_, c1_, c2_, c3_, c4_, c5_)))) (fin_out (o := (zhx q0f q0h)) (x := z2u q0f q0h) (d := default) (V := fun r => ((AV.v (TV.agg [(At.sl 0 0 r.1 1), (At.sl 1 0 r.2.1 1), (At.sl 2 0 r.2.2.1 1)])), [(Blk.mk Bool.true (Body.fl .f32 r.2.2.2.1)), (Blk.mk Bool.true (Body.fl .f32 r.2.2.2.2.1)), (Blk.mk Bool.true (Body.fl .f32 r.2.2.2.2.2))])) (fun r => rfl) hp)
  · cases hp)
noncomputable def tb17 : List (Nat × (List PT → Option (Bool × AV × List Blk))) := (6, zen) :: tb16
noncomputable def lt17 : List ((Nat × Nat) × (Nat → St → Option (Bool × LO))) := lt16
noncomputable def Γ17 : Ctx := ⟨tyTab, fnTab, tblSum tb17, tblLp lt17⟩
theorem tb17_ok : SumL Try.prog tb17 := SumL.cons zkq (tb16_ok)
theorem lt17_ok : LpL Try.prog fnTab lt17 := lt16_ok
noncomputable def tb18 : List (Nat × (List PT → Option (Bool × AV × List Blk))) := tb17
noncomputable def lt18 : List ((Nat × Nat) × (Nat → St → Option (Bool × LO))) := lt17
noncomputable def Γ18 : Ctx := ⟨tyTab, fnTab, tblSum tb18, tblLp lt18⟩
theorem tb18_ok : SumL Try.prog tb18 := tb17_ok
theorem lt18_ok : LpL Try.prog fnTab lt18 := lt17_ok
noncomputable def zdw (t1n : Nat) (t6 : Int) (t7 : Int) (t12 : Nat) (t13 : Nat) (t14 : Int) (b0 : List Int) (b1 : List Int) (q0g : Nat) (q0x : Nat) (q1z : Nat) (b3 : List Nat) (b4 : List Nat) (b5 : List Nat) : Bool × LO := ((laws_FnProfiles_l13_p t6 q0x b4 t12 t13 t14), (LO.one (Ex.exit 0) (St.mk [(1, (AV.v (TV.one (At.vw 1 0 t1n 1)))), (5, (AV.v (TV.one (At.ptr 2 0 3)))), (6, (AV.v (TV.one (At.int .i64 t6)))), (7, (AV.v (TV.one (At.int .i64 t7)))), (12, (AV.v (TV.one (At.flt .f32 (laws_FnProfiles_l13_a0_0 t6 q0x b4 t12 t13 t14))))), (13, (AV.v (TV.one (At.flt .f32 (laws_FnProfiles_l13_a0_1 t6 q0x b4 t12 t13 t14))))), (14, (AV.v (TV.one (At.int .i64 (laws_FnProfiles_l13_a0_2 t6 q0x b4 t12 t13 t14))))), (119, (AV.v (TV.one (At.bool (laws_FnProfiles_l13_a0_3 t6 q0x b4 t12 t13 t14)))))] [(Blk.mk Bool.false (Body.il .u8 b0)), (Blk.mk Bool.false (Body.il .u8 b1)), (Blk.mk Bool.true (Body.cells [(At.sl 3 0 q0g 1), (At.sl 4 0 q0x 1), (At.sl 5 0 q1z 1)])), (Blk.mk Bool.true (Body.fl .f32 b3)), (Blk.mk Bool.true (Body.fl .f32 b4)), (Blk.mk Bool.true (Body.fl .f32 b5))])))
noncomputable def zew : Nat → St → Option (Bool × LO) := lpT 2 (pSt [(pTm 1 (pV (pOne (pVw 1 (liN 0) 1)))), (pTm 5 (pV (pOne (pPtr 2 (liN 0) 3)))), (pTm 6 (pV (pOne (pInt .i64)))), (pTm 7 (pV (pOne (pInt .i64)))), (pTm 12 (pV (pOne (pFlt .f32)))), (pTm 13 (pV (pOne (pFlt .f32)))), (pTm 14 (pV (pOne (pInt .i64))))] [(pBlk Bool.false (pIl .u8)), (pBlk Bool.false (pIl .u8)), (pBlk Bool.true (pCells [(pSl 3 (liN 0) 1), (pSl 4 (liN 0) 1), (pSl 5 (liN 0) 1)])), (pBlk Bool.true (pFl .f32)), (pBlk Bool.true (pFl .f32)), (pBlk Bool.true (pFl .f32))]) (fun hs => zdw (hvN (hGet hs 0)) (hvI (hGet hs 1)) (hvI (hGet hs 2)) (hvN (hGet hs 3)) (hvN (hGet hs 4)) (hvI (hGet hs 5)) (hvLi (hGet hs 6)) (hvLi (hGet hs 7)) (hvN (hGet hs 8)) (hvN (hGet hs 9)) (hvN (hGet hs 10)) (hvLn (hGet hs 11)) (hvLn (hGet hs 12)) (hvLn (hGet hs 13)))
def z7n (t1n : Nat) (t6 : Int) (t7 : Int) (b0 : List Int) (b1 : List Int) (q0g : Nat) (q0x : Nat) (q1z : Nat) (b3 : List Nat) (b4 : List Nat) (b5 : List Nat) : Option ((Nat × Nat × Int × Bool)) → Option (Ex × St)
  | none => none
  | some r => some ((Ex.exit 0), (St.mk [(1, (AV.v (TV.one (At.vw 1 0 t1n 1)))), (5, (AV.v (TV.one (At.ptr 2 0 3)))), (6, (AV.v (TV.one (At.int .i64 t6)))), (7, (AV.v (TV.one (At.int .i64 t7)))), (12, (AV.v (TV.one (At.flt .f32 r.1)))), (13, (AV.v (TV.one (At.flt .f32 r.2.1)))), (14, (AV.v (TV.one (At.int .i64 r.2.2.1)))), (119, (AV.v (TV.one (At.bool r.2.2.2))))] [(Blk.mk Bool.false (Body.il .u8 b0)), (Blk.mk Bool.false (Body.il .u8 b1)), (Blk.mk Bool.true (Body.cells [(At.sl 3 0 q0g 1), (At.sl 4 0 q0x 1), (At.sl 5 0 q1z 1)])), (Blk.mk Bool.true (Body.fl .f32 b3)), (Blk.mk Bool.true (Body.fl .f32 b4)), (Blk.mk Bool.true (Body.fl .f32 b5))]))
def ziu (t1n : Nat) (t6 : Int) (t7 : Int) (b0 : List Int) (b1 : List Int) (q0g : Nat) (q0x : Nat) (q1z : Nat) (b3 : List Nat) (b4 : List Nat) (b5 : List Nat) (x : Option ((Nat × Nat × Int × Bool))) : LO := (LO.one (Ex.exit 0) (St.mk [(1, (AV.v (TV.one (At.vw 1 0 t1n 1)))), (5, (AV.v (TV.one (At.ptr 2 0 3)))), (6, (AV.v (TV.one (At.int .i64 t6)))), (7, (AV.v (TV.one (At.int .i64 t7)))), (12, (AV.v (TV.one (At.flt .f32 (x.getD default).1)))), (13, (AV.v (TV.one (At.flt .f32 (x.getD default).2.1)))), (14, (AV.v (TV.one (At.int .i64 (x.getD default).2.2.1)))), (119, (AV.v (TV.one (At.bool (x.getD default).2.2.2))))] [(Blk.mk Bool.false (Body.il .u8 b0)), (Blk.mk Bool.false (Body.il .u8 b1)), (Blk.mk Bool.true (Body.cells [(At.sl 3 0 q0g 1), (At.sl 4 0 q0x 1), (At.sl 5 0 q1z 1)])), (Blk.mk Bool.true (Body.fl .f32 b3)), (Blk.mk Bool.true (Body.fl .f32 b4)), (Blk.mk Bool.true (Body.fl .f32 b5))]))
theorem zjf (t1n : Nat) (t6 : Int) (t7 : Int) (b0 : List Int) (b1 : List Int) (q0g : Nat) (q0x : Nat) (q1z : Nat) (b3 : List Nat) (b4 : List Nat) (b5 : List Nat) : ∀ x : Option ((Nat × Nat × Int × Bool)), x.isSome = true → (z7n t1n t6 t7 b0 b1 q0g q0x q1z b3 b4 b5) x = some (pick (ziu t1n t6 t7 b0 b1 q0g q0x q1z b3 b4 b5 x))
  | none, h => by cases h
  | some r, _ => rfl
theorem zj7 (t1n : Nat) (t6 : Int) (t7 : Int) (t12 : Nat) (t13 : Nat) (t14 : Int) (b0 : List Int) (b1 : List Int) (q0g : Nat) (q0x : Nat) (q1z : Nat) (b3 : List Nat) (b4 : List Nat) (b5 : List Nat) (K : Ex → St → Option (Ex × St)) : evC (R := Ex × St) Γ18 (evFn Γ18 8 8) 4 2 fi4.nt fi4.live fi4.nl 8 (findL 13 (loopsIn fi4.code)) (St.mk [(1, (AV.v (TV.one (At.vw 1 0 t1n 1)))), (5, (AV.v (TV.one (At.ptr 2 0 3)))), (6, (AV.v (TV.one (At.int .i64 t6)))), (7, (AV.v (TV.one (At.int .i64 t7)))), (12, (AV.v (TV.one (At.flt .f32 t12)))), (13, (AV.v (TV.one (At.flt .f32 t13)))), (14, (AV.v (TV.one (At.int .i64 t14))))] [(Blk.mk Bool.false (Body.il .u8 b0)), (Blk.mk Bool.false (Body.il .u8 b1)), (Blk.mk Bool.true (Body.cells [(At.sl 3 0 q0g 1), (At.sl 4 0 q0x 1), (At.sl 5 0 q1z 1)])), (Blk.mk Bool.true (Body.fl .f32 b3)), (Blk.mk Bool.true (Body.fl .f32 b4)), (Blk.mk Bool.true (Body.fl .f32 b5))]) K = z2p t6 q0x b4 t12 t13 t14 (fun t12' t13' t14' => K .normal (St.mk [(1, (AV.v (TV.one (At.vw 1 0 t1n 1)))), (5, (AV.v (TV.one (At.ptr 2 0 3)))), (6, (AV.v (TV.one (At.int .i64 t6)))), (7, (AV.v (TV.one (At.int .i64 t7)))), (12, (AV.v (TV.one (At.flt .f32 t12')))), (13, (AV.v (TV.one (At.flt .f32 t13')))), (14, (AV.v (TV.one (At.int .i64 t14'))))] [(Blk.mk Bool.false (Body.il .u8 b0)), (Blk.mk Bool.false (Body.il .u8 b1)), (Blk.mk Bool.true (Body.cells [(At.sl 3 0 q0g 1), (At.sl 4 0 q0x 1), (At.sl 5 0 q1z 1)])), (Blk.mk Bool.true (Body.fl .f32 b3)), (Blk.mk Bool.true (Body.fl .f32 b4)), (Blk.mk Bool.true (Body.fl .f32 b5))])) (fun c0_ c1_ c2_ c3_ => K (Ex.exit 0) (St.mk [(1, (AV.v (TV.one (At.vw 1 0 t1n 1)))), (5, (AV.v (TV.one (At.ptr 2 0 3)))), (6, (AV.v (TV.one (At.int .i64 t6)))), (7, (AV.v (TV.one (At.int .i64 t7)))), (12, (AV.v (TV.one (At.flt .f32 c0_)))), (13, (AV.v (TV.one (At.flt .f32 c1_)))), (14, (AV.v (TV.one (At.int .i64 c2_)))), (119, (AV.v (TV.one (At.bool c3_))))] [(Blk.mk Bool.false (Body.il .u8 b0)), (Blk.mk Bool.false (Body.il .u8 b1)), (Blk.mk Bool.true (Body.cells [(At.sl 3 0 q0g 1), (At.sl 4 0 q0x 1), (At.sl 5 0 q1z 1)])), (Blk.mk Bool.true (Body.fl .f32 b3)), (Blk.mk Bool.true (Body.fl .f32 b4)), (Blk.mk Bool.true (Body.fl .f32 b5))])) := by kernel_rfl
theorem zji (t1n : Nat) (t6 : Int) (t7 : Int) (b0 : List Int) (b1 : List Int) (q0g : Nat) (q0x : Nat) (q1z : Nat) (b3 : List Nat) (b4 : List Nat) (b5 : List Nat) : ∀ (n : Nat) (t12 : Nat) (t13 : Nat) (t14 : Int), iter 4 13 2 (evC (R := Ex × St) Γ18 (evFn Γ18 8 8) 4 2 fi4.nt fi4.live fi4.nl 8 (findL 13 (loopsIn fi4.code))) n (St.mk [(1, (AV.v (TV.one (At.vw 1 0 t1n 1)))), (5, (AV.v (TV.one (At.ptr 2 0 3)))), (6, (AV.v (TV.one (At.int .i64 t6)))), (7, (AV.v (TV.one (At.int .i64 t7)))), (12, (AV.v (TV.one (At.flt .f32 t12)))), (13, (AV.v (TV.one (At.flt .f32 t13)))), (14, (AV.v (TV.one (At.int .i64 t14))))] [(Blk.mk Bool.false (Body.il .u8 b0)), (Blk.mk Bool.false (Body.il .u8 b1)), (Blk.mk Bool.true (Body.cells [(At.sl 3 0 q0g 1), (At.sl 4 0 q0x 1), (At.sl 5 0 q1z 1)])), (Blk.mk Bool.true (Body.fl .f32 b3)), (Blk.mk Bool.true (Body.fl .f32 b4)), (Blk.mk Bool.true (Body.fl .f32 b5))]) (fun e st => some (e, st)) = (z7n t1n t6 t7 b0 b1 q0g q0x q1z b3 b4 b5) (z18 t6 q0x b4 n t12 t13 t14) := by
  intro n
  induction n with
  | zero => intros; rfl
  | succ n ih =>
    intro t12 t13 t14
    refine Eq.trans (iter_succ ..) (Eq.trans (zj7 t1n t6 t7 t12 t13 t14 b0 b1 q0g q0x q1z b3 b4 b5 (nextK 4 13 2 (evC (R := Ex × St) Γ18 (evFn Γ18 8 8) 4 2 fi4.nt fi4.live fi4.nl 8 (findL 13 (loopsIn fi4.code))) n (fun e st => some (e, st)))) (Eq.trans ?_ (zha t6 q0x b4 t12 t13 t14 (z7n t1n t6 t7 b0 b1 q0g q0x q1z b3 b4 b5) rfl (fun t12' t13' t14' => z18 t6 q0x b4 n t12' t13' t14') (fun c0_ c1_ c2_ c3_ => some (c0_, c1_, c2_, c3_)))))
    exact congrArg (fun kn_ => z2p t6 q0x b4 t12 t13 t14 kn_ (fun c0_ c1_ c2_ c3_ => (z7n t1n t6 t7 b0 b1 q0g q0x q1z b3 b4 b5) (some (c0_, c1_, c2_, c3_)))) (funext fun t12' => funext fun t13' => funext fun t14' => ih t12' t13' t14')
end Go.Proofs.Ythaiinndikpmcaa
