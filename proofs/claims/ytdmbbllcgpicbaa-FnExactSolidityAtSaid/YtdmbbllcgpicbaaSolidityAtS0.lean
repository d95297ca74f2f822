/-
  What functions answer: that the evaluator answers so. Printed by a program.
-/
import Derived.Test.YtdmbbllcgpicbaaSolidityAtC
set_option linter.unusedVariables false
set_option linter.unusedSimpArgs false
set_option maxRecDepth 100000
set_option maxHeartbeats 4000000
namespace Go.Proofs.Ytdmbbllcgpicbaa
open Go Go.Rf
def z13 : List PT → Option (Bool × AV × List Blk)
  | [.one (.s (.flt .f64 x))] => some (bnot (nanQ .f64 x), A1 (.int .u64 x), [])
  | _ => none
theorem z0t : SumOne Try.prog 129 z13 := by
  intro pts v news hp w vals hv
  unfold z13 at hp
  split at hp
  · rename_i x
    injection hp with hp
    injection hp with h1 hp
    injection hp with h2 h3
    subst h2
    subst h3
    obtain ⟨l, hl⟩ : ∃ l, l = vals.toList := ⟨_, rfl⟩
    rw [← hl] at hv
    cases hv with
    | cons a1 a2 =>
      cases a2
      obtain ⟨b, hb1, hb2, hb3⟩ := a1
      subst hb1
      rename_i hx
      have hvals : vals = #[.float .f64 b] := by rw [← Array.toList_inj, ← hl]
      subst hvals
      have hn : nanB .f64 b = false := by rw [← nanB_cn, hb3]; simpa [bnot, nanQ] using h1
      rw [cn_of_not hn] at hb3
      subst hb3
      refine .inl ⟨_, w, by (simp only [callFunc, Sem.run_bind, run_program, Result.andThen_ok, Try.func129]; rfl), NoB, ⟨⟨(fun t b' h => by cases t <;> cases h), (fun t t' b1 b2 x x' _ h => by cases t <;> cases h)⟩, (fun t x h => by cases h), Fr.refl _ w⟩, rfl⟩
  · cases hp
def z0l : List PT → Option (Bool × AV × List Blk)
  | [.one (.s (.int .u64 x))] => some (okU .f64 x, A1 (.flt .f64 (cnI .f64 x)), [])
  | _ => none
theorem z0i : SumOne Try.prog 133 z0l := by
  intro pts v news hp w vals hv
  unfold z0l at hp
  split at hp
  · rename_i x
    injection hp with hp
    injection hp with h1 hp
    injection hp with h2 h3
    subst h2
    subst h3
    obtain ⟨l, hl⟩ : ∃ l, l = vals.toList := ⟨_, rfl⟩
    rw [← hl] at hv
    cases hv with
    | cons a1 a2 =>
      cases a2
      have hb1 : _ = Value.int .u64 x := a1
      subst hb1
      rename_i hx
      have hvals : vals = #[.int .u64 x] := by rw [← Array.toList_inj, ← hl]
      subst hvals
      have hw := okU_lt h1
      refine .inl ⟨_, w, by (simp only [callFunc, Sem.run_bind, run_program, Result.andThen_ok, Try.func133]; rfl), NoB, ⟨⟨(fun t b' h => by cases t <;> cases h), (fun t t' b1 b2 x x' _ h => by cases t <;> cases h)⟩, (fun t x h => by cases h), Fr.refl _ w⟩, ⟨_, rfl, hw, rfl⟩⟩
  · cases hp
def z14 : List PT → Option (Bool × AV × List Blk)
  | [.one (.s (.flt .f32 x))] => some (bnot (nanQ .f32 x), A1 (.int .u32 x), [])
  | _ => none
theorem z0s : SumOne Try.prog 137 z14 := by
  intro pts v news hp w vals hv
  unfold z14 at hp
  split at hp
  · rename_i x
    injection hp with hp
    injection hp with h1 hp
    injection hp with h2 h3
    subst h2
    subst h3
    obtain ⟨l, hl⟩ : ∃ l, l = vals.toList := ⟨_, rfl⟩
    rw [← hl] at hv
    cases hv with
    | cons a1 a2 =>
      cases a2
      obtain ⟨b, hb1, hb2, hb3⟩ := a1
      subst hb1
      rename_i hx
      have hvals : vals = #[.float .f32 b] := by rw [← Array.toList_inj, ← hl]
      subst hvals
      have hn : nanB .f32 b = false := by rw [← nanB_cn, hb3]; simpa [bnot, nanQ] using h1
      rw [cn_of_not hn] at hb3
      subst hb3
      refine .inl ⟨_, w, by (simp only [callFunc, Sem.run_bind, run_program, Result.andThen_ok, Try.func137]; rfl), NoB, ⟨⟨(fun t b' h => by cases t <;> cases h), (fun t t' b1 b2 x x' _ h => by cases t <;> cases h)⟩, (fun t x h => by cases h), Fr.refl _ w⟩, rfl⟩
  · cases hp
def z1v : List PT → Option (Bool × AV × List Blk)
  | [.one (.s (.flt .f64 x))] => some (bnot (nanQ .f64 x), A1 (.flt .f64 (fint .zero x)), [])
  | _ => none
theorem z15 : SumOne Try.prog 139 z1v := by
  intro pts v news hp w vals hv
  unfold z1v at hp
  split at hp
  · rename_i x
    injection hp with hp
    injection hp with h1 hp
    injection hp with h2 h3
    subst h2
    subst h3
    obtain ⟨l, hl⟩ : ∃ l, l = vals.toList := ⟨_, rfl⟩
    rw [← hl] at hv
    cases hv with
    | cons a1 a2 =>
      cases a2
      obtain ⟨b, hb1, hb2, hb3⟩ := a1
      subst hb1
      rename_i hx
      have hvals : vals = #[.float .f64 b] := by rw [← Array.toList_inj, ← hl]
      subst hvals
      have hn : nanB .f64 b = false := by rw [← nanB_cn, hb3]; simpa [bnot, nanQ] using h1
      rw [cn_of_not hn] at hb3
      subst hb3
      refine .inl ⟨_, w, by (simp only [callFunc, Sem.run_bind, run_program, Result.andThen_ok, Try.func139]; change (do let v ← Extern.MathFloor.toIntegral "math.archTrunc" .zero #[.float .f64 b]; pure (.value v) : Sem Next).run Try.prog w = _; rw [Sem.run_bind, run_fint hn]; rfl), NoB, ⟨⟨(fun t b' h => by cases t <;> cases h), (fun t t' b1 b2 x x' _ h => by cases t <;> cases h)⟩, (fun t x h => by cases h), Fr.refl _ w⟩, fint_rel hn⟩
  · cases hp
noncomputable def tb0 : List (Nat × (List PT → Option (Bool × AV × List Blk))) := [(129, z13), (133, z0l), (137, z14), (139, z1v)]
noncomputable def lt0 : List ((Nat × Nat) × (Nat → St → Option (Bool × LO))) := []
noncomputable def Γ0 : Ctx := ⟨tyTab, fnTab, tblSum tb0, tblLp lt0⟩
theorem tb0_ok : SumL Try.prog tb0 := SumL.cons z0t (SumL.cons z0i (SumL.cons z0s (SumL.cons z15 (SumL.nil))))
theorem lt0_ok : LpL Try.prog fnTab lt0 := LpL.nil
noncomputable def z20 : List PT → Option (Bool × AV × List Blk)
  | [.one (.s (.flt .f64 a)), .one (.s (.flt .f64 b))] => some ((z5l a b), ((AV.v (TV.one (At.bool (z5h a b)))), []))
  | _ => none
def zeh (a : Nat) (b : Nat) : Option (Bool) → Option (AV × List Blk)
  | some r => some ((AV.v (TV.one (At.bool r))), [])
  | none => none
theorem zi8 (a : Nat) (b : Nat) : evFn Γ0 8 8 25 (impTs 0 [.one (.s (.flt .f64 a)), .one (.s (.flt .f64 b))]).1 (impTs 0 [.one (.s (.flt .f64 a)), .one (.s (.flt .f64 b))]).2 (expo (impTs 0 [.one (.s (.flt .f64 a)), .one (.s (.flt .f64 b))]).2.length) = z88 a b (fun c0_ => some ((AV.v (TV.one (At.bool c0_))), [])) := by kernel_rfl
theorem z1a : SumOne Try.prog 25 z20 := sum_of (Γ := Γ0) (fuel := 8) (d := 8) tyTab_ok (FnL.ok fnTab_ok _ _) (LpL.ok lt0_ok) (SumL.ok tb0_ok _) mixed (by
  intro pts v news hp hc
  clear hc
  unfold z20 at hp
  split at hp
  · rename_i a b
    exact Eq.trans (Eq.trans (zi8 a b) (zfv (zeh a b) rfl a b (fun c0_ => some c0_))) (fin_out (o := (zeh a b)) (x := z83 a b) (d := default) (V := fun r => ((AV.v (TV.one (At.bool r))), [])) (fun r => rfl) hp)
  · cases hp)
noncomputable def z3d : List PT → Option (Bool × AV × List Blk)
  | [.one (.s (.int .i64 n_)), .one (.s (.int .i64 low)), .one (.s (.int .i64 q23))] => some ((zcu n_ low q23), ((AV.v (TV.one (At.bool (zcf n_ low q23)))), []))
  | _ => none
def zh5 (n_ : Int) (low : Int) (q23 : Int) : Option (Bool) → Option (AV × List Blk)
  | some r => some ((AV.v (TV.one (At.bool r))), [])
  | none => none
theorem zj6 (n_ : Int) (low : Int) (q23 : Int) : evFn Γ0 8 8 59 (impTs 0 [.one (.s (.int .i64 n_)), .one (.s (.int .i64 low)), .one (.s (.int .i64 q23))]).1 (impTs 0 [.one (.s (.int .i64 n_)), .one (.s (.int .i64 low)), .one (.s (.int .i64 q23))]).2 (expo (impTs 0 [.one (.s (.int .i64 n_)), .one (.s (.int .i64 low)), .one (.s (.int .i64 q23))]).2.length) = zbu n_ low q23 (fun c0_ => some ((AV.v (TV.one (At.bool c0_))), [])) := by kernel_rfl
theorem z2t : SumOne Try.prog 59 z3d := sum_of (Γ := Γ0) (fuel := 8) (d := 8) tyTab_ok (FnL.ok fnTab_ok _ _) (LpL.ok lt0_ok) (SumL.ok tb0_ok _) mixed (by
  intro pts v news hp hc
  clear hc
  unfold z3d at hp
  split at hp
  · rename_i n_ low q23
    exact Eq.trans (Eq.trans (zj6 n_ low q23) (zi7 (zh5 n_ low q23) rfl n_ low q23 (fun c0_ => some c0_))) (fin_out (o := (zh5 n_ low q23)) (x := zbr n_ low q23) (d := default) (V := fun r => ((AV.v (TV.one (At.bool r))), [])) (fun r => rfl) hp)
  · cases hp)
noncomputable def z21 : List PT → Option (Bool × AV × List Blk)
  | [.one (.s (.flt .f32 x))] => some ((z51 x), ((AV.v (TV.one (At.bool (z4s x)))), []))
  | _ => none
def ze4 (x : Nat) : Option (Bool) → Option (AV × List Blk)
  | some r => some ((AV.v (TV.one (At.bool r))), [])
  | none => none
theorem zie (x : Nat) : evFn Γ0 8 8 64 (impTs 0 [.one (.s (.flt .f32 x))]).1 (impTs 0 [.one (.s (.flt .f32 x))]).2 (expo (impTs 0 [.one (.s (.flt .f32 x))]).2.length) = z9g x (fun c0_ => some ((AV.v (TV.one (At.bool c0_))), [])) := by kernel_rfl
theorem z18 : SumOne Try.prog 64 z21 := sum_of (Γ := Γ0) (fuel := 8) (d := 8) tyTab_ok (FnL.ok fnTab_ok _ _) (LpL.ok lt0_ok) (SumL.ok tb0_ok _) mixed (by
  intro pts v news hp hc
  clear hc
  unfold z21 at hp
  split at hp
  · rename_i x
    exact Eq.trans (Eq.trans (zie x) (zgg (ze4 x) rfl x (fun c0_ => some c0_))) (fin_out (o := (ze4 x)) (x := z9e x) (d := default) (V := fun r => ((AV.v (TV.one (At.bool r))), [])) (fun r => rfl) hp)
  · cases hp)
noncomputable def z35 : List PT → Option (Bool × AV × List Blk)
  | [.one (.s (.int .i64 n_)), .one (.s (.int .i64 low)), .one (.s (.int .i64 q23))] => some ((zcg n_ low q23), ((AV.v (TV.one (At.bool (zbh n_ low q23)))), []))
  | _ => none
def zgj (n_ : Int) (low : Int) (q23 : Int) : Option (Bool) → Option (AV × List Blk)
  | some r => some ((AV.v (TV.one (At.bool r))), [])
  | none => none
theorem zj2 (n_ : Int) (low : Int) (q23 : Int) : evFn Γ0 8 8 66 (impTs 0 [.one (.s (.int .i64 n_)), .one (.s (.int .i64 low)), .one (.s (.int .i64 q23))]).1 (impTs 0 [.one (.s (.int .i64 n_)), .one (.s (.int .i64 low)), .one (.s (.int .i64 q23))]).2 (expo (impTs 0 [.one (.s (.int .i64 n_)), .one (.s (.int .i64 low)), .one (.s (.int .i64 q23))]).2.length) = z9z n_ low q23 (fun c0_ => some ((AV.v (TV.one (At.bool c0_))), [])) := by kernel_rfl
theorem z2f : SumOne Try.prog 66 z35 := sum_of (Γ := Γ0) (fuel := 8) (d := 8) tyTab_ok (FnL.ok fnTab_ok _ _) (LpL.ok lt0_ok) (SumL.ok tb0_ok _) mixed (by
  intro pts v news hp hc
  clear hc
  unfold z35 at hp
  split at hp
  · rename_i n_ low q23
    exact Eq.trans (Eq.trans (zj2 n_ low q23) (zhq (zgj n_ low q23) rfl n_ low q23 (fun c0_ => some c0_))) (fin_out (o := (zgj n_ low q23)) (x := z9y n_ low q23) (d := default) (V := fun r => ((AV.v (TV.one (At.bool r))), [])) (fun r => rfl) hp)
  · cases hp)
noncomputable def z2g : List PT → Option (Bool × AV × List Blk)
  | [.one (.s (.flt .f32 x)), .one (.s (.flt .f32 low)), .one (.s (.flt .f32 q23))] => some ((zcr x low q23), ((AV.v (TV.one (At.bool (zc8 x low q23)))), []))
  | _ => none
def zel (x : Nat) (low : Nat) (q23 : Nat) : Option (Bool) → Option (AV × List Blk)
  | some r => some ((AV.v (TV.one (At.bool r))), [])
  | none => none
theorem ziv (x : Nat) (low : Nat) (q23 : Nat) : evFn Γ0 8 8 68 (impTs 0 [.one (.s (.flt .f32 x)), .one (.s (.flt .f32 low)), .one (.s (.flt .f32 q23))]).1 (impTs 0 [.one (.s (.flt .f32 x)), .one (.s (.flt .f32 low)), .one (.s (.flt .f32 q23))]).2 (expo (impTs 0 [.one (.s (.flt .f32 x)), .one (.s (.flt .f32 low)), .one (.s (.flt .f32 q23))]).2.length) = z8n x low q23 (fun c0_ => some ((AV.v (TV.one (At.bool c0_))), [])) := by kernel_rfl
theorem z1n : SumOne Try.prog 68 z2g := sum_of (Γ := Γ0) (fuel := 8) (d := 8) tyTab_ok (FnL.ok fnTab_ok _ _) (LpL.ok lt0_ok) (SumL.ok tb0_ok _) mixed (by
  intro pts v news hp hc
  clear hc
  unfold z2g at hp
  split at hp
  · rename_i x low q23
    exact Eq.trans (Eq.trans (ziv x low q23) (zgm (zel x low q23) rfl x low q23 (fun c0_ => some c0_))) (fin_out (o := (zel x low q23)) (x := z8r x low q23) (d := default) (V := fun r => ((AV.v (TV.one (At.bool r))), [])) (fun r => rfl) hp)
  · cases hp)
noncomputable def z1p : List PT → Option (Bool × AV × List Blk)
  | [.one (.row 1 a_n (.fl .f32 a)), .one (.s (.int .i64 q1q))] => some ((z7o a_n a q1q), ((AV.v (TV.one (At.int IntKind.i64 (z44 a_n a q1q)))), []))
  | _ => none
def zdt (a_n : Nat) (a : List Nat) (q1q : Int) : Option (Int) → Option (AV × List Blk)
  | some r => some ((AV.v (TV.one (At.int IntKind.i64 r))), [])
  | none => none
theorem zhy (a_n : Nat) (a : List Nat) (q1q : Int) : evFn Γ0 8 8 70 (impTs 0 [.one (.row 1 a_n (.fl .f32 a)), .one (.s (.int .i64 q1q))]).1 (impTs 0 [.one (.row 1 a_n (.fl .f32 a)), .one (.s (.int .i64 q1q))]).2 (expo (impTs 0 [.one (.row 1 a_n (.fl .f32 a)), .one (.s (.int .i64 q1q))]).2.length) = z7b a_n a q1q (fun c0_ => some ((AV.v (TV.one (At.int IntKind.i64 c0_))), [])) := by kernel_rfl
theorem z0z : SumOne Try.prog 70 z1p := sum_of (Γ := Γ0) (fuel := 8) (d := 8) tyTab_ok (FnL.ok fnTab_ok _ _) (LpL.ok lt0_ok) (SumL.ok tb0_ok _) mixed (by
  intro pts v news hp hc
  clear hc
  unfold z1p at hp
  split at hp
  · rename_i a_n a q1q
    exact Eq.trans (Eq.trans (zhy a_n a q1q) (zfq (zdt a_n a q1q) rfl a_n a q1q (fun c0_ => some c0_))) (fin_out (o := (zdt a_n a q1q)) (x := z7g a_n a q1q) (d := default) (V := fun r => ((AV.v (TV.one (At.int IntKind.i64 r))), [])) (fun r => rfl) hp)
  · cases hp)
noncomputable def z2h : List PT → Option (Bool × AV × List Blk)
  | [.one (.s (.flt .f32 x))] => some ((z5t x), ((AV.v (TV.one (At.bool (z5m x)))), []))
  | _ => none
def zeo (x : Nat) : Option (Bool) → Option (AV × List Blk)
  | some r => some ((AV.v (TV.one (At.bool r))), [])
  | none => none
theorem zin (x : Nat) : evFn Γ0 8 8 78 (impTs 0 [.one (.s (.flt .f32 x))]).1 (impTs 0 [.one (.s (.flt .f32 x))]).2 (expo (impTs 0 [.one (.s (.flt .f32 x))]).2.length) = zag x (fun c0_ => some ((AV.v (TV.one (At.bool c0_))), [])) := by kernel_rfl
theorem z1m : SumOne Try.prog 78 z2h := sum_of (Γ := Γ0) (fuel := 8) (d := 8) tyTab_ok (FnL.ok fnTab_ok _ _) (LpL.ok lt0_ok) (SumL.ok tb0_ok _) mixed (by
  intro pts v news hp hc
  clear hc
  unfold z2h at hp
  split at hp
  · rename_i x
    exact Eq.trans (Eq.trans (zin x) (zgo (zeo x) rfl x (fun c0_ => some c0_))) (fin_out (o := (zeo x)) (x := zab x) (d := default) (V := fun r => ((AV.v (TV.one (At.bool r))), [])) (fun r => rfl) hp)
  · cases hp)
noncomputable def z1o : List PT → Option (Bool × AV × List Blk)
  | [.one (.row 3 a_n (.fl .f32 a)), .one (.s (.int .i64 q1q))] => some ((zb5 a_n a q1q), ((AV.v (TV.one (At.int IntKind.i64 (z8h a_n a q1q)))), []))
  | _ => none
def zdu (a_n : Nat) (a : List Nat) (q1q : Int) : Option (Int) → Option (AV × List Blk)
  | some r => some ((AV.v (TV.one (At.int IntKind.i64 r))), [])
  | none => none
theorem zhn (a_n : Nat) (a : List Nat) (q1q : Int) : evFn Γ0 8 8 82 (impTs 0 [.one (.row 3 a_n (.fl .f32 a)), .one (.s (.int .i64 q1q))]).1 (impTs 0 [.one (.row 3 a_n (.fl .f32 a)), .one (.s (.int .i64 q1q))]).2 (expo (impTs 0 [.one (.row 3 a_n (.fl .f32 a)), .one (.s (.int .i64 q1q))]).2.length) = z7d a_n a q1q (fun c0_ => some ((AV.v (TV.one (At.int IntKind.i64 c0_))), [])) := by kernel_rfl
theorem z12 : SumOne Try.prog 82 z1o := sum_of (Γ := Γ0) (fuel := 8) (d := 8) tyTab_ok (FnL.ok fnTab_ok _ _) (LpL.ok lt0_ok) (SumL.ok tb0_ok _) mixed (by
  intro pts v news hp hc
  clear hc
  unfold z1o at hp
  split at hp
  · rename_i a_n a q1q
    exact Eq.trans (Eq.trans (zhn a_n a q1q) (zfo (zdu a_n a q1q) rfl a_n a q1q (fun c0_ => some c0_))) (fin_out (o := (zdu a_n a q1q)) (x := z7s a_n a q1q) (d := default) (V := fun r => ((AV.v (TV.one (At.int IntKind.i64 r))), [])) (fun r => rfl) hp)
  · cases hp)
noncomputable def z17 : List PT → Option (Bool × AV × List Blk)
  | [.ptr [.row 1 q04 (.fl .f32 q07), .row 1 q05 (.fl .f32 q09), .row 1 q06 (.fl .f32 q0a), .row 3 q0d (.fl .f32 q0i), .s (.int .i64 q0r), .s (.flt .f32 q15), .s (.flt .f32 q16)], .one (.s (.int .i64 i))] => some ((za4 q04 q07 q05 q09 q06 q0a q0d q0i q0r q15 q16 i), ((AV.v (TV.one (At.flt FloatKind.f32 (z6k q04 q07 q05 q09 q06 q0a q0d q0i q0r q15 q16 i)))), []))
  | _ => none
def zdh (q04 : Nat) (q07 : List Nat) (q05 : Nat) (q09 : List Nat) (q06 : Nat) (q0a : List Nat) (q0d : Nat) (q0i : List Nat) (q0r : Int) (q15 : Nat) (q16 : Nat) (i : Int) : Option (Nat) → Option (AV × List Blk)
  | some r => some ((AV.v (TV.one (At.flt FloatKind.f32 r))), [])
  | none => none
theorem zgx (q04 : Nat) (q07 : List Nat) (q05 : Nat) (q09 : List Nat) (q06 : Nat) (q0a : List Nat) (q0d : Nat) (q0i : List Nat) (q0r : Int) (q15 : Nat) (q16 : Nat) (i : Int) : evFn Γ0 8 8 106 (impTs 0 [.ptr [.row 1 q04 (.fl .f32 q07), .row 1 q05 (.fl .f32 q09), .row 1 q06 (.fl .f32 q0a), .row 3 q0d (.fl .f32 q0i), .s (.int .i64 q0r), .s (.flt .f32 q15), .s (.flt .f32 q16)], .one (.s (.int .i64 i))]).1 (impTs 0 [.ptr [.row 1 q04 (.fl .f32 q07), .row 1 q05 (.fl .f32 q09), .row 1 q06 (.fl .f32 q0a), .row 3 q0d (.fl .f32 q0i), .s (.int .i64 q0r), .s (.flt .f32 q15), .s (.flt .f32 q16)], .one (.s (.int .i64 i))]).2 (expo (impTs 0 [.ptr [.row 1 q04 (.fl .f32 q07), .row 1 q05 (.fl .f32 q09), .row 1 q06 (.fl .f32 q0a), .row 3 q0d (.fl .f32 q0i), .s (.int .i64 q0r), .s (.flt .f32 q15), .s (.flt .f32 q16)], .one (.s (.int .i64 i))]).2.length) = z6z q04 q07 q05 q09 q06 q0a q0d q0i q0r q15 q16 i (fun c0_ => some ((AV.v (TV.one (At.flt FloatKind.f32 c0_))), [])) := by kernel_rfl
theorem z0v : SumOne Try.prog 106 z17 := sum_of (Γ := Γ0) (fuel := 8) (d := 8) tyTab_ok (FnL.ok fnTab_ok _ _) (LpL.ok lt0_ok) (SumL.ok tb0_ok _) mixed (by
  intro pts v news hp hc
  clear hc
  unfold z17 at hp
  split at hp
  · rename_i q04 q07 q05 q09 q06 q0a q0d q0i q0r q15 q16 i
    exact Eq.trans (Eq.trans (zgx q04 q07 q05 q09 q06 q0a q0d q0i q0r q15 q16 i) (zer (zdh q04 q07 q05 q09 q06 q0a q0d q0i q0r q15 q16 i) rfl q04 q07 q05 q09 q06 q0a q0d q0i q0r q15 q16 i (fun c0_ => some c0_))) (fin_out (o := (zdh q04 q07 q05 q09 q06 q0a q0d q0i q0r q15 q16 i)) (x := z6v q04 q07 q05 q09 q06 q0a q0d q0i q0r q15 q16 i) (d := default) (V := fun r => ((AV.v (TV.one (At.flt FloatKind.f32 r))), [])) (fun r => rfl) hp)
  · cases hp)
noncomputable def z0p : List PT → Option (Bool × AV × List Blk)
  | [.agg [.row 1 q04 (.fl .f32 q07), .row 1 q05 (.fl .f32 q09), .row 1 q06 (.fl .f32 q0a), .row 3 q0d (.fl .f32 q0i), .s (.int .i64 q0r), .s (.flt .f32 q15), .s (.flt .f32 q16)], .one (.s (.int .i64 i))] => some ((z8o q04 q07 q05 q09 q06 q0a q0d q0i q0r q15 q16 i), ((AV.v (TV.one (At.flt FloatKind.f32 (z5v q04 q07 q05 q09 q06 q0a q0d q0i q0r q15 q16 i)))), []))
  | _ => none
def zd8 (q04 : Nat) (q07 : List Nat) (q05 : Nat) (q09 : List Nat) (q06 : Nat) (q0a : List Nat) (q0d : Nat) (q0i : List Nat) (q0r : Int) (q15 : Nat) (q16 : Nat) (i : Int) : Option (Nat) → Option (AV × List Blk)
  | some r => some ((AV.v (TV.one (At.flt FloatKind.f32 r))), [])
  | none => none
theorem zfh (q04 : Nat) (q07 : List Nat) (q05 : Nat) (q09 : List Nat) (q06 : Nat) (q0a : List Nat) (q0d : Nat) (q0i : List Nat) (q0r : Int) (q15 : Nat) (q16 : Nat) (i : Int) : evFn Γ0 8 8 108 (impTs 0 [.agg [.row 1 q04 (.fl .f32 q07), .row 1 q05 (.fl .f32 q09), .row 1 q06 (.fl .f32 q0a), .row 3 q0d (.fl .f32 q0i), .s (.int .i64 q0r), .s (.flt .f32 q15), .s (.flt .f32 q16)], .one (.s (.int .i64 i))]).1 (impTs 0 [.agg [.row 1 q04 (.fl .f32 q07), .row 1 q05 (.fl .f32 q09), .row 1 q06 (.fl .f32 q0a), .row 3 q0d (.fl .f32 q0i), .s (.int .i64 q0r), .s (.flt .f32 q15), .s (.flt .f32 q16)], .one (.s (.int .i64 i))]).2 (expo (impTs 0 [.agg [.row 1 q04 (.fl .f32 q07), .row 1 q05 (.fl .f32 q09), .row 1 q06 (.fl .f32 q0a), .row 3 q0d (.fl .f32 q0i), .s (.int .i64 q0r), .s (.flt .f32 q15), .s (.flt .f32 q16)], .one (.s (.int .i64 i))]).2.length) = z60 q04 q07 q05 q09 q06 q0a q0d q0i q0r q15 q16 i (fun c0_ => some ((AV.v (TV.one (At.flt FloatKind.f32 c0_))), [])) := by kernel_rfl
theorem z0k : SumOne Try.prog 108 z0p := sum_of (Γ := Γ0) (fuel := 8) (d := 8) tyTab_ok (FnL.ok fnTab_ok _ _) (LpL.ok lt0_ok) (SumL.ok tb0_ok _) mixed (by
  intro pts v news hp hc
  clear hc
  unfold z0p at hp
  split at hp
  · rename_i q04 q07 q05 q09 q06 q0a q0d q0i q0r q15 q16 i
    exact Eq.trans (Eq.trans (zfh q04 q07 q05 q09 q06 q0a q0d q0i q0r q15 q16 i) (zdx (zd8 q04 q07 q05 q09 q06 q0a q0d q0i q0r q15 q16 i) rfl q04 q07 q05 q09 q06 q0a q0d q0i q0r q15 q16 i (fun c0_ => some c0_))) (fin_out (o := (zd8 q04 q07 q05 q09 q06 q0a q0d q0i q0r q15 q16 i)) (x := z61 q04 q07 q05 q09 q06 q0a q0d q0i q0r q15 q16 i) (d := default) (V := fun r => ((AV.v (TV.one (At.flt FloatKind.f32 r))), [])) (fun r => rfl) hp)
  · cases hp)
noncomputable def z1z : List PT → Option (Bool × AV × List Blk)
  | [.agg [.s (.flt .f32 q1y), .s (.flt .f32 q1z), .s (.flt .f32 q20)]] => some ((zd7 q1y q1z q20), ((AV.v (TV.agg [(At.flt FloatKind.f32 q1y), (At.flt FloatKind.f32 q1z), (At.flt FloatKind.f32 q20)])), []))
  | _ => none
def zdz (q1y : Nat) (q1z : Nat) (q20 : Nat) : Option (Unit) → Option (AV × List Blk)
  | some r => some ((AV.v (TV.agg [(At.flt FloatKind.f32 q1y), (At.flt FloatKind.f32 q1z), (At.flt FloatKind.f32 q20)])), [])
  | none => none
theorem zid (q1y : Nat) (q1z : Nat) (q20 : Nat) : evFn Γ0 8 8 115 (impTs 0 [.agg [.s (.flt .f32 q1y), .s (.flt .f32 q1z), .s (.flt .f32 q20)]]).1 (impTs 0 [.agg [.s (.flt .f32 q1y), .s (.flt .f32 q1z), .s (.flt .f32 q20)]]).2 (expo (impTs 0 [.agg [.s (.flt .f32 q1y), .s (.flt .f32 q1z), .s (.flt .f32 q20)]]).2.length) = z9b q1y q1z q20 (fun _ => some ((AV.v (TV.agg [(At.flt FloatKind.f32 q1y), (At.flt FloatKind.f32 q1z), (At.flt FloatKind.f32 q20)])), [])) := by kernel_rfl
theorem z19 : SumOne Try.prog 115 z1z := sum_of (Γ := Γ0) (fuel := 8) (d := 8) tyTab_ok (FnL.ok fnTab_ok _ _) (LpL.ok lt0_ok) (SumL.ok tb0_ok _) mixed (by
  intro pts v news hp hc
  clear hc
  unfold z1z at hp
  split at hp
  · rename_i q1y q1z q20
    exact Eq.trans (Eq.trans (zid q1y q1z q20) (zgi (zdz q1y q1z q20) rfl q1y q1z q20 (fun _ => some ()))) (fin_out (o := (zdz q1y q1z q20)) (x := ze0 q1y q1z q20) (d := default) (V := fun r => ((AV.v (TV.agg [(At.flt FloatKind.f32 q1y), (At.flt FloatKind.f32 q1z), (At.flt FloatKind.f32 q20)])), [])) (fun r => rfl) hp)
  · cases hp)
noncomputable def tb1 : List (Nat × (List PT → Option (Bool × AV × List Blk))) := [(129, z13), (133, z0l), (137, z14), (139, z1v), (25, z20), (59, z3d), (64, z21), (66, z35), (68, z2g), (70, z1p), (78, z2h), (82, z1o), (106, z17), (108, z0p), (115, z1z)]
noncomputable def lt1 : List ((Nat × Nat) × (Nat → St → Option (Bool × LO))) := []
noncomputable def Γ1 : Ctx := ⟨tyTab, fnTab, tblSum tb1, tblLp lt1⟩
theorem tb1_ok : SumL Try.prog tb1 := SumL.cons z0t (SumL.cons z0i (SumL.cons z0s (SumL.cons z15 (SumL.cons z1a (SumL.cons z2t (SumL.cons z18 (SumL.cons z2f (SumL.cons z1n (SumL.cons z0z (SumL.cons z1m (SumL.cons z12 (SumL.cons z0v (SumL.cons z0k (SumL.cons z19 (SumL.nil)))))))))))))))
theorem lt1_ok : LpL Try.prog fnTab lt1 := LpL.nil
noncomputable def z2b : List PT → Option (Bool × AV × List Blk)
  | [.agg [.row 1 q0t (.fl .f32 q18), .row 1 q0z (.fl .f32 q1b), .row 1 q12 (.fl .f32 q1f)], .one (.s (.int .i64 q1q))] => some ((zc7 q0t q18 q0z q1b q12 q1f q1q), ((AV.v (TV.one (At.int IntKind.i64 (z6h q0t q18 q0z q1b q12 q1f q1q)))), []))
  | _ => none
def zeg (q0t : Nat) (q18 : List Nat) (q0z : Nat) (q1b : List Nat) (q12 : Nat) (q1f : List Nat) (q1q : Int) : Option (Int) → Option (AV × List Blk)
  | some r => some ((AV.v (TV.one (At.int IntKind.i64 r))), [])
  | none => none
theorem zi2 (q0t : Nat) (q18 : List Nat) (q0z : Nat) (q1b : List Nat) (q12 : Nat) (q1f : List Nat) (q1q : Int) : evFn Γ1 8 8 40 (impTs 0 [.agg [.row 1 q0t (.fl .f32 q18), .row 1 q0z (.fl .f32 q1b), .row 1 q12 (.fl .f32 q1f)], .one (.s (.int .i64 q1q))]).1 (impTs 0 [.agg [.row 1 q0t (.fl .f32 q18), .row 1 q0z (.fl .f32 q1b), .row 1 q12 (.fl .f32 q1f)], .one (.s (.int .i64 q1q))]).2 (expo (impTs 0 [.agg [.row 1 q0t (.fl .f32 q18), .row 1 q0z (.fl .f32 q1b), .row 1 q12 (.fl .f32 q1f)], .one (.s (.int .i64 q1q))]).2.length) = z8d q0t q18 q0z q1b q12 q1f q1q (fun c0_ => some ((AV.v (TV.one (At.int IntKind.i64 c0_))), [])) := by kernel_rfl
theorem z1i : SumOne Try.prog 40 z2b := sum_of (Γ := Γ1) (fuel := 8) (d := 8) tyTab_ok (FnL.ok fnTab_ok _ _) (LpL.ok lt1_ok) (SumL.ok tb1_ok _) mixed (by
  intro pts v news hp hc
  clear hc
  unfold z2b at hp
  split at hp
  · rename_i q0t q18 q0z q1b q12 q1f q1q
    exact Eq.trans (Eq.trans (zi2 q0t q18 q0z q1b q12 q1f q1q) (zg2 (zeg q0t q18 q0z q1b q12 q1f q1q) rfl q0t q18 q0z q1b q12 q1f q1q (fun c0_ => some c0_))) (fin_out (o := (zeg q0t q18 q0z q1b q12 q1f q1q)) (x := z89 q0t q18 q0z q1b q12 q1f q1q) (d := default) (V := fun r => ((AV.v (TV.one (At.int IntKind.i64 r))), [])) (fun r => rfl) hp)
  · cases hp)
noncomputable def z2n : List PT → Option (Bool × AV × List Blk)
  | [.one (.s (.flt .f32 x))] => some ((z6i x), ((AV.v (TV.one (At.bool (z65 x)))), []))
  | _ => none
def zeq (x : Nat) : Option (Bool) → Option (AV × List Blk)
  | some r => some ((AV.v (TV.one (At.bool r))), [])
  | none => none
theorem zil (x : Nat) : evFn Γ1 8 8 58 (impTs 0 [.one (.s (.flt .f32 x))]).1 (impTs 0 [.one (.s (.flt .f32 x))]).2 (expo (impTs 0 [.one (.s (.flt .f32 x))]).2.length) = z8t x (fun c0_ => some ((AV.v (TV.one (At.bool c0_))), [])) := by kernel_rfl
theorem z1t : SumOne Try.prog 58 z2n := sum_of (Γ := Γ1) (fuel := 8) (d := 8) tyTab_ok (FnL.ok fnTab_ok _ _) (LpL.ok lt1_ok) (SumL.ok tb1_ok _) mixed (by
  intro pts v news hp hc
  clear hc
  unfold z2n at hp
  split at hp
  · rename_i x
    exact Eq.trans (Eq.trans (zil x) (zgq (zeq x) rfl x (fun c0_ => some c0_))) (fin_out (o := (zeq x)) (x := z8k x) (d := default) (V := fun r => ((AV.v (TV.one (At.bool r))), [])) (fun r => rfl) hp)
  · cases hp)
noncomputable def z30 : List PT → Option (Bool × AV × List Blk)
  | [.one (.s (.flt .f32 x))] => some ((zbj x), ((AV.v (TV.one (At.bool (zae x)))), []))
  | _ => none
def zfg (x : Nat) : Option (Bool) → Option (AV × List Blk)
  | some r => some ((AV.v (TV.one (At.bool r))), [])
  | none => none
theorem zj0 (x : Nat) : evFn Γ1 8 8 67 (impTs 0 [.one (.s (.flt .f32 x))]).1 (impTs 0 [.one (.s (.flt .f32 x))]).2 (expo (impTs 0 [.one (.s (.flt .f32 x))]).2.length) = z99 x (fun c0_ => some ((AV.v (TV.one (At.bool c0_))), [])) := by kernel_rfl
theorem z26 : SumOne Try.prog 67 z30 := sum_of (Γ := Γ1) (fuel := 8) (d := 8) tyTab_ok (FnL.ok fnTab_ok _ _) (LpL.ok lt1_ok) (SumL.ok tb1_ok _) mixed (by
  intro pts v news hp hc
  clear hc
  unfold z30 at hp
  split at hp
  · rename_i x
    exact Eq.trans (Eq.trans (zj0 x) (zha (zfg x) rfl x (fun c0_ => some c0_))) (fin_out (o := (zfg x)) (x := z96 x) (d := default) (V := fun r => ((AV.v (TV.one (At.bool r))), [])) (fun r => rfl) hp)
  · cases hp)
noncomputable def z31 : List PT → Option (Bool × AV × List Blk)
  | [.one (.s (.flt .f32 x))] => some ((zd3 x), ((AV.tup [(TV.one (At.flt FloatKind.f32 (zcq x))), (TV.one (At.bool (zcp x)))]), []))
  | _ => none
def zfk (x : Nat) : Option (Nat × Bool) → Option (AV × List Blk)
  | some r => some ((AV.tup [(TV.one (At.flt FloatKind.f32 r.1)), (TV.one (At.bool r.2))]), [])
  | none => none
theorem zix (x : Nat) : evFn Γ1 8 8 77 (impTs 0 [.one (.s (.flt .f32 x))]).1 (impTs 0 [.one (.s (.flt .f32 x))]).2 (expo (impTs 0 [.one (.s (.flt .f32 x))]).2.length) = z93 x (fun c0_ c1_ => some ((AV.tup [(TV.one (At.flt FloatKind.f32 c0_)), (TV.one (At.bool c1_))]), [])) := by kernel_rfl
theorem z25 : SumOne Try.prog 77 z31 := sum_of (Γ := Γ1) (fuel := 8) (d := 8) tyTab_ok (FnL.ok fnTab_ok _ _) (LpL.ok lt1_ok) (SumL.ok tb1_ok _) mixed (by
  intro pts v news hp hc
  clear hc
  unfold z31 at hp
  split at hp
  · rename_i x
    exact Eq.trans (Eq.trans (zix x) (zh8 (zfk x) rfl x (fun c0_ c1_ => some (c0_, c1_)))) (fin_out (o := (zfk x)) (x := z87 x) (d := default) (V := fun r => ((AV.tup [(TV.one (At.flt FloatKind.f32 r.1)), (TV.one (At.bool r.2))]), [])) (fun r => rfl) hp)
  · cases hp)
noncomputable def z2o : List PT → Option (Bool × AV × List Blk)
  | [.one (.s (.flt .f32 x))] => some ((zcj x), ((AV.v (TV.one (At.bool (zcc x)))), []))
  | _ => none
def zen (x : Nat) : Option (Bool) → Option (AV × List Blk)
  | some r => some ((AV.v (TV.one (At.bool r))), [])
  | none => none
theorem zip (x : Nat) : evFn Γ1 8 8 101 (impTs 0 [.one (.s (.flt .f32 x))]).1 (impTs 0 [.one (.s (.flt .f32 x))]).2 (expo (impTs 0 [.one (.s (.flt .f32 x))]).2.length) = z8s x (fun c0_ => some ((AV.v (TV.one (At.bool c0_))), [])) := by kernel_rfl
theorem z1u : SumOne Try.prog 101 z2o := sum_of (Γ := Γ1) (fuel := 8) (d := 8) tyTab_ok (FnL.ok fnTab_ok _ _) (LpL.ok lt1_ok) (SumL.ok tb1_ok _) mixed (by
  intro pts v news hp hc
  clear hc
  unfold z2o at hp
  split at hp
  · rename_i x
    exact Eq.trans (Eq.trans (zip x) (zgv (zen x) rfl x (fun c0_ => some c0_))) (fin_out (o := (zen x)) (x := z8p x) (d := default) (V := fun r => ((AV.v (TV.one (At.bool r))), [])) (fun r => rfl) hp)
  · cases hp)
noncomputable def z29 : List PT → Option (Bool × AV × List Blk)
  | [.one (.s (.flt .f32 x))] => some ((zcd x), ((AV.tup [(TV.one (At.flt FloatKind.f32 (zbc x))), (TV.one (At.bool (zb7 x)))]), []))
  | _ => none
def zef (x : Nat) : Option (Nat × Bool) → Option (AV × List Blk)
  | some r => some ((AV.tup [(TV.one (At.flt FloatKind.f32 r.1)), (TV.one (At.bool r.2))]), [])
  | none => none
theorem zi9 (x : Nat) : evFn Γ1 8 8 102 (impTs 0 [.one (.s (.flt .f32 x))]).1 (impTs 0 [.one (.s (.flt .f32 x))]).2 (expo (impTs 0 [.one (.s (.flt .f32 x))]).2.length) = z8c x (fun c0_ c1_ => some ((AV.tup [(TV.one (At.flt FloatKind.f32 c0_)), (TV.one (At.bool c1_))]), [])) := by kernel_rfl
theorem z1h : SumOne Try.prog 102 z29 := sum_of (Γ := Γ1) (fuel := 8) (d := 8) tyTab_ok (FnL.ok fnTab_ok _ _) (LpL.ok lt1_ok) (SumL.ok tb1_ok _) mixed (by
  intro pts v news hp hc
  clear hc
  unfold z29 at hp
  split at hp
  · rename_i x
    exact Eq.trans (Eq.trans (zi9 x) (zfy (zef x) rfl x (fun c0_ c1_ => some (c0_, c1_)))) (fin_out (o := (zef x)) (x := z6q x) (d := default) (V := fun r => ((AV.tup [(TV.one (At.flt FloatKind.f32 r.1)), (TV.one (At.bool r.2))]), [])) (fun r => rfl) hp)
  · cases hp)
noncomputable def z0m : List PT → Option (Bool × AV × List Blk)
  | [.agg [.row 1 q04 (.fl .f32 q07), .row 1 q05 (.fl .f32 q09), .row 1 q06 (.fl .f32 q0a), .row 3 q0d (.fl .f32 q0i), .s (.int .i64 q0r), .s (.flt .f32 q15), .s (.flt .f32 q16)], .one (.s (.int .i64 i))] => some ((z8f q04 q07 q05 q09 q06 q0a q0d q0i q0r q15 q16 i), ((AV.v (TV.one (At.bool (z7x q04 q07 q05 q09 q06 q0a q0d q0i q0r q15 q16 i)))), []))
  | _ => none
def zd4 (q04 : Nat) (q07 : List Nat) (q05 : Nat) (q09 : List Nat) (q06 : Nat) (q0a : List Nat) (q0d : Nat) (q0i : List Nat) (q0r : Int) (q15 : Nat) (q16 : Nat) (i : Int) : Option (Bool) → Option (AV × List Blk)
  | some r => some ((AV.v (TV.one (At.bool r))), [])
  | none => none
theorem zey (q04 : Nat) (q07 : List Nat) (q05 : Nat) (q09 : List Nat) (q06 : Nat) (q0a : List Nat) (q0d : Nat) (q0i : List Nat) (q0r : Int) (q15 : Nat) (q16 : Nat) (i : Int) : evFn Γ1 8 8 107 (impTs 0 [.agg [.row 1 q04 (.fl .f32 q07), .row 1 q05 (.fl .f32 q09), .row 1 q06 (.fl .f32 q0a), .row 3 q0d (.fl .f32 q0i), .s (.int .i64 q0r), .s (.flt .f32 q15), .s (.flt .f32 q16)], .one (.s (.int .i64 i))]).1 (impTs 0 [.agg [.row 1 q04 (.fl .f32 q07), .row 1 q05 (.fl .f32 q09), .row 1 q06 (.fl .f32 q0a), .row 3 q0d (.fl .f32 q0i), .s (.int .i64 q0r), .s (.flt .f32 q15), .s (.flt .f32 q16)], .one (.s (.int .i64 i))]).2 (expo (impTs 0 [.agg [.row 1 q04 (.fl .f32 q07), .row 1 q05 (.fl .f32 q09), .row 1 q06 (.fl .f32 q0a), .row 3 q0d (.fl .f32 q0i), .s (.int .i64 q0r), .s (.flt .f32 q15), .s (.flt .f32 q16)], .one (.s (.int .i64 i))]).2.length) = z5w q04 q07 q05 q09 q06 q0a q0d q0i q0r q15 q16 i (fun c0_ => some ((AV.v (TV.one (At.bool c0_))), [])) := by kernel_rfl
theorem z0j : SumOne Try.prog 107 z0m := sum_of (Γ := Γ1) (fuel := 8) (d := 8) tyTab_ok (FnL.ok fnTab_ok _ _) (LpL.ok lt1_ok) (SumL.ok tb1_ok _) mixed (by
  intro pts v news hp hc
  clear hc
  unfold z0m at hp
  split at hp
  · rename_i q04 q07 q05 q09 q06 q0a q0d q0i q0r q15 q16 i
    exact Eq.trans (Eq.trans (zey q04 q07 q05 q09 q06 q0a q0d q0i q0r q15 q16 i) (zdk (zd4 q04 q07 q05 q09 q06 q0a q0d q0i q0r q15 q16 i) rfl q04 q07 q05 q09 q06 q0a q0d q0i q0r q15 q16 i (fun c0_ => some c0_))) (fin_out (o := (zd4 q04 q07 q05 q09 q06 q0a q0d q0i q0r q15 q16 i)) (x := z5x q04 q07 q05 q09 q06 q0a q0d q0i q0r q15 q16 i) (d := default) (V := fun r => ((AV.v (TV.one (At.bool r))), [])) (fun r => rfl) hp)
  · cases hp)
noncomputable def z1f : List PT → Option (Bool × AV × List Blk)
  | [.one (.s (.flt .f32 x))] => some ((zaf x), ((AV.v (TV.one (At.bool (z9i x)))), []))
  | _ => none
def zdg (x : Nat) : Option (Bool) → Option (AV × List Blk)
  | some r => some ((AV.v (TV.one (At.bool r))), [])
  | none => none
theorem zgz (x : Nat) : evFn Γ1 8 8 111 (impTs 0 [.one (.s (.flt .f32 x))]).1 (impTs 0 [.one (.s (.flt .f32 x))]).2 (expo (impTs 0 [.one (.s (.flt .f32 x))]).2.length) = z70 x (fun c0_ => some ((AV.v (TV.one (At.bool c0_))), [])) := by kernel_rfl
theorem z0y : SumOne Try.prog 111 z1f := sum_of (Γ := Γ1) (fuel := 8) (d := 8) tyTab_ok (FnL.ok fnTab_ok _ _) (LpL.ok lt1_ok) (SumL.ok tb1_ok _) mixed (by
  intro pts v news hp hc
  clear hc
  unfold z1f at hp
  split at hp
  · rename_i x
    exact Eq.trans (Eq.trans (zgz x) (zf2 (zdg x) rfl x (fun c0_ => some c0_))) (fin_out (o := (zdg x)) (x := z6t x) (d := default) (V := fun r => ((AV.v (TV.one (At.bool r))), [])) (fun r => rfl) hp)
  · cases hp)
noncomputable def z28 : List PT → Option (Bool × AV × List Blk)
  | [.agg [.s (.flt .f32 q1y), .s (.flt .f32 q1z), .s (.flt .f32 q20)], .agg [.s (.flt .f32 q2d), .s (.flt .f32 q2i), .s (.flt .f32 q2f)]] => some ((zc4 q1y q1z q20 q2d q2i q2f), ((AV.v (TV.one (At.bool (zba q1y q1z q20 q2d q2i q2f)))), []))
  | _ => none
def zea (q1y : Nat) (q1z : Nat) (q20 : Nat) (q2d : Nat) (q2i : Nat) (q2f : Nat) : Option (Bool) → Option (AV × List Blk)
  | some r => some ((AV.v (TV.one (At.bool r))), [])
  | none => none
theorem zia (q1y : Nat) (q1z : Nat) (q20 : Nat) (q2d : Nat) (q2i : Nat) (q2f : Nat) : evFn Γ1 8 8 118 (impTs 0 [.agg [.s (.flt .f32 q1y), .s (.flt .f32 q1z), .s (.flt .f32 q20)], .agg [.s (.flt .f32 q2d), .s (.flt .f32 q2i), .s (.flt .f32 q2f)]]).1 (impTs 0 [.agg [.s (.flt .f32 q1y), .s (.flt .f32 q1z), .s (.flt .f32 q20)], .agg [.s (.flt .f32 q2d), .s (.flt .f32 q2i), .s (.flt .f32 q2f)]]).2 (expo (impTs 0 [.agg [.s (.flt .f32 q1y), .s (.flt .f32 q1z), .s (.flt .f32 q20)], .agg [.s (.flt .f32 q2d), .s (.flt .f32 q2i), .s (.flt .f32 q2f)]]).2.length) = z8e q1y q1z q20 q2d q2i q2f (fun c0_ => some ((AV.v (TV.one (At.bool c0_))), [])) := by kernel_rfl
theorem z1g : SumOne Try.prog 118 z28 := sum_of (Γ := Γ1) (fuel := 8) (d := 8) tyTab_ok (FnL.ok fnTab_ok _ _) (LpL.ok lt1_ok) (SumL.ok tb1_ok _) mixed (by
  intro pts v news hp hc
  clear hc
  unfold z28 at hp
  split at hp
  · rename_i q1y q1z q20 q2d q2i q2f
    exact Eq.trans (Eq.trans (zia q1y q1z q20 q2d q2i q2f) (zgh (zea q1y q1z q20 q2d q2i q2f) rfl q1y q1z q20 q2d q2i q2f (fun c0_ => some c0_))) (fin_out (o := (zea q1y q1z q20 q2d q2i q2f)) (x := z8a q1y q1z q20 q2d q2i q2f) (d := default) (V := fun r => ((AV.v (TV.one (At.bool r))), [])) (fun r => rfl) hp)
  · cases hp)
noncomputable def z0x : List PT → Option (Bool × AV × List Blk)
  | [.one (.s (.flt .f32 x))] => some ((z92 x), ((AV.v (TV.one (At.bool (z8m x)))), []))
  | _ => none
def zdb (x : Nat) : Option (Bool) → Option (AV × List Blk)
  | some r => some ((AV.v (TV.one (At.bool r))), [])
  | none => none
theorem zga (x : Nat) : evFn Γ1 8 8 120 (impTs 0 [.one (.s (.flt .f32 x))]).1 (impTs 0 [.one (.s (.flt .f32 x))]).2 (expo (impTs 0 [.one (.s (.flt .f32 x))]).2.length) = z67 x (fun c0_ => some ((AV.v (TV.one (At.bool c0_))), [])) := by kernel_rfl
theorem z0n : SumOne Try.prog 120 z0x := sum_of (Γ := Γ1) (fuel := 8) (d := 8) tyTab_ok (FnL.ok fnTab_ok _ _) (LpL.ok lt1_ok) (SumL.ok tb1_ok _) mixed (by
  intro pts v news hp hc
  clear hc
  unfold z0x at hp
  split at hp
  · rename_i x
    exact Eq.trans (Eq.trans (zga x) (zec (zdb x) rfl x (fun c0_ => some c0_))) (fin_out (o := (zdb x)) (x := z68 x) (d := default) (V := fun r => ((AV.v (TV.one (At.bool r))), [])) (fun r => rfl) hp)
  · cases hp)
noncomputable def z0w : Nat → St → Option (Bool × LO)
  | 1, (St.mk [(0, (AV.v (TV.one (At.vw 0 0 an 1)))), (3, (AV.v (TV.one (At.sl 1 0 q1x 1)))), (4, (AV.v (TV.one (At.int IntKind.i64 i))))] [(Blk.mk Bool.false (Body.fl FloatKind.f32 b0)), (Blk.mk Bool.true (Body.fl FloatKind.f32 b1))]) => some ((z79 an q1x b0 i b1), (LO.one (Ex.exit 0) (St.mk [(0, (AV.v (TV.one (At.vw 0 0 an 1)))), (3, (AV.v (TV.one (At.sl 1 0 q1x 1)))), (4, (AV.v (TV.one (At.int IntKind.i64 (z9x an q1x b0 i b1))))), (11, (AV.v (TV.one (At.bool (z9s an q1x b0 i b1)))))] [(Blk.mk Bool.false (Body.fl FloatKind.f32 b0)), (Blk.mk Bool.true (Body.fl FloatKind.f32 (z69 an q1x b0 i b1)))])))
  | _, _ => none
def z8z (an : Nat) (q1x : Nat) (b0 : List Nat) : Option ((Int × Bool × (List Nat))) → Option (Ex × St)
  | none => none
  | some r => some ((Ex.exit 0), (St.mk [(0, (AV.v (TV.one (At.vw 0 0 an 1)))), (3, (AV.v (TV.one (At.sl 1 0 q1x 1)))), (4, (AV.v (TV.one (At.int IntKind.i64 r.1)))), (11, (AV.v (TV.one (At.bool r.2.1))))] [(Blk.mk Bool.false (Body.fl FloatKind.f32 b0)), (Blk.mk Bool.true (Body.fl FloatKind.f32 r.2.2))]))
def zfp (an : Nat) (q1x : Nat) (b0 : List Nat) (x : Option ((Int × Bool × (List Nat)))) : LO := (LO.one (Ex.exit 0) (St.mk [(0, (AV.v (TV.one (At.vw 0 0 an 1)))), (3, (AV.v (TV.one (At.sl 1 0 q1x 1)))), (4, (AV.v (TV.one (At.int IntKind.i64 (x.getD default).1)))), (11, (AV.v (TV.one (At.bool (x.getD default).2.1))))] [(Blk.mk Bool.false (Body.fl FloatKind.f32 b0)), (Blk.mk Bool.true (Body.fl FloatKind.f32 (x.getD default).2.2))]))
theorem zg5 (an : Nat) (q1x : Nat) (b0 : List Nat) : ∀ x : Option ((Int × Bool × (List Nat))), x.isSome = true → (z8z an q1x b0) x = some (pick (zfp an q1x b0 x))
  | none, h => by cases h
  | some r, _ => rfl
theorem zg9 (an : Nat) (q1x : Nat) (i : Int) (b0 : List Nat) (b1 : List Nat) (K : Ex → St → Option (Ex × St)) : evC (R := Ex × St) Γ1 (evFn Γ1 8 8) 74 1 fi74.nt fi74.live fi74.nl 8 (findL 3 (loopsIn fi74.code)) (St.mk [(0, (AV.v (TV.one (At.vw 0 0 an 1)))), (3, (AV.v (TV.one (At.sl 1 0 q1x 1)))), (4, (AV.v (TV.one (At.int IntKind.i64 i))))] [(Blk.mk Bool.false (Body.fl FloatKind.f32 b0)), (Blk.mk Bool.true (Body.fl FloatKind.f32 b1))]) K = z55 an q1x b0 i b1 (fun i' b1' => K .normal (St.mk [(0, (AV.v (TV.one (At.vw 0 0 an 1)))), (3, (AV.v (TV.one (At.sl 1 0 q1x 1)))), (4, (AV.v (TV.one (At.int IntKind.i64 i'))))] [(Blk.mk Bool.false (Body.fl FloatKind.f32 b0)), (Blk.mk Bool.true (Body.fl FloatKind.f32 b1'))])) (fun c0_ c1_ c2_ => K (Ex.exit 0) (St.mk [(0, (AV.v (TV.one (At.vw 0 0 an 1)))), (3, (AV.v (TV.one (At.sl 1 0 q1x 1)))), (4, (AV.v (TV.one (At.int IntKind.i64 c0_)))), (11, (AV.v (TV.one (At.bool c1_))))] [(Blk.mk Bool.false (Body.fl FloatKind.f32 b0)), (Blk.mk Bool.true (Body.fl FloatKind.f32 c2_))])) := by kernel_rfl
theorem zft (an : Nat) (q1x : Nat) (b0 : List Nat) : ∀ (n : Nat) (i : Int) (b1 : List Nat), iter 74 3 1 (evC (R := Ex × St) Γ1 (evFn Γ1 8 8) 74 1 fi74.nt fi74.live fi74.nl 8 (findL 3 (loopsIn fi74.code))) n (St.mk [(0, (AV.v (TV.one (At.vw 0 0 an 1)))), (3, (AV.v (TV.one (At.sl 1 0 q1x 1)))), (4, (AV.v (TV.one (At.int IntKind.i64 i))))] [(Blk.mk Bool.false (Body.fl FloatKind.f32 b0)), (Blk.mk Bool.true (Body.fl FloatKind.f32 b1))]) (fun e st => some (e, st)) = (z8z an q1x b0) (z4g an q1x b0 n i b1) := by
  intro n
  induction n with
  | zero => intros; rfl
  | succ n ih =>
    intro i b1
    refine Eq.trans (iter_succ ..) (Eq.trans (zg9 an q1x i b0 b1 (nextK 74 3 1 (evC (R := Ex × St) Γ1 (evFn Γ1 8 8) 74 1 fi74.nt fi74.live fi74.nl 8 (findL 3 (loopsIn fi74.code))) n (fun e st => some (e, st)))) (Eq.trans ?_ (zdy (z8z an q1x b0) rfl an q1x b0 i b1 (fun i' b1' => z4g an q1x b0 n i' b1') (fun c0_ c1_ c2_ => some (c0_, c1_, c2_)))))
    exact congrArg (fun kn_ => z55 an q1x b0 i b1 kn_ (fun c0_ c1_ c2_ => (z8z an q1x b0) (some (c0_, c1_, c2_)))) (funext fun i' => funext fun b1' => ih i' b1')
theorem z0o : LoopOne Try.prog fnTab 74 3 z0w := lp_of (Γ := Γ1) tyTab_ok (FnL.ok fnTab_ok _ _) (LpL.ok lt1_ok) (SumL.ok tb1_ok _) mixed (fi := fi74) (by kernel_rfl) (by kernel_rfl) (by
  intro lo st out hp
  unfold z0w at hp
  split at hp
  · rename_i an q1x i b0 b1
    injection hp with hp
    injection hp with h1 h2
    subst h2
    exact ⟨8, 8, big, Eq.trans (zft an q1x b0 big i b1) (zg5 an q1x b0 (z4g an q1x b0 big i b1) h1)⟩
  · cases hp)
noncomputable def tb2 : List (Nat × (List PT → Option (Bool × AV × List Blk))) := [(129, z13), (133, z0l), (137, z14), (139, z1v), (25, z20), (59, z3d), (64, z21), (66, z35), (68, z2g), (70, z1p), (78, z2h), (82, z1o), (106, z17), (108, z0p), (115, z1z), (40, z2b), (58, z2n), (67, z30), (77, z31), (101, z2o), (102, z29), (107, z0m), (111, z1f), (118, z28), (120, z0x)]
noncomputable def lt2 : List ((Nat × Nat) × (Nat → St → Option (Bool × LO))) := [((74, 3), z0w)]
noncomputable def Γ2 : Ctx := ⟨tyTab, fnTab, tblSum tb2, tblLp lt2⟩
theorem tb2_ok : SumL Try.prog tb2 := SumL.cons z0t (SumL.cons z0i (SumL.cons z0s (SumL.cons z15 (SumL.cons z1a (SumL.cons z2t (SumL.cons z18 (SumL.cons z2f (SumL.cons z1n (SumL.cons z0z (SumL.cons z1m (SumL.cons z12 (SumL.cons z0v (SumL.cons z0k (SumL.cons z19 (SumL.cons z1i (SumL.cons z1t (SumL.cons z26 (SumL.cons z25 (SumL.cons z1u (SumL.cons z1h (SumL.cons z0j (SumL.cons z0y (SumL.cons z1g (SumL.cons z0n (SumL.nil)))))))))))))))))))))))))
theorem lt2_ok : LpL Try.prog fnTab lt2 := LpL.cons z0o (LpL.nil)
noncomputable def z34 : List PT → Option (Bool × AV × List Blk)
  | [.agg [.row 1 q0e (.fl .f32 q0h), .row 1 q0g (.fl .f32 q0l), .row 1 q0f (.fl .f32 q0k), .row 3 q0n (.fl .f32 q0x), .s (.int .i64 q1a), .s (.flt .f32 q1k), .s (.flt .f32 q1j)], .one (.s (.int .i64 q1q))] => some ((zbx q0e q0h q0g q0l q0f q0k q0n q0x q1a q1k q1j q1q), ((AV.v (TV.one (At.int IntKind.i64 (za6 q0e q0h q0g q0l q0f q0k q0n q0x q1a q1k q1j q1q)))), []))
  | _ => none
def zfl (q0e : Nat) (q0h : List Nat) (q0g : Nat) (q0l : List Nat) (q0f : Nat) (q0k : List Nat) (q0n : Nat) (q0x : List Nat) (q1a : Int) (q1k : Nat) (q1j : Nat) (q1q : Int) : Option (Int) → Option (AV × List Blk)
  | some r => some ((AV.v (TV.one (At.int IntKind.i64 r))), [])
  | none => none
theorem ziy (q0e : Nat) (q0h : List Nat) (q0g : Nat) (q0l : List Nat) (q0f : Nat) (q0k : List Nat) (q0n : Nat) (q0x : List Nat) (q1a : Int) (q1k : Nat) (q1j : Nat) (q1q : Int) : evFn Γ2 8 8 35 (impTs 0 [.agg [.row 1 q0e (.fl .f32 q0h), .row 1 q0g (.fl .f32 q0l), .row 1 q0f (.fl .f32 q0k), .row 3 q0n (.fl .f32 q0x), .s (.int .i64 q1a), .s (.flt .f32 q1k), .s (.flt .f32 q1j)], .one (.s (.int .i64 q1q))]).1 (impTs 0 [.agg [.row 1 q0e (.fl .f32 q0h), .row 1 q0g (.fl .f32 q0l), .row 1 q0f (.fl .f32 q0k), .row 3 q0n (.fl .f32 q0x), .s (.int .i64 q1a), .s (.flt .f32 q1k), .s (.flt .f32 q1j)], .one (.s (.int .i64 q1q))]).2 (expo (impTs 0 [.agg [.row 1 q0e (.fl .f32 q0h), .row 1 q0g (.fl .f32 q0l), .row 1 q0f (.fl .f32 q0k), .row 3 q0n (.fl .f32 q0x), .s (.int .i64 q1a), .s (.flt .f32 q1k), .s (.flt .f32 q1j)], .one (.s (.int .i64 q1q))]).2.length) = z98 q0e q0h q0g q0l q0f q0k q0n q0x q1a q1k q1j q1q (fun c0_ => some ((AV.v (TV.one (At.int IntKind.i64 c0_))), [])) := by kernel_rfl
theorem z2d : SumOne Try.prog 35 z34 := sum_of (Γ := Γ2) (fuel := 8) (d := 8) tyTab_ok (FnL.ok fnTab_ok _ _) (LpL.ok lt2_ok) (SumL.ok tb2_ok _) mixed (by
  intro pts v news hp hc
  clear hc
  unfold z34 at hp
  split at hp
  · rename_i q0e q0h q0g q0l q0f q0k q0n q0x q1a q1k q1j q1q
    exact Eq.trans (Eq.trans (ziy q0e q0h q0g q0l q0f q0k q0n q0x q1a q1k q1j q1q) (zh9 (zfl q0e q0h q0g q0l q0f q0k q0n q0x q1a q1k q1j q1q) rfl q0e q0h q0g q0l q0f q0k q0n q0x q1a q1k q1j q1q (fun c0_ => some c0_))) (fin_out (o := (zfl q0e q0h q0g q0l q0f q0k q0n q0x q1a q1k q1j q1q)) (x := z9a q0e q0h q0g q0l q0f q0k q0n q0x q1a q1k q1j q1q) (d := default) (V := fun r => ((AV.v (TV.one (At.int IntKind.i64 r))), [])) (fun r => rfl) hp)
  · cases hp)
noncomputable def z1y : List PT → Option (Bool × AV × List Blk)
  | [.one (.row 1 a_n (.fl .f32 a))] => some ((z7k a_n a), ((AV.v (TV.one (At.sl 0 0 (z6s a_n a) 1))), [(Blk.mk Bool.true (Body.fl FloatKind.f32 (z6x a_n a)))]))
  | _ => none
def zdl (a_n : Nat) (a : List Nat) : Option (Nat × (List Nat)) → Option (AV × List Blk)
  | some r => some ((AV.v (TV.one (At.sl 0 0 r.1 1))), [(Blk.mk Bool.true (Body.fl FloatKind.f32 r.2))])
  | none => none
theorem zhz (a_n : Nat) (a : List Nat) : evFn Γ2 8 8 74 (impTs 0 [.one (.row 1 a_n (.fl .f32 a))]).1 (impTs 0 [.one (.row 1 a_n (.fl .f32 a))]).2 (expo (impTs 0 [.one (.row 1 a_n (.fl .f32 a))]).2.length) = z7r a_n a (fun c0_ c1_ => some ((AV.v (TV.one (At.sl 0 0 c0_ 1))), [(Blk.mk Bool.true (Body.fl FloatKind.f32 c1_))])) := by kernel_rfl
theorem z1c : SumOne Try.prog 74 z1y := sum_of (Γ := Γ2) (fuel := 8) (d := 8) tyTab_ok (FnL.ok fnTab_ok _ _) (LpL.ok lt2_ok) (SumL.ok tb2_ok _) mixed (by
  intro pts v news hp hc
  clear hc
  unfold z1y at hp
  split at hp
  · rename_i a_n a
    exact Eq.trans (Eq.trans (zhz a_n a) (zfj (zdl a_n a) rfl a_n a (fun c0_ c1_ => some (c0_, c1_)))) (fin_out (o := (zdl a_n a)) (x := z6e a_n a) (d := default) (V := fun r => ((AV.v (TV.one (At.sl 0 0 r.1 1))), [(Blk.mk Bool.true (Body.fl FloatKind.f32 r.2))])) (fun r => rfl) hp)
  · cases hp)
noncomputable def z1x : List PT → Option (Bool × AV × List Blk)
  | [.one (.s (.flt .f32 x))] => some ((zb8 x), ((AV.v (TV.one (At.bool (za3 x)))), []))
  | _ => none
def zdm (x : Nat) : Option (Bool) → Option (AV × List Blk)
  | some r => some ((AV.v (TV.one (At.bool r))), [])
  | none => none
theorem zhl (x : Nat) : evFn Γ2 8 8 126 (impTs 0 [.one (.s (.flt .f32 x))]).1 (impTs 0 [.one (.s (.flt .f32 x))]).2 (expo (impTs 0 [.one (.s (.flt .f32 x))]).2.length) = z7e x (fun c0_ => some ((AV.v (TV.one (At.bool c0_))), [])) := by kernel_rfl
theorem z1b : SumOne Try.prog 126 z1x := sum_of (Γ := Γ2) (fuel := 8) (d := 8) tyTab_ok (FnL.ok fnTab_ok _ _) (LpL.ok lt2_ok) (SumL.ok tb2_ok _) mixed (by
  intro pts v news hp hc
  clear hc
  unfold z1x at hp
  split at hp
  · rename_i x
    exact Eq.trans (Eq.trans (zhl x) (zf8 (zdm x) rfl x (fun c0_ => some c0_))) (fin_out (o := (zdm x)) (x := z7a x) (d := default) (V := fun r => ((AV.v (TV.one (At.bool r))), [])) (fun r => rfl) hp)
  · cases hp)
noncomputable def z11 : Nat → St → Option (Bool × LO)
  | 2, (St.mk [(0, (AV.v (TV.one (At.vw 0 0 an 1)))), (1, (AV.v (TV.one (At.vw 1 0 bn 1)))), (5, (AV.v (TV.one (At.int IntKind.i64 i))))] [(Blk.mk Bool.false (Body.fl FloatKind.f32 b0)), (Blk.mk Bool.false (Body.fl FloatKind.f32 b1))]) => some ((z90 an bn b0 b1 i), (LO.two (z8l an bn b0 b1 i) (LO.one Ex.ret (St.mk [(4, (AV.v (TV.one (At.bool Bool.false))))] [(Blk.mk Bool.false (Body.fl FloatKind.f32 b0)), (Blk.mk Bool.false (Body.fl FloatKind.f32 b1))])) (LO.one (Ex.exit 0) (St.mk [(0, (AV.v (TV.one (At.vw 0 0 an 1)))), (1, (AV.v (TV.one (At.vw 1 0 bn 1)))), (5, (AV.v (TV.one (At.int IntKind.i64 (z9v an bn b0 b1 i))))), (14, (AV.v (TV.one (At.bool (z9q an bn b0 b1 i)))))] [(Blk.mk Bool.false (Body.fl FloatKind.f32 b0)), (Blk.mk Bool.false (Body.fl FloatKind.f32 b1))]))))
  | _, _ => none
def z76 (an : Nat) (bn : Nat) (b0 : List Nat) (b1 : List Nat) : Option ((Unit) ⊕ (Int × Bool)) → Option (Ex × St)
  | none => none
  | some (Sum.inl r) => some (Ex.ret, (St.mk [(4, (AV.v (TV.one (At.bool Bool.false))))] [(Blk.mk Bool.false (Body.fl FloatKind.f32 b0)), (Blk.mk Bool.false (Body.fl FloatKind.f32 b1))]))
  | some (Sum.inr r) => some ((Ex.exit 0), (St.mk [(0, (AV.v (TV.one (At.vw 0 0 an 1)))), (1, (AV.v (TV.one (At.vw 1 0 bn 1)))), (5, (AV.v (TV.one (At.int IntKind.i64 r.1)))), (14, (AV.v (TV.one (At.bool r.2))))] [(Blk.mk Bool.false (Body.fl FloatKind.f32 b0)), (Blk.mk Bool.false (Body.fl FloatKind.f32 b1))]))
def zfa (an : Nat) (bn : Nat) (b0 : List Nat) (b1 : List Nat) (x : Option ((Unit) ⊕ (Int × Bool))) : LO := (LO.two (oL x) (LO.one Ex.ret (St.mk [(4, (AV.v (TV.one (At.bool Bool.false))))] [(Blk.mk Bool.false (Body.fl FloatKind.f32 b0)), (Blk.mk Bool.false (Body.fl FloatKind.f32 b1))])) (LO.one (Ex.exit 0) (St.mk [(0, (AV.v (TV.one (At.vw 0 0 an 1)))), (1, (AV.v (TV.one (At.vw 1 0 bn 1)))), (5, (AV.v (TV.one (At.int IntKind.i64 ((tR x).getD default).1)))), (14, (AV.v (TV.one (At.bool ((tR x).getD default).2))))] [(Blk.mk Bool.false (Body.fl FloatKind.f32 b0)), (Blk.mk Bool.false (Body.fl FloatKind.f32 b1))])))
theorem zfw (an : Nat) (bn : Nat) (b0 : List Nat) (b1 : List Nat) : ∀ x : Option ((Unit) ⊕ (Int × Bool)), x.isSome = true → (z76 an bn b0 b1) x = some (pick (zfa an bn b0 b1 x))
  | none, h => by cases h
  | some (Sum.inl r), _ => rfl
  | some (Sum.inr r), _ => rfl
theorem zg3 (an : Nat) (bn : Nat) (i : Int) (b0 : List Nat) (b1 : List Nat) (K : Ex → St → Option (Ex × St)) : evC (R := Ex × St) Γ2 (evFn Γ2 8 8) 18 2 fi18.nt fi18.live fi18.nl 8 (findL 4 (loopsIn fi18.code)) (St.mk [(0, (AV.v (TV.one (At.vw 0 0 an 1)))), (1, (AV.v (TV.one (At.vw 1 0 bn 1)))), (5, (AV.v (TV.one (At.int IntKind.i64 i))))] [(Blk.mk Bool.false (Body.fl FloatKind.f32 b0)), (Blk.mk Bool.false (Body.fl FloatKind.f32 b1))]) K = z59 an bn b0 b1 i (fun i' => K .normal (St.mk [(0, (AV.v (TV.one (At.vw 0 0 an 1)))), (1, (AV.v (TV.one (At.vw 1 0 bn 1)))), (5, (AV.v (TV.one (At.int IntKind.i64 i'))))] [(Blk.mk Bool.false (Body.fl FloatKind.f32 b0)), (Blk.mk Bool.false (Body.fl FloatKind.f32 b1))])) (fun _ => K Ex.ret (St.mk [(4, (AV.v (TV.one (At.bool Bool.false))))] [(Blk.mk Bool.false (Body.fl FloatKind.f32 b0)), (Blk.mk Bool.false (Body.fl FloatKind.f32 b1))])) (fun c0_ c1_ => K (Ex.exit 0) (St.mk [(0, (AV.v (TV.one (At.vw 0 0 an 1)))), (1, (AV.v (TV.one (At.vw 1 0 bn 1)))), (5, (AV.v (TV.one (At.int IntKind.i64 c0_)))), (14, (AV.v (TV.one (At.bool c1_))))] [(Blk.mk Bool.false (Body.fl FloatKind.f32 b0)), (Blk.mk Bool.false (Body.fl FloatKind.f32 b1))])) := by kernel_rfl
theorem zgd (an : Nat) (bn : Nat) (b0 : List Nat) (b1 : List Nat) : ∀ (n : Nat) (i : Int), iter 18 4 2 (evC (R := Ex × St) Γ2 (evFn Γ2 8 8) 18 2 fi18.nt fi18.live fi18.nl 8 (findL 4 (loopsIn fi18.code))) n (St.mk [(0, (AV.v (TV.one (At.vw 0 0 an 1)))), (1, (AV.v (TV.one (At.vw 1 0 bn 1)))), (5, (AV.v (TV.one (At.int IntKind.i64 i))))] [(Blk.mk Bool.false (Body.fl FloatKind.f32 b0)), (Blk.mk Bool.false (Body.fl FloatKind.f32 b1))]) (fun e st => some (e, st)) = (z76 an bn b0 b1) (z4h an bn b0 b1 n i) := by
  intro n
  induction n with
  | zero => intros; rfl
  | succ n ih =>
    intro i
    refine Eq.trans (iter_succ ..) (Eq.trans (zg3 an bn i b0 b1 (nextK 18 4 2 (evC (R := Ex × St) Γ2 (evFn Γ2 8 8) 18 2 fi18.nt fi18.live fi18.nl 8 (findL 4 (loopsIn fi18.code))) n (fun e st => some (e, st)))) (Eq.trans ?_ (ze7 (z76 an bn b0 b1) rfl an bn b0 b1 i (fun i' => z4h an bn b0 b1 n i') (fun _ => some (Sum.inl ())) (fun c0_ c1_ => some (Sum.inr (c0_, c1_))))))
    exact congrArg (fun kn_ => z59 an bn b0 b1 i kn_ (fun _ => (z76 an bn b0 b1) (some (Sum.inl ()))) (fun c0_ c1_ => (z76 an bn b0 b1) (some (Sum.inr (c0_, c1_))))) (funext fun i' => ih i')
theorem z0r : LoopOne Try.prog fnTab 18 4 z11 := lp_of (Γ := Γ2) tyTab_ok (FnL.ok fnTab_ok _ _) (LpL.ok lt2_ok) (SumL.ok tb2_ok _) mixed (fi := fi18) (by kernel_rfl) (by kernel_rfl) (by
  intro lo st out hp
  unfold z11 at hp
  split at hp
  · rename_i an bn i b0 b1
    injection hp with hp
    injection hp with h1 h2
    subst h2
    exact ⟨8, 8, big, Eq.trans (zgd an bn b0 b1 big i) (zfw an bn b0 b1 (z4h an bn b0 b1 big i) h1)⟩
  · cases hp)
noncomputable def z10 : Nat → St → Option (Bool × LO)
  | 1, (St.mk [(0, (AV.v (TV.one (At.vw 0 0 an 3)))), (3, (AV.v (TV.one (At.sl 1 0 q1x 3)))), (4, (AV.v (TV.one (At.int IntKind.i64 i))))] [(Blk.mk Bool.false (Body.fl FloatKind.f32 b0)), (Blk.mk Bool.true (Body.fl FloatKind.f32 b1))]) => some ((z77 an q1x b0 i b1), (LO.one (Ex.exit 0) (St.mk [(0, (AV.v (TV.one (At.vw 0 0 an 3)))), (3, (AV.v (TV.one (At.sl 1 0 q1x 3)))), (4, (AV.v (TV.one (At.int IntKind.i64 (z9w an q1x b0 i b1))))), (11, (AV.v (TV.one (At.bool (z9u an q1x b0 i b1)))))] [(Blk.mk Bool.false (Body.fl FloatKind.f32 b0)), (Blk.mk Bool.true (Body.fl FloatKind.f32 (z6b an q1x b0 i b1)))])))
  | _, _ => none
def z8v (an : Nat) (q1x : Nat) (b0 : List Nat) : Option ((Int × Bool × (List Nat))) → Option (Ex × St)
  | none => none
  | some r => some ((Ex.exit 0), (St.mk [(0, (AV.v (TV.one (At.vw 0 0 an 3)))), (3, (AV.v (TV.one (At.sl 1 0 q1x 3)))), (4, (AV.v (TV.one (At.int IntKind.i64 r.1)))), (11, (AV.v (TV.one (At.bool r.2.1))))] [(Blk.mk Bool.false (Body.fl FloatKind.f32 b0)), (Blk.mk Bool.true (Body.fl FloatKind.f32 r.2.2))]))
def zfn (an : Nat) (q1x : Nat) (b0 : List Nat) (x : Option ((Int × Bool × (List Nat)))) : LO := (LO.one (Ex.exit 0) (St.mk [(0, (AV.v (TV.one (At.vw 0 0 an 3)))), (3, (AV.v (TV.one (At.sl 1 0 q1x 3)))), (4, (AV.v (TV.one (At.int IntKind.i64 (x.getD default).1)))), (11, (AV.v (TV.one (At.bool (x.getD default).2.1))))] [(Blk.mk Bool.false (Body.fl FloatKind.f32 b0)), (Blk.mk Bool.true (Body.fl FloatKind.f32 (x.getD default).2.2))]))
theorem zg8 (an : Nat) (q1x : Nat) (b0 : List Nat) : ∀ x : Option ((Int × Bool × (List Nat))), x.isSome = true → (z8v an q1x b0) x = some (pick (zfn an q1x b0 x))
  | none, h => by cases h
  | some r, _ => rfl
theorem zfx (an : Nat) (q1x : Nat) (i : Int) (b0 : List Nat) (b1 : List Nat) (K : Ex → St → Option (Ex × St)) : evC (R := Ex × St) Γ2 (evFn Γ2 8 8) 84 1 fi84.nt fi84.live fi84.nl 8 (findL 3 (loopsIn fi84.code)) (St.mk [(0, (AV.v (TV.one (At.vw 0 0 an 3)))), (3, (AV.v (TV.one (At.sl 1 0 q1x 3)))), (4, (AV.v (TV.one (At.int IntKind.i64 i))))] [(Blk.mk Bool.false (Body.fl FloatKind.f32 b0)), (Blk.mk Bool.true (Body.fl FloatKind.f32 b1))]) K = z57 an q1x b0 i b1 (fun i' b1' => K .normal (St.mk [(0, (AV.v (TV.one (At.vw 0 0 an 3)))), (3, (AV.v (TV.one (At.sl 1 0 q1x 3)))), (4, (AV.v (TV.one (At.int IntKind.i64 i'))))] [(Blk.mk Bool.false (Body.fl FloatKind.f32 b0)), (Blk.mk Bool.true (Body.fl FloatKind.f32 b1'))])) (fun c0_ c1_ c2_ => K (Ex.exit 0) (St.mk [(0, (AV.v (TV.one (At.vw 0 0 an 3)))), (3, (AV.v (TV.one (At.sl 1 0 q1x 3)))), (4, (AV.v (TV.one (At.int IntKind.i64 c0_)))), (11, (AV.v (TV.one (At.bool c1_))))] [(Blk.mk Bool.false (Body.fl FloatKind.f32 b0)), (Blk.mk Bool.true (Body.fl FloatKind.f32 c2_))])) := by kernel_rfl
theorem zg4 (an : Nat) (q1x : Nat) (b0 : List Nat) : ∀ (n : Nat) (i : Int) (b1 : List Nat), iter 84 3 1 (evC (R := Ex × St) Γ2 (evFn Γ2 8 8) 84 1 fi84.nt fi84.live fi84.nl 8 (findL 3 (loopsIn fi84.code))) n (St.mk [(0, (AV.v (TV.one (At.vw 0 0 an 3)))), (3, (AV.v (TV.one (At.sl 1 0 q1x 3)))), (4, (AV.v (TV.one (At.int IntKind.i64 i))))] [(Blk.mk Bool.false (Body.fl FloatKind.f32 b0)), (Blk.mk Bool.true (Body.fl FloatKind.f32 b1))]) (fun e st => some (e, st)) = (z8v an q1x b0) (z3t an q1x b0 n i b1) := by
  intro n
  induction n with
  | zero => intros; rfl
  | succ n ih =>
    intro i b1
    refine Eq.trans (iter_succ ..) (Eq.trans (zfx an q1x i b0 b1 (nextK 84 3 1 (evC (R := Ex × St) Γ2 (evFn Γ2 8 8) 84 1 fi84.nt fi84.live fi84.nl 8 (findL 3 (loopsIn fi84.code))) n (fun e st => some (e, st)))) (Eq.trans ?_ (zed (z8v an q1x b0) rfl an q1x b0 i b1 (fun i' b1' => z3t an q1x b0 n i' b1') (fun c0_ c1_ c2_ => some (c0_, c1_, c2_)))))
    exact congrArg (fun kn_ => z57 an q1x b0 i b1 kn_ (fun c0_ c1_ c2_ => (z8v an q1x b0) (some (c0_, c1_, c2_)))) (funext fun i' => funext fun b1' => ih i' b1')
theorem z0q : LoopOne Try.prog fnTab 84 3 z10 := lp_of (Γ := Γ2) tyTab_ok (FnL.ok fnTab_ok _ _) (LpL.ok lt2_ok) (SumL.ok tb2_ok _) mixed (fi := fi84) (by kernel_rfl) (by kernel_rfl) (by
  intro lo st out hp
  unfold z10 at hp
  split at hp
  · rename_i an q1x i b0 b1
    injection hp with hp
    injection hp with h1 h2
    subst h2
    exact ⟨8, 8, big, Eq.trans (zg4 an q1x b0 big i b1) (zg8 an q1x b0 (z3t an q1x b0 big i b1) h1)⟩
  · cases hp)
noncomputable def tb3 : List (Nat × (List PT → Option (Bool × AV × List Blk))) := [(129, z13), (133, z0l), (137, z14), (139, z1v), (25, z20), (59, z3d), (64, z21), (66, z35), (68, z2g), (70, z1p), (78, z2h), (82, z1o), (106, z17), (108, z0p), (115, z1z), (40, z2b), (58, z2n), (67, z30), (77, z31), (101, z2o), (102, z29), (107, z0m), (111, z1f), (118, z28), (120, z0x), (35, z34), (74, z1y), (126, z1x)]
noncomputable def lt3 : List ((Nat × Nat) × (Nat → St → Option (Bool × LO))) := [((74, 3), z0w), ((18, 4), z11), ((84, 3), z10)]
noncomputable def Γ3 : Ctx := ⟨tyTab, fnTab, tblSum tb3, tblLp lt3⟩
theorem tb3_ok : SumL Try.prog tb3 := SumL.cons z0t (SumL.cons z0i (SumL.cons z0s (SumL.cons z15 (SumL.cons z1a (SumL.cons z2t (SumL.cons z18 (SumL.cons z2f (SumL.cons z1n (SumL.cons z0z (SumL.cons z1m (SumL.cons z12 (SumL.cons z0v (SumL.cons z0k (SumL.cons z19 (SumL.cons z1i (SumL.cons z1t (SumL.cons z26 (SumL.cons z25 (SumL.cons z1u (SumL.cons z1h (SumL.cons z0j (SumL.cons z0y (SumL.cons z1g (SumL.cons z0n (SumL.cons z2d (SumL.cons z1c (SumL.cons z1b (SumL.nil))))))))))))))))))))))))))))
theorem lt3_ok : LpL Try.prog fnTab lt3 := LpL.cons z0o (LpL.cons z0r (LpL.cons z0q (LpL.nil)))
noncomputable def z24 : List PT → Option (Bool × AV × List Blk)
  | [.one (.row 1 a_n (.fl .f32 a)), .one (.row 1 b_n (.fl .f32 b))] => some ((z7t a_n a b_n b), ((AV.v (TV.one (At.bool (z6u a_n a b_n b)))), []))
  | _ => none
def zdq (a_n : Nat) (a : List Nat) (b_n : Nat) (b : List Nat) : Option (Bool) → Option (AV × List Blk)
  | some r => some ((AV.v (TV.one (At.bool r))), [])
  | none => none
theorem zi0 (a_n : Nat) (a : List Nat) (b_n : Nat) (b : List Nat) : evFn Γ3 8 8 18 (impTs 0 [.one (.row 1 a_n (.fl .f32 a)), .one (.row 1 b_n (.fl .f32 b))]).1 (impTs 0 [.one (.row 1 a_n (.fl .f32 a)), .one (.row 1 b_n (.fl .f32 b))]).2 (expo (impTs 0 [.one (.row 1 a_n (.fl .f32 a)), .one (.row 1 b_n (.fl .f32 b))]).2.length) = z7v a_n a b_n b (fun c0_ => some ((AV.v (TV.one (At.bool c0_))), [])) := by kernel_rfl
theorem z1j : SumOne Try.prog 18 z24 := sum_of (Γ := Γ3) (fuel := 8) (d := 8) tyTab_ok (FnL.ok fnTab_ok _ _) (LpL.ok lt3_ok) (SumL.ok tb3_ok _) mixed (by
  intro pts v news hp hc
  clear hc
  unfold z24 at hp
  split at hp
  · rename_i a_n a b_n b
    exact Eq.trans (Eq.trans (zi0 a_n a b_n b) (zff (zdq a_n a b_n b) rfl a_n a b_n b (fun c0_ => some c0_))) (fin_out (o := (zdq a_n a b_n b)) (x := z7u a_n a b_n b) (d := default) (V := fun r => ((AV.v (TV.one (At.bool r))), [])) (fun r => rfl) hp)
  · cases hp)
noncomputable def z2k : List PT → Option (Bool × AV × List Blk)
  | [.agg [.row 1 q0t (.fl .f32 q18), .row 1 q0z (.fl .f32 q1b), .row 1 q12 (.fl .f32 q1f)]] => some ((zc9 q0t q18 q0z q1b q12 q1f), ((AV.v (TV.agg [(At.sl 0 0 (zbd q0t q18 q0z q1b q12 q1f) 1), (At.sl 1 0 (zb6 q0t q18 q0z q1b q12 q1f) 1), (At.sl 2 0 (zb9 q0t q18 q0z q1b q12 q1f) 1)])), [(Blk.mk Bool.true (Body.fl FloatKind.f32 (zbe q0t q18 q0z q1b q12 q1f))), (Blk.mk Bool.true (Body.fl FloatKind.f32 (zay q0t q18 q0z q1b q12 q1f))), (Blk.mk Bool.true (Body.fl FloatKind.f32 (zbb q0t q18 q0z q1b q12 q1f)))]))
  | _ => none
def ze5 (q0t : Nat) (q18 : List Nat) (q0z : Nat) (q1b : List Nat) (q12 : Nat) (q1f : List Nat) : Option (Nat × Nat × Nat × (List Nat) × (List Nat) × (List Nat)) → Option (AV × List Blk)
  | some r => some ((AV.v (TV.agg [(At.sl 0 0 r.1 1), (At.sl 1 0 r.2.1 1), (At.sl 2 0 r.2.2.1 1)])), [(Blk.mk Bool.true (Body.fl FloatKind.f32 r.2.2.2.1)), (Blk.mk Bool.true (Body.fl FloatKind.f32 r.2.2.2.2.1)), (Blk.mk Bool.true (Body.fl FloatKind.f32 r.2.2.2.2.2))])
  | none => none
theorem zi1 (q0t : Nat) (q18 : List Nat) (q0z : Nat) (q1b : List Nat) (q12 : Nat) (q1f : List Nat) : evFn Γ3 8 8 42 (impTs 0 [.agg [.row 1 q0t (.fl .f32 q18), .row 1 q0z (.fl .f32 q1b), .row 1 q12 (.fl .f32 q1f)]]).1 (impTs 0 [.agg [.row 1 q0t (.fl .f32 q18), .row 1 q0z (.fl .f32 q1b), .row 1 q12 (.fl .f32 q1f)]]).2 (expo (impTs 0 [.agg [.row 1 q0t (.fl .f32 q18), .row 1 q0z (.fl .f32 q1b), .row 1 q12 (.fl .f32 q1f)]]).2.length) = z82 q0t q18 q0z q1b q12 q1f (fun c0_ c1_ c2_ c3_ c4_ c5_ => some ((AV.v (TV.agg [(At.sl 0 0 c0_ 1), (At.sl 1 0 c1_ 1), (At.sl 2 0 c2_ 1)])), [(Blk.mk Bool.true (Body.fl FloatKind.f32 c3_)), (Blk.mk Bool.true (Body.fl FloatKind.f32 c4_)), (Blk.mk Bool.true (Body.fl FloatKind.f32 c5_))])) := by kernel_rfl
theorem z1w : SumOne Try.prog 42 z2k := sum_of (Γ := Γ3) (fuel := 8) (d := 8) tyTab_ok (FnL.ok fnTab_ok _ _) (LpL.ok lt3_ok) (SumL.ok tb3_ok _) mixed (by
  intro pts v news hp hc
  clear hc
  unfold z2k at hp
  split at hp
  · rename_i q0t q18 q0z q1b q12 q1f
    exact Eq.trans (Eq.trans (zi1 q0t q18 q0z q1b q12 q1f) (zge (ze5 q0t q18 q0z q1b q12 q1f) rfl q0t q18 q0z q1b q12 q1f (fun c0_ c1_ c2_ c3_ c4_ c5_ => some (c0_, c1_, c2_, c3_, c4_, c5_)))) (fin_out (o := (ze5 q0t q18 q0z q1b q12 q1f)) (x := z5d q0t q18 q0z q1b q12 q1f) (d := default) (V := fun r => ((AV.v (TV.agg [(At.sl 0 0 r.1 1), (At.sl 1 0 r.2.1 1), (At.sl 2 0 r.2.2.1 1)])), [(Blk.mk Bool.true (Body.fl FloatKind.f32 r.2.2.2.1)), (Blk.mk Bool.true (Body.fl FloatKind.f32 r.2.2.2.2.1)), (Blk.mk Bool.true (Body.fl FloatKind.f32 r.2.2.2.2.2))])) (fun r => rfl) hp)
  · cases hp)
noncomputable def z27 : List PT → Option (Bool × AV × List Blk)
  | [.one (.row 3 a_n (.fl .f32 a))] => some ((zb3 a_n a), ((AV.v (TV.one (At.sl 0 0 (za9 a_n a) 3))), [(Blk.mk Bool.true (Body.fl FloatKind.f32 (za7 a_n a)))]))
  | _ => none
def zdn (a_n : Nat) (a : List Nat) : Option (Nat × (List Nat)) → Option (AV × List Blk)
  | some r => some ((AV.v (TV.one (At.sl 0 0 r.1 3))), [(Blk.mk Bool.true (Body.fl FloatKind.f32 r.2))])
  | none => none
theorem zhg (a_n : Nat) (a : List Nat) : evFn Γ3 8 8 84 (impTs 0 [.one (.row 3 a_n (.fl .f32 a))]).1 (impTs 0 [.one (.row 3 a_n (.fl .f32 a))]).2 (expo (impTs 0 [.one (.row 3 a_n (.fl .f32 a))]).2.length) = z7q a_n a (fun c0_ c1_ => some ((AV.v (TV.one (At.sl 0 0 c0_ 3))), [(Blk.mk Bool.true (Body.fl FloatKind.f32 c1_))])) := by kernel_rfl
theorem z1k : SumOne Try.prog 84 z27 := sum_of (Γ := Γ3) (fuel := 8) (d := 8) tyTab_ok (FnL.ok fnTab_ok _ _) (LpL.ok lt3_ok) (SumL.ok tb3_ok _) mixed (by
  intro pts v news hp hc
  clear hc
  unfold z27 at hp
  split at hp
  · rename_i a_n a
    exact Eq.trans (Eq.trans (zhg a_n a) (zfr (zdn a_n a) rfl a_n a (fun c0_ c1_ => some (c0_, c1_)))) (fin_out (o := (zdn a_n a)) (x := z6f a_n a) (d := default) (V := fun r => ((AV.v (TV.one (At.sl 0 0 r.1 3))), [(Blk.mk Bool.true (Body.fl FloatKind.f32 r.2))])) (fun r => rfl) hp)
  · cases hp)
noncomputable def z16 : Nat → St → Option (Bool × LO)
  | 2, (St.mk [(0, (AV.v (TV.one (At.vw 0 0 an 3)))), (1, (AV.v (TV.one (At.vw 1 0 bn 3)))), (5, (AV.v (TV.one (At.int IntKind.i64 i))))] [(Blk.mk Bool.false (Body.fl FloatKind.f32 b0)), (Blk.mk Bool.false (Body.fl FloatKind.f32 b1))]) => some ((z73 an bn b0 b1 i), (LO.two (z6r an bn b0 b1 i) (LO.one Ex.ret (St.mk [(4, (AV.v (TV.one (At.bool Bool.false))))] [(Blk.mk Bool.false (Body.fl FloatKind.f32 b0)), (Blk.mk Bool.false (Body.fl FloatKind.f32 b1))])) (LO.one (Ex.exit 0) (St.mk [(0, (AV.v (TV.one (At.vw 0 0 an 3)))), (1, (AV.v (TV.one (At.vw 1 0 bn 3)))), (5, (AV.v (TV.one (At.int IntKind.i64 (z9t an bn b0 b1 i))))), (14, (AV.v (TV.one (At.bool (z9o an bn b0 b1 i)))))] [(Blk.mk Bool.false (Body.fl FloatKind.f32 b0)), (Blk.mk Bool.false (Body.fl FloatKind.f32 b1))]))))
  | _, _ => none
def z74 (an : Nat) (bn : Nat) (b0 : List Nat) (b1 : List Nat) : Option ((Unit) ⊕ (Int × Bool)) → Option (Ex × St)
  | none => none
  | some (Sum.inl r) => some (Ex.ret, (St.mk [(4, (AV.v (TV.one (At.bool Bool.false))))] [(Blk.mk Bool.false (Body.fl FloatKind.f32 b0)), (Blk.mk Bool.false (Body.fl FloatKind.f32 b1))]))
  | some (Sum.inr r) => some ((Ex.exit 0), (St.mk [(0, (AV.v (TV.one (At.vw 0 0 an 3)))), (1, (AV.v (TV.one (At.vw 1 0 bn 3)))), (5, (AV.v (TV.one (At.int IntKind.i64 r.1)))), (14, (AV.v (TV.one (At.bool r.2))))] [(Blk.mk Bool.false (Body.fl FloatKind.f32 b0)), (Blk.mk Bool.false (Body.fl FloatKind.f32 b1))]))
def zf6 (an : Nat) (bn : Nat) (b0 : List Nat) (b1 : List Nat) (x : Option ((Unit) ⊕ (Int × Bool))) : LO := (LO.two (oL x) (LO.one Ex.ret (St.mk [(4, (AV.v (TV.one (At.bool Bool.false))))] [(Blk.mk Bool.false (Body.fl FloatKind.f32 b0)), (Blk.mk Bool.false (Body.fl FloatKind.f32 b1))])) (LO.one (Ex.exit 0) (St.mk [(0, (AV.v (TV.one (At.vw 0 0 an 3)))), (1, (AV.v (TV.one (At.vw 1 0 bn 3)))), (5, (AV.v (TV.one (At.int IntKind.i64 ((tR x).getD default).1)))), (14, (AV.v (TV.one (At.bool ((tR x).getD default).2))))] [(Blk.mk Bool.false (Body.fl FloatKind.f32 b0)), (Blk.mk Bool.false (Body.fl FloatKind.f32 b1))])))
theorem zg0 (an : Nat) (bn : Nat) (b0 : List Nat) (b1 : List Nat) : ∀ x : Option ((Unit) ⊕ (Int × Bool)), x.isSome = true → (z74 an bn b0 b1) x = some (pick (zf6 an bn b0 b1 x))
  | none, h => by cases h
  | some (Sum.inl r), _ => rfl
  | some (Sum.inr r), _ => rfl
theorem zgb (an : Nat) (bn : Nat) (i : Int) (b0 : List Nat) (b1 : List Nat) (K : Ex → St → Option (Ex × St)) : evC (R := Ex × St) Γ3 (evFn Γ3 8 8) 89 2 fi89.nt fi89.live fi89.nl 8 (findL 4 (loopsIn fi89.code)) (St.mk [(0, (AV.v (TV.one (At.vw 0 0 an 3)))), (1, (AV.v (TV.one (At.vw 1 0 bn 3)))), (5, (AV.v (TV.one (At.int IntKind.i64 i))))] [(Blk.mk Bool.false (Body.fl FloatKind.f32 b0)), (Blk.mk Bool.false (Body.fl FloatKind.f32 b1))]) K = z54 an bn b0 b1 i (fun i' => K .normal (St.mk [(0, (AV.v (TV.one (At.vw 0 0 an 3)))), (1, (AV.v (TV.one (At.vw 1 0 bn 3)))), (5, (AV.v (TV.one (At.int IntKind.i64 i'))))] [(Blk.mk Bool.false (Body.fl FloatKind.f32 b0)), (Blk.mk Bool.false (Body.fl FloatKind.f32 b1))])) (fun _ => K Ex.ret (St.mk [(4, (AV.v (TV.one (At.bool Bool.false))))] [(Blk.mk Bool.false (Body.fl FloatKind.f32 b0)), (Blk.mk Bool.false (Body.fl FloatKind.f32 b1))])) (fun c0_ c1_ => K (Ex.exit 0) (St.mk [(0, (AV.v (TV.one (At.vw 0 0 an 3)))), (1, (AV.v (TV.one (At.vw 1 0 bn 3)))), (5, (AV.v (TV.one (At.int IntKind.i64 c0_)))), (14, (AV.v (TV.one (At.bool c1_))))] [(Blk.mk Bool.false (Body.fl FloatKind.f32 b0)), (Blk.mk Bool.false (Body.fl FloatKind.f32 b1))])) := by kernel_rfl
theorem zg1 (an : Nat) (bn : Nat) (b0 : List Nat) (b1 : List Nat) : ∀ (n : Nat) (i : Int), iter 89 4 2 (evC (R := Ex × St) Γ3 (evFn Γ3 8 8) 89 2 fi89.nt fi89.live fi89.nl 8 (findL 4 (loopsIn fi89.code))) n (St.mk [(0, (AV.v (TV.one (At.vw 0 0 an 3)))), (1, (AV.v (TV.one (At.vw 1 0 bn 3)))), (5, (AV.v (TV.one (At.int IntKind.i64 i))))] [(Blk.mk Bool.false (Body.fl FloatKind.f32 b0)), (Blk.mk Bool.false (Body.fl FloatKind.f32 b1))]) (fun e st => some (e, st)) = (z74 an bn b0 b1) (z4i an bn b0 b1 n i) := by
  intro n
  induction n with
  | zero => intros; rfl
  | succ n ih =>
    intro i
    refine Eq.trans (iter_succ ..) (Eq.trans (zgb an bn i b0 b1 (nextK 89 4 2 (evC (R := Ex × St) Γ3 (evFn Γ3 8 8) 89 2 fi89.nt fi89.live fi89.nl 8 (findL 4 (loopsIn fi89.code))) n (fun e st => some (e, st)))) (Eq.trans ?_ (ze3 (z74 an bn b0 b1) rfl an bn b0 b1 i (fun i' => z4i an bn b0 b1 n i') (fun _ => some (Sum.inl ())) (fun c0_ c1_ => some (Sum.inr (c0_, c1_))))))
    exact congrArg (fun kn_ => z54 an bn b0 b1 i kn_ (fun _ => (z74 an bn b0 b1) (some (Sum.inl ()))) (fun c0_ c1_ => (z74 an bn b0 b1) (some (Sum.inr (c0_, c1_))))) (funext fun i' => ih i')
theorem z0u : LoopOne Try.prog fnTab 89 4 z16 := lp_of (Γ := Γ3) tyTab_ok (FnL.ok fnTab_ok _ _) (LpL.ok lt3_ok) (SumL.ok tb3_ok _) mixed (fi := fi89) (by kernel_rfl) (by kernel_rfl) (by
  intro lo st out hp
  unfold z16 at hp
  split at hp
  · rename_i an bn i b0 b1
    injection hp with hp
    injection hp with h1 h2
    subst h2
    exact ⟨8, 8, big, Eq.trans (zg1 an bn b0 b1 big i) (zg0 an bn b0 b1 (z4i an bn b0 b1 big i) h1)⟩
  · cases hp)
noncomputable def z2x : Nat → St → Option (Bool × LO)
  | 4, (St.mk [(0, (AV.v (TV.one (At.ptr 3 0 3)))), (3, (AV.v (TV.one (At.int IntKind.i64 t3)))), (4, (AV.v (TV.one (At.int IntKind.i64 t4))))] [(Blk.mk Bool.false (Body.fl FloatKind.f32 b0)), (Blk.mk Bool.false (Body.fl FloatKind.f32 b1)), (Blk.mk Bool.false (Body.fl FloatKind.f32 b2)), (Blk.mk Bool.false (Body.cells [(At.vw 0 0 q1i 1), (At.vw 1 0 q1v 1), (At.vw 2 0 q1t 1)]))]) => some ((z6j t3 b0 b1 b2 q1i q1v q1t t4), (LO.two (z64 t3 b0 b1 b2 q1i q1v q1t t4) (LO.one Ex.ret (St.mk [(2, (AV.v (TV.one (At.bool Bool.false))))] [(Blk.mk Bool.false (Body.fl FloatKind.f32 b0)), (Blk.mk Bool.false (Body.fl FloatKind.f32 b1)), (Blk.mk Bool.false (Body.fl FloatKind.f32 b2)), (Blk.mk Bool.false (Body.cells [(At.vw 0 0 q1i 1), (At.vw 1 0 q1v 1), (At.vw 2 0 q1t 1)]))])) (LO.one (Ex.exit 0) (St.mk [(0, (AV.v (TV.one (At.ptr 3 0 3)))), (3, (AV.v (TV.one (At.int IntKind.i64 t3)))), (4, (AV.v (TV.one (At.int IntKind.i64 (zct t3 b0 b1 b2 q1i q1v q1t t4))))), (36, (AV.v (TV.one (At.bool (zcx t3 b0 b1 b2 q1i q1v q1t t4)))))] [(Blk.mk Bool.false (Body.fl FloatKind.f32 b0)), (Blk.mk Bool.false (Body.fl FloatKind.f32 b1)), (Blk.mk Bool.false (Body.fl FloatKind.f32 b2)), (Blk.mk Bool.false (Body.cells [(At.vw 0 0 q1i 1), (At.vw 1 0 q1v 1), (At.vw 2 0 q1t 1)]))]))))
  | _, _ => none
def zad (t3 : Int) (b0 : List Nat) (b1 : List Nat) (b2 : List Nat) (q1i : Nat) (q1v : Nat) (q1t : Nat) : Option ((Unit) ⊕ (Int × Bool)) → Option (Ex × St)
  | none => none
  | some (Sum.inl r) => some (Ex.ret, (St.mk [(2, (AV.v (TV.one (At.bool Bool.false))))] [(Blk.mk Bool.false (Body.fl FloatKind.f32 b0)), (Blk.mk Bool.false (Body.fl FloatKind.f32 b1)), (Blk.mk Bool.false (Body.fl FloatKind.f32 b2)), (Blk.mk Bool.false (Body.cells [(At.vw 0 0 q1i 1), (At.vw 1 0 q1v 1), (At.vw 2 0 q1t 1)]))]))
  | some (Sum.inr r) => some ((Ex.exit 0), (St.mk [(0, (AV.v (TV.one (At.ptr 3 0 3)))), (3, (AV.v (TV.one (At.int IntKind.i64 t3)))), (4, (AV.v (TV.one (At.int IntKind.i64 r.1)))), (36, (AV.v (TV.one (At.bool r.2))))] [(Blk.mk Bool.false (Body.fl FloatKind.f32 b0)), (Blk.mk Bool.false (Body.fl FloatKind.f32 b1)), (Blk.mk Bool.false (Body.fl FloatKind.f32 b2)), (Blk.mk Bool.false (Body.cells [(At.vw 0 0 q1i 1), (At.vw 1 0 q1v 1), (At.vw 2 0 q1t 1)]))]))
def zig (t3 : Int) (b0 : List Nat) (b1 : List Nat) (b2 : List Nat) (q1i : Nat) (q1v : Nat) (q1t : Nat) (x : Option ((Unit) ⊕ (Int × Bool))) : LO := (LO.two (oL x) (LO.one Ex.ret (St.mk [(2, (AV.v (TV.one (At.bool Bool.false))))] [(Blk.mk Bool.false (Body.fl FloatKind.f32 b0)), (Blk.mk Bool.false (Body.fl FloatKind.f32 b1)), (Blk.mk Bool.false (Body.fl FloatKind.f32 b2)), (Blk.mk Bool.false (Body.cells [(At.vw 0 0 q1i 1), (At.vw 1 0 q1v 1), (At.vw 2 0 q1t 1)]))])) (LO.one (Ex.exit 0) (St.mk [(0, (AV.v (TV.one (At.ptr 3 0 3)))), (3, (AV.v (TV.one (At.int IntKind.i64 t3)))), (4, (AV.v (TV.one (At.int IntKind.i64 ((tR x).getD default).1)))), (36, (AV.v (TV.one (At.bool ((tR x).getD default).2))))] [(Blk.mk Bool.false (Body.fl FloatKind.f32 b0)), (Blk.mk Bool.false (Body.fl FloatKind.f32 b1)), (Blk.mk Bool.false (Body.fl FloatKind.f32 b2)), (Blk.mk Bool.false (Body.cells [(At.vw 0 0 q1i 1), (At.vw 1 0 q1v 1), (At.vw 2 0 q1t 1)]))])))
theorem zii (t3 : Int) (b0 : List Nat) (b1 : List Nat) (b2 : List Nat) (q1i : Nat) (q1v : Nat) (q1t : Nat) : ∀ x : Option ((Unit) ⊕ (Int × Bool)), x.isSome = true → (zad t3 b0 b1 b2 q1i q1v q1t) x = some (pick (zig t3 b0 b1 b2 q1i q1v q1t x))
  | none, h => by cases h
  | some (Sum.inl r), _ => rfl
  | some (Sum.inr r), _ => rfl
theorem ziq (t3 : Int) (t4 : Int) (b0 : List Nat) (b1 : List Nat) (b2 : List Nat) (q1i : Nat) (q1v : Nat) (q1t : Nat) (K : Ex → St → Option (Ex × St)) : evC (R := Ex × St) Γ3 (evFn Γ3 8 8) 90 4 fi90.nt fi90.live fi90.nl 8 (findL 5 (loopsIn fi90.code)) (St.mk [(0, (AV.v (TV.one (At.ptr 3 0 3)))), (3, (AV.v (TV.one (At.int IntKind.i64 t3)))), (4, (AV.v (TV.one (At.int IntKind.i64 t4))))] [(Blk.mk Bool.false (Body.fl FloatKind.f32 b0)), (Blk.mk Bool.false (Body.fl FloatKind.f32 b1)), (Blk.mk Bool.false (Body.fl FloatKind.f32 b2)), (Blk.mk Bool.false (Body.cells [(At.vw 0 0 q1i 1), (At.vw 1 0 q1v 1), (At.vw 2 0 q1t 1)]))]) K = z5y t3 b0 b1 b2 q1i q1v q1t t4 (fun t4' => K .normal (St.mk [(0, (AV.v (TV.one (At.ptr 3 0 3)))), (3, (AV.v (TV.one (At.int IntKind.i64 t3)))), (4, (AV.v (TV.one (At.int IntKind.i64 t4'))))] [(Blk.mk Bool.false (Body.fl FloatKind.f32 b0)), (Blk.mk Bool.false (Body.fl FloatKind.f32 b1)), (Blk.mk Bool.false (Body.fl FloatKind.f32 b2)), (Blk.mk Bool.false (Body.cells [(At.vw 0 0 q1i 1), (At.vw 1 0 q1v 1), (At.vw 2 0 q1t 1)]))])) (fun _ => K Ex.ret (St.mk [(2, (AV.v (TV.one (At.bool Bool.false))))] [(Blk.mk Bool.false (Body.fl FloatKind.f32 b0)), (Blk.mk Bool.false (Body.fl FloatKind.f32 b1)), (Blk.mk Bool.false (Body.fl FloatKind.f32 b2)), (Blk.mk Bool.false (Body.cells [(At.vw 0 0 q1i 1), (At.vw 1 0 q1v 1), (At.vw 2 0 q1t 1)]))])) (fun c0_ c1_ => K (Ex.exit 0) (St.mk [(0, (AV.v (TV.one (At.ptr 3 0 3)))), (3, (AV.v (TV.one (At.int IntKind.i64 t3)))), (4, (AV.v (TV.one (At.int IntKind.i64 c0_)))), (36, (AV.v (TV.one (At.bool c1_))))] [(Blk.mk Bool.false (Body.fl FloatKind.f32 b0)), (Blk.mk Bool.false (Body.fl FloatKind.f32 b1)), (Blk.mk Bool.false (Body.fl FloatKind.f32 b2)), (Blk.mk Bool.false (Body.cells [(At.vw 0 0 q1i 1), (At.vw 1 0 q1v 1), (At.vw 2 0 q1t 1)]))])) := by kernel_rfl
theorem zis (t3 : Int) (b0 : List Nat) (b1 : List Nat) (b2 : List Nat) (q1i : Nat) (q1v : Nat) (q1t : Nat) : ∀ (n : Nat) (t4 : Int), iter 90 5 4 (evC (R := Ex × St) Γ3 (evFn Γ3 8 8) 90 4 fi90.nt fi90.live fi90.nl 8 (findL 5 (loopsIn fi90.code))) n (St.mk [(0, (AV.v (TV.one (At.ptr 3 0 3)))), (3, (AV.v (TV.one (At.int IntKind.i64 t3)))), (4, (AV.v (TV.one (At.int IntKind.i64 t4))))] [(Blk.mk Bool.false (Body.fl FloatKind.f32 b0)), (Blk.mk Bool.false (Body.fl FloatKind.f32 b1)), (Blk.mk Bool.false (Body.fl FloatKind.f32 b2)), (Blk.mk Bool.false (Body.cells [(At.vw 0 0 q1i 1), (At.vw 1 0 q1v 1), (At.vw 2 0 q1t 1)]))]) (fun e st => some (e, st)) = (zad t3 b0 b1 b2 q1i q1v q1t) (z50 t3 b0 b1 b2 q1i q1v q1t n t4) := by
  intro n
  induction n with
  | zero => intros; rfl
  | succ n ih =>
    intro t4
    refine Eq.trans (iter_succ ..) (Eq.trans (ziq t3 t4 b0 b1 b2 q1i q1v q1t (nextK 90 5 4 (evC (R := Ex × St) Γ3 (evFn Γ3 8 8) 90 4 fi90.nt fi90.live fi90.nl 8 (findL 5 (loopsIn fi90.code))) n (fun e st => some (e, st)))) (Eq.trans ?_ (zgl (zad t3 b0 b1 b2 q1i q1v q1t) rfl t3 b0 b1 b2 q1i q1v q1t t4 (fun t4' => z50 t3 b0 b1 b2 q1i q1v q1t n t4') (fun _ => some (Sum.inl ())) (fun c0_ c1_ => some (Sum.inr (c0_, c1_))))))
    exact congrArg (fun kn_ => z5y t3 b0 b1 b2 q1i q1v q1t t4 kn_ (fun _ => (zad t3 b0 b1 b2 q1i q1v q1t) (some (Sum.inl ()))) (fun c0_ c1_ => (zad t3 b0 b1 b2 q1i q1v q1t) (some (Sum.inr (c0_, c1_))))) (funext fun t4' => ih t4')
theorem z2a : LoopOne Try.prog fnTab 90 5 z2x := lp_of (Γ := Γ3) tyTab_ok (FnL.ok fnTab_ok _ _) (LpL.ok lt3_ok) (SumL.ok tb3_ok _) mixed (fi := fi90) (by kernel_rfl) (by kernel_rfl) (by
  intro lo st out hp
  unfold z2x at hp
  split at hp
  · rename_i t3 t4 b0 b1 b2 q1i q1v q1t
    injection hp with hp
    injection hp with h1 h2
    subst h2
    exact ⟨8, 8, big, Eq.trans (zis t3 b0 b1 b2 q1i q1v q1t big t4) (zii t3 b0 b1 b2 q1i q1v q1t (z50 t3 b0 b1 b2 q1i q1v q1t big t4) h1)⟩
  · cases hp)
noncomputable def z03 : Nat → St → Option (Bool × LO)
  | 1, (St.mk [(0, (AV.v (TV.one (At.vw 0 0 sn 1)))), (1, (AV.v (TV.one (At.fn 111 [])))), (7, (AV.v (TV.one (At.int IntKind.i64 t7)))), (8, (AV.v (TV.one (At.int IntKind.i64 t8))))] [(Blk.mk Bool.false (Body.fl FloatKind.f32 b0))]) => some ((z43 sn t7 b0 t8), (LO.two (z3z sn t7 b0 t8) (LO.one Ex.ret (St.mk [(4, (AV.v (TV.one (At.int IntKind.i64 (z4r sn t7 b0 t8)))))] [(Blk.mk Bool.false (Body.fl FloatKind.f32 b0))])) (LO.one (Ex.exit 0) (St.mk [(0, (AV.v (TV.one (At.vw 0 0 sn 1)))), (1, (AV.v (TV.one (At.fn 111 [])))), (7, (AV.v (TV.one (At.int IntKind.i64 t7)))), (8, (AV.v (TV.one (At.int IntKind.i64 (z5k sn t7 b0 t8))))), (9, (AV.v (TV.one (At.bool (z5j sn t7 b0 t8)))))] [(Blk.mk Bool.false (Body.fl FloatKind.f32 b0))]))))
  | _, _ => none
def z4n (sn : Nat) (t7 : Int) (b0 : List Nat) : Option ((Int) ⊕ (Int × Bool)) → Option (Ex × St)
  | none => none
  | some (Sum.inl r) => some (Ex.ret, (St.mk [(4, (AV.v (TV.one (At.int IntKind.i64 r))))] [(Blk.mk Bool.false (Body.fl FloatKind.f32 b0))]))
  | some (Sum.inr r) => some ((Ex.exit 0), (St.mk [(0, (AV.v (TV.one (At.vw 0 0 sn 1)))), (1, (AV.v (TV.one (At.fn 111 [])))), (7, (AV.v (TV.one (At.int IntKind.i64 t7)))), (8, (AV.v (TV.one (At.int IntKind.i64 r.1)))), (9, (AV.v (TV.one (At.bool r.2))))] [(Blk.mk Bool.false (Body.fl FloatKind.f32 b0))]))
def zat (sn : Nat) (t7 : Int) (b0 : List Nat) (x : Option ((Int) ⊕ (Int × Bool))) : LO := (LO.two (oL x) (LO.one Ex.ret (St.mk [(4, (AV.v (TV.one (At.int IntKind.i64 ((tL x).getD default)))))] [(Blk.mk Bool.false (Body.fl FloatKind.f32 b0))])) (LO.one (Ex.exit 0) (St.mk [(0, (AV.v (TV.one (At.vw 0 0 sn 1)))), (1, (AV.v (TV.one (At.fn 111 [])))), (7, (AV.v (TV.one (At.int IntKind.i64 t7)))), (8, (AV.v (TV.one (At.int IntKind.i64 ((tR x).getD default).1)))), (9, (AV.v (TV.one (At.bool ((tR x).getD default).2))))] [(Blk.mk Bool.false (Body.fl FloatKind.f32 b0))])))
theorem zbs (sn : Nat) (t7 : Int) (b0 : List Nat) : ∀ x : Option ((Int) ⊕ (Int × Bool)), x.isSome = true → (z4n sn t7 b0) x = some (pick (zat sn t7 b0 x))
  | none, h => by cases h
  | some (Sum.inl r), _ => rfl
  | some (Sum.inr r), _ => rfl
theorem zbo (sn : Nat) (t7 : Int) (t8 : Int) (b0 : List Nat) (K : Ex → St → Option (Ex × St)) : evC (R := Ex × St) Γ3 (evFn Γ3 8 8) 125 1 fi125.nt fi125.live fi125.nl 8 (findL 2 (loopsIn fi125.code)) (St.mk [(0, (AV.v (TV.one (At.vw 0 0 sn 1)))), (1, (AV.v (TV.one (At.fn 111 [])))), (7, (AV.v (TV.one (At.int IntKind.i64 t7)))), (8, (AV.v (TV.one (At.int IntKind.i64 t8))))] [(Blk.mk Bool.false (Body.fl FloatKind.f32 b0))]) K = z3k sn t7 b0 t8 (fun t8' => K .normal (St.mk [(0, (AV.v (TV.one (At.vw 0 0 sn 1)))), (1, (AV.v (TV.one (At.fn 111 [])))), (7, (AV.v (TV.one (At.int IntKind.i64 t7)))), (8, (AV.v (TV.one (At.int IntKind.i64 t8'))))] [(Blk.mk Bool.false (Body.fl FloatKind.f32 b0))])) (fun c0_ => K Ex.ret (St.mk [(4, (AV.v (TV.one (At.int IntKind.i64 c0_))))] [(Blk.mk Bool.false (Body.fl FloatKind.f32 b0))])) (fun c0_ c1_ => K (Ex.exit 0) (St.mk [(0, (AV.v (TV.one (At.vw 0 0 sn 1)))), (1, (AV.v (TV.one (At.fn 111 [])))), (7, (AV.v (TV.one (At.int IntKind.i64 t7)))), (8, (AV.v (TV.one (At.int IntKind.i64 c0_)))), (9, (AV.v (TV.one (At.bool c1_))))] [(Blk.mk Bool.false (Body.fl FloatKind.f32 b0))])) := by kernel_rfl
theorem zbq (sn : Nat) (t7 : Int) (b0 : List Nat) : ∀ (n : Nat) (t8 : Int), iter 125 2 1 (evC (R := Ex × St) Γ3 (evFn Γ3 8 8) 125 1 fi125.nt fi125.live fi125.nl 8 (findL 2 (loopsIn fi125.code))) n (St.mk [(0, (AV.v (TV.one (At.vw 0 0 sn 1)))), (1, (AV.v (TV.one (At.fn 111 [])))), (7, (AV.v (TV.one (At.int IntKind.i64 t7)))), (8, (AV.v (TV.one (At.int IntKind.i64 t8))))] [(Blk.mk Bool.false (Body.fl FloatKind.f32 b0))]) (fun e st => some (e, st)) = (z4n sn t7 b0) (z1l sn t7 b0 n t8) := by
  intro n
  induction n with
  | zero => intros; rfl
  | succ n ih =>
    intro t8
    refine Eq.trans (iter_succ ..) (Eq.trans (zbo sn t7 t8 b0 (nextK 125 2 1 (evC (R := Ex × St) Γ3 (evFn Γ3 8 8) 125 1 fi125.nt fi125.live fi125.nl 8 (findL 2 (loopsIn fi125.code))) n (fun e st => some (e, st)))) (Eq.trans ?_ (z9m (z4n sn t7 b0) rfl sn t7 b0 t8 (fun t8' => z1l sn t7 b0 n t8') (fun c0_ => some (Sum.inl c0_)) (fun c0_ c1_ => some (Sum.inr (c0_, c1_))))))
    exact congrArg (fun kn_ => z3k sn t7 b0 t8 kn_ (fun c0_ => (z4n sn t7 b0) (some (Sum.inl c0_))) (fun c0_ c1_ => (z4n sn t7 b0) (some (Sum.inr (c0_, c1_))))) (funext fun t8' => ih t8')
theorem z02 : LoopOne Try.prog fnTab 125 2 z03 := lp_of (Γ := Γ3) tyTab_ok (FnL.ok fnTab_ok _ _) (LpL.ok lt3_ok) (SumL.ok tb3_ok _) mixed (fi := fi125) (by kernel_rfl) (by kernel_rfl) (by
  intro lo st out hp
  unfold z03 at hp
  split at hp
  · rename_i sn t7 t8 b0
    injection hp with hp
    injection hp with h1 h2
    subst h2
    exact ⟨8, 8, big, Eq.trans (zbq sn t7 b0 big t8) (zbs sn t7 b0 (z1l sn t7 b0 big t8) h1)⟩
  · cases hp)
noncomputable def z01 : Nat → St → Option (Bool × LO)
  | 1, (St.mk [(0, (AV.v (TV.one (At.vw 0 0 sn 1)))), (1, (AV.v (TV.one (At.fn 120 [])))), (7, (AV.v (TV.one (At.int IntKind.i64 t7)))), (8, (AV.v (TV.one (At.int IntKind.i64 t8))))] [(Blk.mk Bool.false (Body.fl FloatKind.f32 b0))]) => some ((z3y sn t7 b0 t8), (LO.two (z3u sn t7 b0 t8) (LO.one Ex.ret (St.mk [(4, (AV.v (TV.one (At.int IntKind.i64 (z4p sn t7 b0 t8)))))] [(Blk.mk Bool.false (Body.fl FloatKind.f32 b0))])) (LO.one (Ex.exit 0) (St.mk [(0, (AV.v (TV.one (At.vw 0 0 sn 1)))), (1, (AV.v (TV.one (At.fn 120 [])))), (7, (AV.v (TV.one (At.int IntKind.i64 t7)))), (8, (AV.v (TV.one (At.int IntKind.i64 (z5g sn t7 b0 t8))))), (9, (AV.v (TV.one (At.bool (z5f sn t7 b0 t8)))))] [(Blk.mk Bool.false (Body.fl FloatKind.f32 b0))]))))
  | _, _ => none
def z4f (sn : Nat) (t7 : Int) (b0 : List Nat) : Option ((Int) ⊕ (Int × Bool)) → Option (Ex × St)
  | none => none
  | some (Sum.inl r) => some (Ex.ret, (St.mk [(4, (AV.v (TV.one (At.int IntKind.i64 r))))] [(Blk.mk Bool.false (Body.fl FloatKind.f32 b0))]))
  | some (Sum.inr r) => some ((Ex.exit 0), (St.mk [(0, (AV.v (TV.one (At.vw 0 0 sn 1)))), (1, (AV.v (TV.one (At.fn 120 [])))), (7, (AV.v (TV.one (At.int IntKind.i64 t7)))), (8, (AV.v (TV.one (At.int IntKind.i64 r.1)))), (9, (AV.v (TV.one (At.bool r.2))))] [(Blk.mk Bool.false (Body.fl FloatKind.f32 b0))]))
def za1 (sn : Nat) (t7 : Int) (b0 : List Nat) (x : Option ((Int) ⊕ (Int × Bool))) : LO := (LO.two (oL x) (LO.one Ex.ret (St.mk [(4, (AV.v (TV.one (At.int IntKind.i64 ((tL x).getD default)))))] [(Blk.mk Bool.false (Body.fl FloatKind.f32 b0))])) (LO.one (Ex.exit 0) (St.mk [(0, (AV.v (TV.one (At.vw 0 0 sn 1)))), (1, (AV.v (TV.one (At.fn 120 [])))), (7, (AV.v (TV.one (At.int IntKind.i64 t7)))), (8, (AV.v (TV.one (At.int IntKind.i64 ((tR x).getD default).1)))), (9, (AV.v (TV.one (At.bool ((tR x).getD default).2))))] [(Blk.mk Bool.false (Body.fl FloatKind.f32 b0))])))
theorem zap (sn : Nat) (t7 : Int) (b0 : List Nat) : ∀ x : Option ((Int) ⊕ (Int × Bool)), x.isSome = true → (z4f sn t7 b0) x = some (pick (za1 sn t7 b0 x))
  | none, h => by cases h
  | some (Sum.inl r), _ => rfl
  | some (Sum.inr r), _ => rfl
theorem zaq (sn : Nat) (t7 : Int) (t8 : Int) (b0 : List Nat) (K : Ex → St → Option (Ex × St)) : evC (R := Ex × St) Γ3 (evFn Γ3 8 8) 125 1 fi125.nt fi125.live fi125.nl 8 (findL 2 (loopsIn fi125.code)) (St.mk [(0, (AV.v (TV.one (At.vw 0 0 sn 1)))), (1, (AV.v (TV.one (At.fn 120 [])))), (7, (AV.v (TV.one (At.int IntKind.i64 t7)))), (8, (AV.v (TV.one (At.int IntKind.i64 t8))))] [(Blk.mk Bool.false (Body.fl FloatKind.f32 b0))]) K = z3f sn t7 b0 t8 (fun t8' => K .normal (St.mk [(0, (AV.v (TV.one (At.vw 0 0 sn 1)))), (1, (AV.v (TV.one (At.fn 120 [])))), (7, (AV.v (TV.one (At.int IntKind.i64 t7)))), (8, (AV.v (TV.one (At.int IntKind.i64 t8'))))] [(Blk.mk Bool.false (Body.fl FloatKind.f32 b0))])) (fun c0_ => K Ex.ret (St.mk [(4, (AV.v (TV.one (At.int IntKind.i64 c0_))))] [(Blk.mk Bool.false (Body.fl FloatKind.f32 b0))])) (fun c0_ c1_ => K (Ex.exit 0) (St.mk [(0, (AV.v (TV.one (At.vw 0 0 sn 1)))), (1, (AV.v (TV.one (At.fn 120 [])))), (7, (AV.v (TV.one (At.int IntKind.i64 t7)))), (8, (AV.v (TV.one (At.int IntKind.i64 c0_)))), (9, (AV.v (TV.one (At.bool c1_))))] [(Blk.mk Bool.false (Body.fl FloatKind.f32 b0))])) := by kernel_rfl
theorem zao (sn : Nat) (t7 : Int) (b0 : List Nat) : ∀ (n : Nat) (t8 : Int), iter 125 2 1 (evC (R := Ex × St) Γ3 (evFn Γ3 8 8) 125 1 fi125.nt fi125.live fi125.nl 8 (findL 2 (loopsIn fi125.code))) n (St.mk [(0, (AV.v (TV.one (At.vw 0 0 sn 1)))), (1, (AV.v (TV.one (At.fn 120 [])))), (7, (AV.v (TV.one (At.int IntKind.i64 t7)))), (8, (AV.v (TV.one (At.int IntKind.i64 t8))))] [(Blk.mk Bool.false (Body.fl FloatKind.f32 b0))]) (fun e st => some (e, st)) = (z4f sn t7 b0) (z1d sn t7 b0 n t8) := by
  intro n
  induction n with
  | zero => intros; rfl
  | succ n ih =>
    intro t8
    refine Eq.trans (iter_succ ..) (Eq.trans (zaq sn t7 t8 b0 (nextK 125 2 1 (evC (R := Ex × St) Γ3 (evFn Γ3 8 8) 125 1 fi125.nt fi125.live fi125.nl 8 (findL 2 (loopsIn fi125.code))) n (fun e st => some (e, st)))) (Eq.trans ?_ (z9f (z4f sn t7 b0) rfl sn t7 b0 t8 (fun t8' => z1d sn t7 b0 n t8') (fun c0_ => some (Sum.inl c0_)) (fun c0_ c1_ => some (Sum.inr (c0_, c1_))))))
    exact congrArg (fun kn_ => z3f sn t7 b0 t8 kn_ (fun c0_ => (z4f sn t7 b0) (some (Sum.inl c0_))) (fun c0_ c1_ => (z4f sn t7 b0) (some (Sum.inr (c0_, c1_))))) (funext fun t8' => ih t8')
theorem z00 : LoopOne Try.prog fnTab 125 2 z01 := lp_of (Γ := Γ3) tyTab_ok (FnL.ok fnTab_ok _ _) (LpL.ok lt3_ok) (SumL.ok tb3_ok _) mixed (fi := fi125) (by kernel_rfl) (by kernel_rfl) (by
  intro lo st out hp
  unfold z01 at hp
  split at hp
  · rename_i sn t7 t8 b0
    injection hp with hp
    injection hp with h1 h2
    subst h2
    exact ⟨8, 8, big, Eq.trans (zao sn t7 b0 big t8) (zap sn t7 b0 (z1d sn t7 b0 big t8) h1)⟩
  · cases hp)
noncomputable def tb4 : List (Nat × (List PT → Option (Bool × AV × List Blk))) := [(129, z13), (133, z0l), (137, z14), (139, z1v), (25, z20), (59, z3d), (64, z21), (66, z35), (68, z2g), (70, z1p), (78, z2h), (82, z1o), (106, z17), (108, z0p), (115, z1z), (40, z2b), (58, z2n), (67, z30), (77, z31), (101, z2o), (102, z29), (107, z0m), (111, z1f), (118, z28), (120, z0x), (35, z34), (74, z1y), (126, z1x), (18, z24), (42, z2k), (84, z27)]
noncomputable def lt4 : List ((Nat × Nat) × (Nat → St → Option (Bool × LO))) := [((74, 3), z0w), ((18, 4), z11), ((84, 3), z10), ((89, 4), z16), ((90, 5), z2x), ((125, 2), z03), ((125, 2), z01)]
noncomputable def Γ4 : Ctx := ⟨tyTab, fnTab, tblSum tb4, tblLp lt4⟩
theorem tb4_ok : SumL Try.prog tb4 := SumL.cons z0t (SumL.cons z0i (SumL.cons z0s (SumL.cons z15 (SumL.cons z1a (SumL.cons z2t (SumL.cons z18 (SumL.cons z2f (SumL.cons z1n (SumL.cons z0z (SumL.cons z1m (SumL.cons z12 (SumL.cons z0v (SumL.cons z0k (SumL.cons z19 (SumL.cons z1i (SumL.cons z1t (SumL.cons z26 (SumL.cons z25 (SumL.cons z1u (SumL.cons z1h (SumL.cons z0j (SumL.cons z0y (SumL.cons z1g (SumL.cons z0n (SumL.cons z2d (SumL.cons z1c (SumL.cons z1b (SumL.cons z1j (SumL.cons z1w (SumL.cons z1k (SumL.nil)))))))))))))))))))))))))))))))
theorem lt4_ok : LpL Try.prog fnTab lt4 := LpL.cons z0o (LpL.cons z0r (LpL.cons z0q (LpL.cons z0u (LpL.cons z2a (LpL.cons z02 (LpL.cons z00 (LpL.nil)))))))
noncomputable def z3a : List PT → Option (Bool × AV × List Blk)
  | [.agg [.row 1 q0e (.fl .f32 q0h), .row 1 q0g (.fl .f32 q0l), .row 1 q0f (.fl .f32 q0k), .row 3 q0n (.fl .f32 q0x), .s (.int .i64 q1a), .s (.flt .f32 q1k), .s (.flt .f32 q1j)]] => some ((z81 q0e q0h q0g q0l q0f q0k q0n q0x q1a q1k q1j), ((AV.v (TV.agg [(At.sl 0 0 (z3g q0e q0h q0g q0l q0f q0k q0n q0x q1a q1k q1j) 1), (At.sl 1 0 (z3h q0e q0h q0g q0l q0f q0k q0n q0x q1a q1k q1j) 1), (At.sl 2 0 (z3j q0e q0h q0g q0l q0f q0k q0n q0x q1a q1k q1j) 1), (At.sl 3 0 (z3i q0e q0h q0g q0l q0f q0k q0n q0x q1a q1k q1j) 3), (At.int IntKind.i64 q1a), (At.flt FloatKind.f32 q1k), (At.flt FloatKind.f32 q1j)])), [(Blk.mk Bool.true (Body.fl FloatKind.f32 (z4j q0e q0h q0g q0l q0f q0k q0n q0x q1a q1k q1j))), (Blk.mk Bool.true (Body.fl FloatKind.f32 (z4m q0e q0h q0g q0l q0f q0k q0n q0x q1a q1k q1j))), (Blk.mk Bool.true (Body.fl FloatKind.f32 (z4k q0e q0h q0g q0l q0f q0k q0n q0x q1a q1k q1j))), (Blk.mk Bool.true (Body.fl FloatKind.f32 (z4l q0e q0h q0g q0l q0f q0k q0n q0x q1a q1k q1j)))]))
  | _ => none
def zf9 (q0e : Nat) (q0h : List Nat) (q0g : Nat) (q0l : List Nat) (q0f : Nat) (q0k : List Nat) (q0n : Nat) (q0x : List Nat) (q1a : Int) (q1k : Nat) (q1j : Nat) : Option (Nat × Nat × Nat × Nat × (List Nat) × (List Nat) × (List Nat) × (List Nat)) → Option (AV × List Blk)
  | some r => some ((AV.v (TV.agg [(At.sl 0 0 r.1 1), (At.sl 1 0 r.2.1 1), (At.sl 2 0 r.2.2.1 1), (At.sl 3 0 r.2.2.2.1 3), (At.int IntKind.i64 q1a), (At.flt FloatKind.f32 q1k), (At.flt FloatKind.f32 q1j)])), [(Blk.mk Bool.true (Body.fl FloatKind.f32 r.2.2.2.2.1)), (Blk.mk Bool.true (Body.fl FloatKind.f32 r.2.2.2.2.2.1)), (Blk.mk Bool.true (Body.fl FloatKind.f32 r.2.2.2.2.2.2.1)), (Blk.mk Bool.true (Body.fl FloatKind.f32 r.2.2.2.2.2.2.2))])
  | none => none
theorem zj1 (q0e : Nat) (q0h : List Nat) (q0g : Nat) (q0l : List Nat) (q0f : Nat) (q0k : List Nat) (q0n : Nat) (q0x : List Nat) (q1a : Int) (q1k : Nat) (q1j : Nat) : evFn Γ4 8 8 37 (impTs 0 [.agg [.row 1 q0e (.fl .f32 q0h), .row 1 q0g (.fl .f32 q0l), .row 1 q0f (.fl .f32 q0k), .row 3 q0n (.fl .f32 q0x), .s (.int .i64 q1a), .s (.flt .f32 q1k), .s (.flt .f32 q1j)]]).1 (impTs 0 [.agg [.row 1 q0e (.fl .f32 q0h), .row 1 q0g (.fl .f32 q0l), .row 1 q0f (.fl .f32 q0k), .row 3 q0n (.fl .f32 q0x), .s (.int .i64 q1a), .s (.flt .f32 q1k), .s (.flt .f32 q1j)]]).2 (expo (impTs 0 [.agg [.row 1 q0e (.fl .f32 q0h), .row 1 q0g (.fl .f32 q0l), .row 1 q0f (.fl .f32 q0k), .row 3 q0n (.fl .f32 q0x), .s (.int .i64 q1a), .s (.flt .f32 q1k), .s (.flt .f32 q1j)]]).2.length) = z97 q0e q0h q0g q0l q0f q0k q0n q0x q1a q1k q1j (fun c0_ c1_ c2_ c3_ c4_ c5_ c6_ c7_ => some ((AV.v (TV.agg [(At.sl 0 0 c0_ 1), (At.sl 1 0 c1_ 1), (At.sl 2 0 c2_ 1), (At.sl 3 0 c3_ 3), (At.int IntKind.i64 q1a), (At.flt FloatKind.f32 q1k), (At.flt FloatKind.f32 q1j)])), [(Blk.mk Bool.true (Body.fl FloatKind.f32 c4_)), (Blk.mk Bool.true (Body.fl FloatKind.f32 c5_)), (Blk.mk Bool.true (Body.fl FloatKind.f32 c6_)), (Blk.mk Bool.true (Body.fl FloatKind.f32 c7_))])) := by kernel_rfl
theorem z2s : SumOne Try.prog 37 z3a := sum_of (Γ := Γ4) (fuel := 8) (d := 8) tyTab_ok (FnL.ok fnTab_ok _ _) (LpL.ok lt4_ok) (SumL.ok tb4_ok _) mixed (by
  intro pts v news hp hc
  clear hc
  unfold z3a at hp
  split at hp
  · rename_i q0e q0h q0g q0l q0f q0k q0n q0x q1a q1k q1j
    exact Eq.trans (Eq.trans (zj1 q0e q0h q0g q0l q0f q0k q0n q0x q1a q1k q1j) (zh3 (zf9 q0e q0h q0g q0l q0f q0k q0n q0x q1a q1k q1j) rfl q0e q0h q0g q0l q0f q0k q0n q0x q1a q1k q1j (fun c0_ c1_ c2_ c3_ c4_ c5_ c6_ c7_ => some (c0_, c1_, c2_, c3_, c4_, c5_, c6_, c7_)))) (fin_out (o := (zf9 q0e q0h q0g q0l q0f q0k q0n q0x q1a q1k q1j)) (x := z5a q0e q0h q0g q0l q0f q0k q0n q0x q1a q1k q1j) (d := default) (V := fun r => ((AV.v (TV.agg [(At.sl 0 0 r.1 1), (At.sl 1 0 r.2.1 1), (At.sl 2 0 r.2.2.1 1), (At.sl 3 0 r.2.2.2.1 3), (At.int IntKind.i64 q1a), (At.flt FloatKind.f32 q1k), (At.flt FloatKind.f32 q1j)])), [(Blk.mk Bool.true (Body.fl FloatKind.f32 r.2.2.2.2.1)), (Blk.mk Bool.true (Body.fl FloatKind.f32 r.2.2.2.2.2.1)), (Blk.mk Bool.true (Body.fl FloatKind.f32 r.2.2.2.2.2.2.1)), (Blk.mk Bool.true (Body.fl FloatKind.f32 r.2.2.2.2.2.2.2))])) (fun r => rfl) hp)
  · cases hp)
noncomputable def z2r : List PT → Option (Bool × AV × List Blk)
  | [.agg [.row 1 q0t (.fl .f32 q18), .row 1 q0z (.fl .f32 q1b), .row 1 q12 (.fl .f32 q1f)], .agg [.row 1 q24 (.fl .f32 q2e), .row 1 q26 (.fl .f32 q2h), .row 1 q27 (.fl .f32 q2g)]] => some ((zc5 q0t q18 q0z q1b q12 q1f q24 q2e q26 q2h q27 q2g), ((AV.v (TV.one (At.bool (zb1 q0t q18 q0z q1b q12 q1f q24 q2e q26 q2h q27 q2g)))), []))
  | _ => none
def ze1 (q0t : Nat) (q18 : List Nat) (q0z : Nat) (q1b : List Nat) (q12 : Nat) (q1f : List Nat) (q24 : Nat) (q2e : List Nat) (q26 : Nat) (q2h : List Nat) (q27 : Nat) (q2g : List Nat) : Option (Bool) → Option (AV × List Blk)
  | some r => some ((AV.v (TV.one (At.bool r))), [])
  | none => none
theorem zi5 (q0t : Nat) (q18 : List Nat) (q0z : Nat) (q1b : List Nat) (q12 : Nat) (q1f : List Nat) (q24 : Nat) (q2e : List Nat) (q26 : Nat) (q2h : List Nat) (q27 : Nat) (q2g : List Nat) : evFn Γ4 8 8 44 (impTs 0 [.agg [.row 1 q0t (.fl .f32 q18), .row 1 q0z (.fl .f32 q1b), .row 1 q12 (.fl .f32 q1f)], .agg [.row 1 q24 (.fl .f32 q2e), .row 1 q26 (.fl .f32 q2h), .row 1 q27 (.fl .f32 q2g)]]).1 (impTs 0 [.agg [.row 1 q0t (.fl .f32 q18), .row 1 q0z (.fl .f32 q1b), .row 1 q12 (.fl .f32 q1f)], .agg [.row 1 q24 (.fl .f32 q2e), .row 1 q26 (.fl .f32 q2h), .row 1 q27 (.fl .f32 q2g)]]).2 (expo (impTs 0 [.agg [.row 1 q0t (.fl .f32 q18), .row 1 q0z (.fl .f32 q1b), .row 1 q12 (.fl .f32 q1f)], .agg [.row 1 q24 (.fl .f32 q2e), .row 1 q26 (.fl .f32 q2h), .row 1 q27 (.fl .f32 q2g)]]).2.length) = z84 q0t q18 q0z q1b q12 q1f q24 q2e q26 q2h q27 q2g (fun c0_ => some ((AV.v (TV.one (At.bool c0_))), [])) := by kernel_rfl
theorem z22 : SumOne Try.prog 44 z2r := sum_of (Γ := Γ4) (fuel := 8) (d := 8) tyTab_ok (FnL.ok fnTab_ok _ _) (LpL.ok lt4_ok) (SumL.ok tb4_ok _) mixed (by
  intro pts v news hp hc
  clear hc
  unfold z2r at hp
  split at hp
  · rename_i q0t q18 q0z q1b q12 q1f q24 q2e q26 q2h q27 q2g
    exact Eq.trans (Eq.trans (zi5 q0t q18 q0z q1b q12 q1f q24 q2e q26 q2h q27 q2g) (zgf (ze1 q0t q18 q0z q1b q12 q1f q24 q2e q26 q2h q27 q2g) rfl q0t q18 q0z q1b q12 q1f q24 q2e q26 q2h q27 q2g (fun c0_ => some c0_))) (fin_out (o := (ze1 q0t q18 q0z q1b q12 q1f q24 q2e q26 q2h q27 q2g)) (x := z80 q0t q18 q0z q1b q12 q1f q24 q2e q26 q2h q27 q2g) (d := default) (V := fun r => ((AV.v (TV.one (At.bool r))), [])) (fun r => rfl) hp)
  · cases hp)
noncomputable def z2e : List PT → Option (Bool × AV × List Blk)
  | [.one (.row 3 a_n (.fl .f32 a)), .one (.row 3 b_n (.fl .f32 b))] => some ((zb0 a_n a b_n b), ((AV.v (TV.one (At.bool (za0 a_n a b_n b)))), []))
  | _ => none
def zdo (a_n : Nat) (a : List Nat) (b_n : Nat) (b : List Nat) : Option (Bool) → Option (AV × List Blk)
  | some r => some ((AV.v (TV.one (At.bool r))), [])
  | none => none
theorem zhk (a_n : Nat) (a : List Nat) (b_n : Nat) (b : List Nat) : evFn Γ4 8 8 89 (impTs 0 [.one (.row 3 a_n (.fl .f32 a)), .one (.row 3 b_n (.fl .f32 b))]).1 (impTs 0 [.one (.row 3 a_n (.fl .f32 a)), .one (.row 3 b_n (.fl .f32 b))]).2 (expo (impTs 0 [.one (.row 3 a_n (.fl .f32 a)), .one (.row 3 b_n (.fl .f32 b))]).2.length) = z7l a_n a b_n b (fun c0_ => some ((AV.v (TV.one (At.bool c0_))), [])) := by kernel_rfl
theorem z1q : SumOne Try.prog 89 z2e := sum_of (Γ := Γ4) (fuel := 8) (d := 8) tyTab_ok (FnL.ok fnTab_ok _ _) (LpL.ok lt4_ok) (SumL.ok tb4_ok _) mixed (by
  intro pts v news hp hc
  clear hc
  unfold z2e at hp
  split at hp
  · rename_i a_n a b_n b
    exact Eq.trans (Eq.trans (zhk a_n a b_n b) (zfc (zdo a_n a b_n b) rfl a_n a b_n b (fun c0_ => some c0_))) (fin_out (o := (zdo a_n a b_n b)) (x := z7c a_n a b_n b) (d := default) (V := fun r => ((AV.v (TV.one (At.bool r))), [])) (fun r => rfl) hp)
  · cases hp)
noncomputable def z3p : List PT → Option (Bool × AV × List Blk)
  | [.ptr [.row 1 q0y (.fl .f32 q19), .row 1 q17 (.fl .f32 q1c), .row 1 q14 (.fl .f32 q1e)]] => some ((zda q0y q19 q17 q1c q14 q1e), ((AV.v (TV.one (At.bool (zd6 q0y q19 q17 q1c q14 q1e)))), []))
  | _ => none
def zh7 (q0y : Nat) (q19 : List Nat) (q17 : Nat) (q1c : List Nat) (q14 : Nat) (q1e : List Nat) : Option (Bool) → Option (AV × List Blk)
  | some r => some ((AV.v (TV.one (At.bool r))), [])
  | none => none
theorem zj7 (q0y : Nat) (q19 : List Nat) (q17 : Nat) (q1c : List Nat) (q14 : Nat) (q1e : List Nat) : evFn Γ4 8 8 90 (impTs 0 [.ptr [.row 1 q0y (.fl .f32 q19), .row 1 q17 (.fl .f32 q1c), .row 1 q14 (.fl .f32 q1e)]]).1 (impTs 0 [.ptr [.row 1 q0y (.fl .f32 q19), .row 1 q17 (.fl .f32 q1c), .row 1 q14 (.fl .f32 q1e)]]).2 (expo (impTs 0 [.ptr [.row 1 q0y (.fl .f32 q19), .row 1 q17 (.fl .f32 q1c), .row 1 q14 (.fl .f32 q1e)]]).2.length) = zbl q0y q19 q17 q1c q14 q1e (fun c0_ => some ((AV.v (TV.one (At.bool c0_))), [])) := by kernel_rfl
theorem z39 : SumOne Try.prog 90 z3p := sum_of (Γ := Γ4) (fuel := 8) (d := 8) tyTab_ok (FnL.ok fnTab_ok _ _) (LpL.ok lt4_ok) (SumL.ok tb4_ok _) mixed (by
  intro pts v news hp hc
  clear hc
  unfold z3p at hp
  split at hp
  · rename_i q0y q19 q17 q1c q14 q1e
    exact Eq.trans (Eq.trans (zj7 q0y q19 q17 q1c q14 q1e) (zih (zh7 q0y q19 q17 q1c q14 q1e) rfl q0y q19 q17 q1c q14 q1e (fun c0_ => some c0_))) (fin_out (o := (zh7 q0y q19 q17 q1c q14 q1e)) (x := zbi q0y q19 q17 q1c q14 q1e) (d := default) (V := fun r => ((AV.v (TV.one (At.bool r))), [])) (fun r => rfl) hp)
  · cases hp)
noncomputable def z0d : List PT → Option (Bool × AV × List Blk)
  | [.one (.row 1 s_n (.fl .f32 s)), .fn 111 []] => some ((z5b s_n s), ((AV.v (TV.one (At.int IntKind.i64 (z58 s_n s)))), []))
  | _ => none
def z7w (s_n : Nat) (s : List Nat) : Option (Int) → Option (AV × List Blk)
  | some r => some ((AV.v (TV.one (At.int IntKind.i64 r))), [])
  | none => none
theorem zch (s_n : Nat) (s : List Nat) : evFn Γ4 8 8 125 (impTs 0 [.one (.row 1 s_n (.fl .f32 s)), .fn 111 []]).1 (impTs 0 [.one (.row 1 s_n (.fl .f32 s)), .fn 111 []]).2 (expo (impTs 0 [.one (.row 1 s_n (.fl .f32 s)), .fn 111 []]).2.length) = z4b s_n s (fun c0_ => some ((AV.v (TV.one (At.int IntKind.i64 c0_))), [])) := by kernel_rfl
theorem z0b : SumOne Try.prog 125 z0d := sum_of (Γ := Γ4) (fuel := 8) (d := 8) tyTab_ok (FnL.ok fnTab_ok _ _) (LpL.ok lt4_ok) (SumL.ok tb4_ok _) mixed (by
  intro pts v news hp hc
  clear hc
  unfold z0d at hp
  split at hp
  · rename_i s_n s
    exact Eq.trans (Eq.trans (zch s_n s) (zaw (z7w s_n s) rfl s_n s (fun c0_ => some c0_))) (fin_out (o := (z7w s_n s)) (x := z4a s_n s) (d := default) (V := fun r => ((AV.v (TV.one (At.int IntKind.i64 r))), [])) (fun r => rfl) hp)
  · cases hp)
noncomputable def z09 : List PT → Option (Bool × AV × List Blk)
  | [.one (.row 1 s_n (.fl .f32 s)), .fn 120 []] => some ((z52 s_n s), ((AV.v (TV.one (At.int IntKind.i64 (z4y s_n s)))), []))
  | _ => none
def z71 (s_n : Nat) (s : List Nat) : Option (Int) → Option (AV × List Blk)
  | some r => some ((AV.v (TV.one (At.int IntKind.i64 r))), [])
  | none => none
theorem zc0 (s_n : Nat) (s : List Nat) : evFn Γ4 8 8 125 (impTs 0 [.one (.row 1 s_n (.fl .f32 s)), .fn 120 []]).1 (impTs 0 [.one (.row 1 s_n (.fl .f32 s)), .fn 120 []]).2 (expo (impTs 0 [.one (.row 1 s_n (.fl .f32 s)), .fn 120 []]).2.length) = z45 s_n s (fun c0_ => some ((AV.v (TV.one (At.int IntKind.i64 c0_))), [])) := by kernel_rfl
theorem z06 : SumOne Try.prog 125 z09 := sum_of (Γ := Γ4) (fuel := 8) (d := 8) tyTab_ok (FnL.ok fnTab_ok _ _) (LpL.ok lt4_ok) (SumL.ok tb4_ok _) mixed (by
  intro pts v news hp hc
  clear hc
  unfold z09 at hp
  split at hp
  · rename_i s_n s
    exact Eq.trans (Eq.trans (zc0 s_n s) (za2 (z71 s_n s) rfl s_n s (fun c0_ => some c0_))) (fin_out (o := (z71 s_n s)) (x := z47 s_n s) (d := default) (V := fun r => ((AV.v (TV.one (At.int IntKind.i64 r))), [])) (fun r => rfl) hp)
  · cases hp)
noncomputable def z08 : Nat → St → Option (Bool × LO)
  | 1, (St.mk [(0, (AV.v (TV.one (At.vw 0 0 sn 1)))), (1, (AV.v (TV.one (At.fn 126 [])))), (7, (AV.v (TV.one (At.int IntKind.i64 t7)))), (8, (AV.v (TV.one (At.int IntKind.i64 t8))))] [(Blk.mk Bool.false (Body.fl FloatKind.f32 b0))]) => some ((z48 sn t7 b0 t8), (LO.two (z41 sn t7 b0 t8) (LO.one Ex.ret (St.mk [(4, (AV.v (TV.one (At.int IntKind.i64 (z4v sn t7 b0 t8)))))] [(Blk.mk Bool.false (Body.fl FloatKind.f32 b0))])) (LO.one (Ex.exit 0) (St.mk [(0, (AV.v (TV.one (At.vw 0 0 sn 1)))), (1, (AV.v (TV.one (At.fn 126 [])))), (7, (AV.v (TV.one (At.int IntKind.i64 t7)))), (8, (AV.v (TV.one (At.int IntKind.i64 (z5p sn t7 b0 t8))))), (9, (AV.v (TV.one (At.bool (z5o sn t7 b0 t8)))))] [(Blk.mk Bool.false (Body.fl FloatKind.f32 b0))]))))
  | _, _ => none
def z4o (sn : Nat) (t7 : Int) (b0 : List Nat) : Option ((Int) ⊕ (Int × Bool)) → Option (Ex × St)
  | none => none
  | some (Sum.inl r) => some (Ex.ret, (St.mk [(4, (AV.v (TV.one (At.int IntKind.i64 r))))] [(Blk.mk Bool.false (Body.fl FloatKind.f32 b0))]))
  | some (Sum.inr r) => some ((Ex.exit 0), (St.mk [(0, (AV.v (TV.one (At.vw 0 0 sn 1)))), (1, (AV.v (TV.one (At.fn 126 [])))), (7, (AV.v (TV.one (At.int IntKind.i64 t7)))), (8, (AV.v (TV.one (At.int IntKind.i64 r.1)))), (9, (AV.v (TV.one (At.bool r.2))))] [(Blk.mk Bool.false (Body.fl FloatKind.f32 b0))]))
def zbv (sn : Nat) (t7 : Int) (b0 : List Nat) (x : Option ((Int) ⊕ (Int × Bool))) : LO := (LO.two (oL x) (LO.one Ex.ret (St.mk [(4, (AV.v (TV.one (At.int IntKind.i64 ((tL x).getD default)))))] [(Blk.mk Bool.false (Body.fl FloatKind.f32 b0))])) (LO.one (Ex.exit 0) (St.mk [(0, (AV.v (TV.one (At.vw 0 0 sn 1)))), (1, (AV.v (TV.one (At.fn 126 [])))), (7, (AV.v (TV.one (At.int IntKind.i64 t7)))), (8, (AV.v (TV.one (At.int IntKind.i64 ((tR x).getD default).1)))), (9, (AV.v (TV.one (At.bool ((tR x).getD default).2))))] [(Blk.mk Bool.false (Body.fl FloatKind.f32 b0))])))
theorem zc2 (sn : Nat) (t7 : Int) (b0 : List Nat) : ∀ x : Option ((Int) ⊕ (Int × Bool)), x.isSome = true → (z4o sn t7 b0) x = some (pick (zbv sn t7 b0 x))
  | none, h => by cases h
  | some (Sum.inl r), _ => rfl
  | some (Sum.inr r), _ => rfl
theorem zbz (sn : Nat) (t7 : Int) (t8 : Int) (b0 : List Nat) (K : Ex → St → Option (Ex × St)) : evC (R := Ex × St) Γ4 (evFn Γ4 8 8) 125 1 fi125.nt fi125.live fi125.nl 8 (findL 2 (loopsIn fi125.code)) (St.mk [(0, (AV.v (TV.one (At.vw 0 0 sn 1)))), (1, (AV.v (TV.one (At.fn 126 [])))), (7, (AV.v (TV.one (At.int IntKind.i64 t7)))), (8, (AV.v (TV.one (At.int IntKind.i64 t8))))] [(Blk.mk Bool.false (Body.fl FloatKind.f32 b0))]) K = z3n sn t7 b0 t8 (fun t8' => K .normal (St.mk [(0, (AV.v (TV.one (At.vw 0 0 sn 1)))), (1, (AV.v (TV.one (At.fn 126 [])))), (7, (AV.v (TV.one (At.int IntKind.i64 t7)))), (8, (AV.v (TV.one (At.int IntKind.i64 t8'))))] [(Blk.mk Bool.false (Body.fl FloatKind.f32 b0))])) (fun c0_ => K Ex.ret (St.mk [(4, (AV.v (TV.one (At.int IntKind.i64 c0_))))] [(Blk.mk Bool.false (Body.fl FloatKind.f32 b0))])) (fun c0_ c1_ => K (Ex.exit 0) (St.mk [(0, (AV.v (TV.one (At.vw 0 0 sn 1)))), (1, (AV.v (TV.one (At.fn 126 [])))), (7, (AV.v (TV.one (At.int IntKind.i64 t7)))), (8, (AV.v (TV.one (At.int IntKind.i64 c0_)))), (9, (AV.v (TV.one (At.bool c1_))))] [(Blk.mk Bool.false (Body.fl FloatKind.f32 b0))])) := by kernel_rfl
theorem zc1 (sn : Nat) (t7 : Int) (b0 : List Nat) : ∀ (n : Nat) (t8 : Int), iter 125 2 1 (evC (R := Ex × St) Γ4 (evFn Γ4 8 8) 125 1 fi125.nt fi125.live fi125.nl 8 (findL 2 (loopsIn fi125.code))) n (St.mk [(0, (AV.v (TV.one (At.vw 0 0 sn 1)))), (1, (AV.v (TV.one (At.fn 126 [])))), (7, (AV.v (TV.one (At.int IntKind.i64 t7)))), (8, (AV.v (TV.one (At.int IntKind.i64 t8))))] [(Blk.mk Bool.false (Body.fl FloatKind.f32 b0))]) (fun e st => some (e, st)) = (z4o sn t7 b0) (z1s sn t7 b0 n t8) := by
  intro n
  induction n with
  | zero => intros; rfl
  | succ n ih =>
    intro t8
    refine Eq.trans (iter_succ ..) (Eq.trans (zbz sn t7 t8 b0 (nextK 125 2 1 (evC (R := Ex × St) Γ4 (evFn Γ4 8 8) 125 1 fi125.nt fi125.live fi125.nl 8 (findL 2 (loopsIn fi125.code))) n (fun e st => some (e, st)))) (Eq.trans ?_ (zaa (z4o sn t7 b0) rfl sn t7 b0 t8 (fun t8' => z1s sn t7 b0 n t8') (fun c0_ => some (Sum.inl c0_)) (fun c0_ c1_ => some (Sum.inr (c0_, c1_))))))
    exact congrArg (fun kn_ => z3n sn t7 b0 t8 kn_ (fun c0_ => (z4o sn t7 b0) (some (Sum.inl c0_))) (fun c0_ c1_ => (z4o sn t7 b0) (some (Sum.inr (c0_, c1_))))) (funext fun t8' => ih t8')
theorem z05 : LoopOne Try.prog fnTab 125 2 z08 := lp_of (Γ := Γ4) tyTab_ok (FnL.ok fnTab_ok _ _) (LpL.ok lt4_ok) (SumL.ok tb4_ok _) mixed (fi := fi125) (by kernel_rfl) (by kernel_rfl) (by
  intro lo st out hp
  unfold z08 at hp
  split at hp
  · rename_i sn t7 t8 b0
    injection hp with hp
    injection hp with h1 h2
    subst h2
    exact ⟨8, 8, big, Eq.trans (zc1 sn t7 b0 big t8) (zc2 sn t7 b0 (z1s sn t7 b0 big t8) h1)⟩
  · cases hp)
noncomputable def tb5 : List (Nat × (List PT → Option (Bool × AV × List Blk))) := [(129, z13), (133, z0l), (137, z14), (139, z1v), (25, z20), (59, z3d), (64, z21), (66, z35), (68, z2g), (70, z1p), (78, z2h), (82, z1o), (106, z17), (108, z0p), (115, z1z), (40, z2b), (58, z2n), (67, z30), (77, z31), (101, z2o), (102, z29), (107, z0m), (111, z1f), (118, z28), (120, z0x), (35, z34), (74, z1y), (126, z1x), (18, z24), (42, z2k), (84, z27), (37, z3a), (44, z2r), (89, z2e), (90, z3p), (125, z0d), (125, z09)]
noncomputable def lt5 : List ((Nat × Nat) × (Nat → St → Option (Bool × LO))) := [((74, 3), z0w), ((18, 4), z11), ((84, 3), z10), ((89, 4), z16), ((90, 5), z2x), ((125, 2), z03), ((125, 2), z01), ((125, 2), z08)]
noncomputable def Γ5 : Ctx := ⟨tyTab, fnTab, tblSum tb5, tblLp lt5⟩
theorem tb5_ok : SumL Try.prog tb5 := SumL.cons z0t (SumL.cons z0i (SumL.cons z0s (SumL.cons z15 (SumL.cons z1a (SumL.cons z2t (SumL.cons z18 (SumL.cons z2f (SumL.cons z1n (SumL.cons z0z (SumL.cons z1m (SumL.cons z12 (SumL.cons z0v (SumL.cons z0k (SumL.cons z19 (SumL.cons z1i (SumL.cons z1t (SumL.cons z26 (SumL.cons z25 (SumL.cons z1u (SumL.cons z1h (SumL.cons z0j (SumL.cons z0y (SumL.cons z1g (SumL.cons z0n (SumL.cons z2d (SumL.cons z1c (SumL.cons z1b (SumL.cons z1j (SumL.cons z1w (SumL.cons z1k (SumL.cons z2s (SumL.cons z22 (SumL.cons z1q (SumL.cons z39 (SumL.cons z0b (SumL.cons z06 (SumL.nil)))))))))))))))))))))))))))))))))))))
theorem lt5_ok : LpL Try.prog fnTab lt5 := LpL.cons z0o (LpL.cons z0r (LpL.cons z0q (LpL.cons z0u (LpL.cons z2a (LpL.cons z02 (LpL.cons z00 (LpL.cons z05 (LpL.nil))))))))
noncomputable def z3c : List PT → Option (Bool × AV × List Blk)
  | [.agg [.row 1 q0e (.fl .f32 q0h), .row 1 q0g (.fl .f32 q0l), .row 1 q0f (.fl .f32 q0k), .row 3 q0n (.fl .f32 q0x), .s (.int .i64 q1a), .s (.flt .f32 q1k), .s (.flt .f32 q1j)], .agg [.row 1 q1l (.fl .f32 q1r), .row 1 q1o (.fl .f32 q1w), .row 1 q1n (.fl .f32 q1u), .row 3 q21 (.fl .f32 q25), .s (.int .i64 q2j), .s (.flt .f32 q2m), .s (.flt .f32 q2n)]] => some ((zbk q0e q0h q0g q0l q0f q0k q0n q0x q1a q1k q1j q1l q1r q1o q1w q1n q1u q21 q25 q2j q2m q2n), ((AV.v (TV.one (At.bool (zac q0e q0h q0g q0l q0f q0k q0n q0x q1a q1k q1j q1l q1r q1o q1w q1n q1u q21 q25 q2j q2m q2n)))), []))
  | _ => none
def zfb (q0e : Nat) (q0h : List Nat) (q0g : Nat) (q0l : List Nat) (q0f : Nat) (q0k : List Nat) (q0n : Nat) (q0x : List Nat) (q1a : Int) (q1k : Nat) (q1j : Nat) (q1l : Nat) (q1r : List Nat) (q1o : Nat) (q1w : List Nat) (q1n : Nat) (q1u : List Nat) (q21 : Nat) (q25 : List Nat) (q2j : Int) (q2m : Nat) (q2n : Nat) : Option (Bool) → Option (AV × List Blk)
  | some r => some ((AV.v (TV.one (At.bool r))), [])
  | none => none
theorem ziz (q0e : Nat) (q0h : List Nat) (q0g : Nat) (q0l : List Nat) (q0f : Nat) (q0k : List Nat) (q0n : Nat) (q0x : List Nat) (q1a : Int) (q1k : Nat) (q1j : Nat) (q1l : Nat) (q1r : List Nat) (q1o : Nat) (q1w : List Nat) (q1n : Nat) (q1u : List Nat) (q21 : Nat) (q25 : List Nat) (q2j : Int) (q2m : Nat) (q2n : Nat) : evFn Γ5 8 8 39 (impTs 0 [.agg [.row 1 q0e (.fl .f32 q0h), .row 1 q0g (.fl .f32 q0l), .row 1 q0f (.fl .f32 q0k), .row 3 q0n (.fl .f32 q0x), .s (.int .i64 q1a), .s (.flt .f32 q1k), .s (.flt .f32 q1j)], .agg [.row 1 q1l (.fl .f32 q1r), .row 1 q1o (.fl .f32 q1w), .row 1 q1n (.fl .f32 q1u), .row 3 q21 (.fl .f32 q25), .s (.int .i64 q2j), .s (.flt .f32 q2m), .s (.flt .f32 q2n)]]).1 (impTs 0 [.agg [.row 1 q0e (.fl .f32 q0h), .row 1 q0g (.fl .f32 q0l), .row 1 q0f (.fl .f32 q0k), .row 3 q0n (.fl .f32 q0x), .s (.int .i64 q1a), .s (.flt .f32 q1k), .s (.flt .f32 q1j)], .agg [.row 1 q1l (.fl .f32 q1r), .row 1 q1o (.fl .f32 q1w), .row 1 q1n (.fl .f32 q1u), .row 3 q21 (.fl .f32 q25), .s (.int .i64 q2j), .s (.flt .f32 q2m), .s (.flt .f32 q2n)]]).2 (expo (impTs 0 [.agg [.row 1 q0e (.fl .f32 q0h), .row 1 q0g (.fl .f32 q0l), .row 1 q0f (.fl .f32 q0k), .row 3 q0n (.fl .f32 q0x), .s (.int .i64 q1a), .s (.flt .f32 q1k), .s (.flt .f32 q1j)], .agg [.row 1 q1l (.fl .f32 q1r), .row 1 q1o (.fl .f32 q1w), .row 1 q1n (.fl .f32 q1u), .row 3 q21 (.fl .f32 q25), .s (.int .i64 q2j), .s (.flt .f32 q2m), .s (.flt .f32 q2n)]]).2.length) = z94 q0e q0h q0g q0l q0f q0k q0n q0x q1a q1k q1j q1l q1r q1o q1w q1n q1u q21 q25 q2j q2m q2n (fun c0_ => some ((AV.v (TV.one (At.bool c0_))), [])) := by kernel_rfl
theorem z2y : SumOne Try.prog 39 z3c := sum_of (Γ := Γ5) (fuel := 8) (d := 8) tyTab_ok (FnL.ok fnTab_ok _ _) (LpL.ok lt5_ok) (SumL.ok tb5_ok _) mixed (by
  intro pts v news hp hc
  clear hc
  unfold z3c at hp
  split at hp
  · rename_i q0e q0h q0g q0l q0f q0k q0n q0x q1a q1k q1j q1l q1r q1o q1w q1n q1u q21 q25 q2j q2m q2n
    exact Eq.trans (Eq.trans (ziz q0e q0h q0g q0l q0f q0k q0n q0x q1a q1k q1j q1l q1r q1o q1w q1n q1u q21 q25 q2j q2m q2n) (zh0 (zfb q0e q0h q0g q0l q0f q0k q0n q0x q1a q1k q1j q1l q1r q1o q1w q1n q1u q21 q25 q2j q2m q2n) rfl q0e q0h q0g q0l q0f q0k q0n q0x q1a q1k q1j q1l q1r q1o q1w q1n q1u q21 q25 q2j q2m q2n (fun c0_ => some c0_))) (fin_out (o := (zfb q0e q0h q0g q0l q0f q0k q0n q0x q1a q1k q1j q1l q1r q1o q1w q1n q1u q21 q25 q2j q2m q2n)) (x := z95 q0e q0h q0g q0l q0f q0k q0n q0x q1a q1k q1j q1l q1r q1o q1w q1n q1u q21 q25 q2j q2m q2n) (d := default) (V := fun r => ((AV.v (TV.one (At.bool r))), [])) (fun r => rfl) hp)
  · cases hp)
noncomputable def z0h : List PT → Option (Bool × AV × List Blk)
  | [.one (.row 1 s_n (.fl .f32 s)), .fn 126 []] => some ((z5e s_n s), ((AV.v (TV.one (At.int IntKind.i64 (z5c s_n s)))), []))
  | _ => none
def z7z (s_n : Nat) (s : List Nat) : Option (Int) → Option (AV × List Blk)
  | some r => some ((AV.v (TV.one (At.int IntKind.i64 r))), [])
  | none => none
theorem zci (s_n : Nat) (s : List Nat) : evFn Γ5 8 8 125 (impTs 0 [.one (.row 1 s_n (.fl .f32 s)), .fn 126 []]).1 (impTs 0 [.one (.row 1 s_n (.fl .f32 s)), .fn 126 []]).2 (expo (impTs 0 [.one (.row 1 s_n (.fl .f32 s)), .fn 126 []]).2.length) = z4d s_n s (fun c0_ => some ((AV.v (TV.one (At.int IntKind.i64 c0_))), [])) := by kernel_rfl
theorem z0g : SumOne Try.prog 125 z0h := sum_of (Γ := Γ5) (fuel := 8) (d := 8) tyTab_ok (FnL.ok fnTab_ok _ _) (LpL.ok lt5_ok) (SumL.ok tb5_ok _) mixed (by
  intro pts v news hp hc
  clear hc
  unfold z0h at hp
  split at hp
  · rename_i s_n s
    exact Eq.trans (Eq.trans (zci s_n s) (zbn (z7z s_n s) rfl s_n s (fun c0_ => some c0_))) (fin_out (o := (z7z s_n s)) (x := z4e s_n s) (d := default) (V := fun r => ((AV.v (TV.one (At.int IntKind.i64 r))), [])) (fun r => rfl) hp)
  · cases hp)
noncomputable def tb6 : List (Nat × (List PT → Option (Bool × AV × List Blk))) := [(129, z13), (133, z0l), (137, z14), (139, z1v), (25, z20), (59, z3d), (64, z21), (66, z35), (68, z2g), (70, z1p), (78, z2h), (82, z1o), (106, z17), (108, z0p), (115, z1z), (40, z2b), (58, z2n), (67, z30), (77, z31), (101, z2o), (102, z29), (107, z0m), (111, z1f), (118, z28), (120, z0x), (35, z34), (74, z1y), (126, z1x), (18, z24), (42, z2k), (84, z27), (37, z3a), (44, z2r), (89, z2e), (90, z3p), (125, z0d), (125, z09), (39, z3c), (125, z0h)]
noncomputable def lt6 : List ((Nat × Nat) × (Nat → St → Option (Bool × LO))) := [((74, 3), z0w), ((18, 4), z11), ((84, 3), z10), ((89, 4), z16), ((90, 5), z2x), ((125, 2), z03), ((125, 2), z01), ((125, 2), z08)]
noncomputable def Γ6 : Ctx := ⟨tyTab, fnTab, tblSum tb6, tblLp lt6⟩
theorem tb6_ok : SumL Try.prog tb6 := SumL.cons z0t (SumL.cons z0i (SumL.cons z0s (SumL.cons z15 (SumL.cons z1a (SumL.cons z2t (SumL.cons z18 (SumL.cons z2f (SumL.cons z1n (SumL.cons z0z (SumL.cons z1m (SumL.cons z12 (SumL.cons z0v (SumL.cons z0k (SumL.cons z19 (SumL.cons z1i (SumL.cons z1t (SumL.cons z26 (SumL.cons z25 (SumL.cons z1u (SumL.cons z1h (SumL.cons z0j (SumL.cons z0y (SumL.cons z1g (SumL.cons z0n (SumL.cons z2d (SumL.cons z1c (SumL.cons z1b (SumL.cons z1j (SumL.cons z1w (SumL.cons z1k (SumL.cons z2s (SumL.cons z22 (SumL.cons z1q (SumL.cons z39 (SumL.cons z0b (SumL.cons z06 (SumL.cons z2y (SumL.cons z0g (SumL.nil)))))))))))))))))))))))))))))))))))))))
theorem lt6_ok : LpL Try.prog fnTab lt6 := LpL.cons z0o (LpL.cons z0r (LpL.cons z0q (LpL.cons z0u (LpL.cons z2a (LpL.cons z02 (LpL.cons z00 (LpL.cons z05 (LpL.nil))))))))
noncomputable def z0c : List PT → Option (Bool × AV × List Blk)
  | [.one (.row 1 s_n (.fl .f32 s)), .fn 111 []] => some ((z4z s_n s), ((AV.v (TV.one (At.bool (z4w s_n s)))), []))
  | _ => none
def z6w (s_n : Nat) (s : List Nat) : Option (Bool) → Option (AV × List Blk)
  | some r => some ((AV.v (TV.one (At.bool r))), [])
  | none => none
theorem zbw (s_n : Nat) (s : List Nat) : evFn Γ6 8 8 110 (impTs 0 [.one (.row 1 s_n (.fl .f32 s)), .fn 111 []]).1 (impTs 0 [.one (.row 1 s_n (.fl .f32 s)), .fn 111 []]).2 (expo (impTs 0 [.one (.row 1 s_n (.fl .f32 s)), .fn 111 []]).2.length) = z40 s_n s (fun c0_ => some ((AV.v (TV.one (At.bool c0_))), [])) := by kernel_rfl
theorem z0a : SumOne Try.prog 110 z0c := sum_of (Γ := Γ6) (fuel := 8) (d := 8) tyTab_ok (FnL.ok fnTab_ok _ _) (LpL.ok lt6_ok) (SumL.ok tb6_ok _) mixed (by
  intro pts v news hp hc
  clear hc
  unfold z0c at hp
  split at hp
  · rename_i s_n s
    exact Eq.trans (Eq.trans (zbw s_n s) (z9l (z6w s_n s) rfl s_n s (fun c0_ => some c0_))) (fin_out (o := (z6w s_n s)) (x := z42 s_n s) (d := default) (V := fun r => ((AV.v (TV.one (At.bool r))), [])) (fun r => rfl) hp)
  · cases hp)
noncomputable def z04 : List PT → Option (Bool × AV × List Blk)
  | [.one (.row 1 s_n (.fl .f32 s)), .fn 120 []] => some ((z4u s_n s), ((AV.v (TV.one (At.bool (z4q s_n s)))), []))
  | _ => none
def z6n (s_n : Nat) (s : List Nat) : Option (Bool) → Option (AV × List Blk)
  | some r => some ((AV.v (TV.one (At.bool r))), [])
  | none => none
theorem zam (s_n : Nat) (s : List Nat) : evFn Γ6 8 8 110 (impTs 0 [.one (.row 1 s_n (.fl .f32 s)), .fn 120 []]).1 (impTs 0 [.one (.row 1 s_n (.fl .f32 s)), .fn 120 []]).2 (expo (impTs 0 [.one (.row 1 s_n (.fl .f32 s)), .fn 120 []]).2.length) = z3w s_n s (fun c0_ => some ((AV.v (TV.one (At.bool c0_))), [])) := by kernel_rfl
theorem z07 : SumOne Try.prog 110 z04 := sum_of (Γ := Γ6) (fuel := 8) (d := 8) tyTab_ok (FnL.ok fnTab_ok _ _) (LpL.ok lt6_ok) (SumL.ok tb6_ok _) mixed (by
  intro pts v news hp hc
  clear hc
  unfold z04 at hp
  split at hp
  · rename_i s_n s
    exact Eq.trans (Eq.trans (zam s_n s) (z9d (z6n s_n s) rfl s_n s (fun c0_ => some c0_))) (fin_out (o := (z6n s_n s)) (x := z3x s_n s) (d := default) (V := fun r => ((AV.v (TV.one (At.bool r))), [])) (fun r => rfl) hp)
  · cases hp)
noncomputable def z0f : List PT → Option (Bool × AV × List Blk)
  | [.one (.row 1 s_n (.fl .f32 s)), .fn 126 []] => some ((z53 s_n s), ((AV.v (TV.one (At.bool (z4x s_n s)))), []))
  | _ => none
def z72 (s_n : Nat) (s : List Nat) : Option (Bool) → Option (AV × List Blk)
  | some r => some ((AV.v (TV.one (At.bool r))), [])
  | none => none
theorem zby (s_n : Nat) (s : List Nat) : evFn Γ6 8 8 110 (impTs 0 [.one (.row 1 s_n (.fl .f32 s)), .fn 126 []]).1 (impTs 0 [.one (.row 1 s_n (.fl .f32 s)), .fn 126 []]).2 (expo (impTs 0 [.one (.row 1 s_n (.fl .f32 s)), .fn 126 []]).2.length) = z49 s_n s (fun c0_ => some ((AV.v (TV.one (At.bool c0_))), [])) := by kernel_rfl
theorem z0e : SumOne Try.prog 110 z0f := sum_of (Γ := Γ6) (fuel := 8) (d := 8) tyTab_ok (FnL.ok fnTab_ok _ _) (LpL.ok lt6_ok) (SumL.ok tb6_ok _) mixed (by
  intro pts v news hp hc
  clear hc
  unfold z0f at hp
  split at hp
  · rename_i s_n s
    exact Eq.trans (Eq.trans (zby s_n s) (za5 (z72 s_n s) rfl s_n s (fun c0_ => some c0_))) (fin_out (o := (z72 s_n s)) (x := z46 s_n s) (d := default) (V := fun r => ((AV.v (TV.one (At.bool r))), [])) (fun r => rfl) hp)
  · cases hp)
noncomputable def z38 : Nat → St → Option (Bool × LO)
  | 5, (St.mk [(0, (AV.v (TV.one (At.ptr 4 0 7)))), (4, (AV.v (TV.one (At.flt FloatKind.f32 t4)))), (57, (AV.v (TV.one (At.int IntKind.i64 t57)))), (58, (AV.v (TV.one (At.int IntKind.i64 t58))))] [(Blk.mk Bool.false (Body.fl FloatKind.f32 b0)), (Blk.mk Bool.false (Body.fl FloatKind.f32 b1)), (Blk.mk Bool.false (Body.fl FloatKind.f32 b2)), (Blk.mk Bool.false (Body.fl FloatKind.f32 b3)), (Blk.mk Bool.false (Body.cells [(At.vw 0 0 q2b 1), (At.vw 1 0 q2c 1), (At.vw 2 0 q2a 1), (At.vw 3 0 q1s 3), (At.int IntKind.i64 q2k), (At.flt FloatKind.f32 q2l), (At.flt FloatKind.f32 q1p)]))]) => some ((z75 t57 b3 q1s q1p t4 t58), (LO.two (z6p t57 b3 q1s q1p t4 t58) (LO.one Ex.ret (St.mk [(2, (AV.v (TV.one (At.bool Bool.false))))] [(Blk.mk Bool.false (Body.fl FloatKind.f32 b0)), (Blk.mk Bool.false (Body.fl FloatKind.f32 b1)), (Blk.mk Bool.false (Body.fl FloatKind.f32 b2)), (Blk.mk Bool.false (Body.fl FloatKind.f32 b3)), (Blk.mk Bool.false (Body.cells [(At.vw 0 0 q2b 1), (At.vw 1 0 q2c 1), (At.vw 2 0 q2a 1), (At.vw 3 0 q1s 3), (At.int IntKind.i64 q2k), (At.flt FloatKind.f32 q2l), (At.flt FloatKind.f32 q1p)]))])) (LO.one (Ex.exit 0) (St.mk [(0, (AV.v (TV.one (At.ptr 4 0 7)))), (4, (AV.v (TV.one (At.flt FloatKind.f32 (zd1 t57 b3 q1s q1p t4 t58))))), (57, (AV.v (TV.one (At.int IntKind.i64 t57)))), (58, (AV.v (TV.one (At.int IntKind.i64 (zcw t57 b3 q1s q1p t4 t58))))), (59, (AV.v (TV.one (At.bool (zd0 t57 b3 q1s q1p t4 t58)))))] [(Blk.mk Bool.false (Body.fl FloatKind.f32 b0)), (Blk.mk Bool.false (Body.fl FloatKind.f32 b1)), (Blk.mk Bool.false (Body.fl FloatKind.f32 b2)), (Blk.mk Bool.false (Body.fl FloatKind.f32 b3)), (Blk.mk Bool.false (Body.cells [(At.vw 0 0 q2b 1), (At.vw 1 0 q2c 1), (At.vw 2 0 q2a 1), (At.vw 3 0 q1s 3), (At.int IntKind.i64 q2k), (At.flt FloatKind.f32 q2l), (At.flt FloatKind.f32 q1p)]))]))))
  | _, _ => none
def zah (t57 : Int) (b0 : List Nat) (b1 : List Nat) (b2 : List Nat) (b3 : List Nat) (q2b : Nat) (q2c : Nat) (q2a : Nat) (q1s : Nat) (q2k : Int) (q2l : Nat) (q1p : Nat) : Option ((Unit) ⊕ (Nat × Int × Bool)) → Option (Ex × St)
  | none => none
  | some (Sum.inl r) => some (Ex.ret, (St.mk [(2, (AV.v (TV.one (At.bool Bool.false))))] [(Blk.mk Bool.false (Body.fl FloatKind.f32 b0)), (Blk.mk Bool.false (Body.fl FloatKind.f32 b1)), (Blk.mk Bool.false (Body.fl FloatKind.f32 b2)), (Blk.mk Bool.false (Body.fl FloatKind.f32 b3)), (Blk.mk Bool.false (Body.cells [(At.vw 0 0 q2b 1), (At.vw 1 0 q2c 1), (At.vw 2 0 q2a 1), (At.vw 3 0 q1s 3), (At.int IntKind.i64 q2k), (At.flt FloatKind.f32 q2l), (At.flt FloatKind.f32 q1p)]))]))
  | some (Sum.inr r) => some ((Ex.exit 0), (St.mk [(0, (AV.v (TV.one (At.ptr 4 0 7)))), (4, (AV.v (TV.one (At.flt FloatKind.f32 r.1)))), (57, (AV.v (TV.one (At.int IntKind.i64 t57)))), (58, (AV.v (TV.one (At.int IntKind.i64 r.2.1)))), (59, (AV.v (TV.one (At.bool r.2.2))))] [(Blk.mk Bool.false (Body.fl FloatKind.f32 b0)), (Blk.mk Bool.false (Body.fl FloatKind.f32 b1)), (Blk.mk Bool.false (Body.fl FloatKind.f32 b2)), (Blk.mk Bool.false (Body.fl FloatKind.f32 b3)), (Blk.mk Bool.false (Body.cells [(At.vw 0 0 q2b 1), (At.vw 1 0 q2c 1), (At.vw 2 0 q2a 1), (At.vw 3 0 q1s 3), (At.int IntKind.i64 q2k), (At.flt FloatKind.f32 q2l), (At.flt FloatKind.f32 q1p)]))]))
def zi6 (t57 : Int) (b0 : List Nat) (b1 : List Nat) (b2 : List Nat) (b3 : List Nat) (q2b : Nat) (q2c : Nat) (q2a : Nat) (q1s : Nat) (q2k : Int) (q2l : Nat) (q1p : Nat) (x : Option ((Unit) ⊕ (Nat × Int × Bool))) : LO := (LO.two (oL x) (LO.one Ex.ret (St.mk [(2, (AV.v (TV.one (At.bool Bool.false))))] [(Blk.mk Bool.false (Body.fl FloatKind.f32 b0)), (Blk.mk Bool.false (Body.fl FloatKind.f32 b1)), (Blk.mk Bool.false (Body.fl FloatKind.f32 b2)), (Blk.mk Bool.false (Body.fl FloatKind.f32 b3)), (Blk.mk Bool.false (Body.cells [(At.vw 0 0 q2b 1), (At.vw 1 0 q2c 1), (At.vw 2 0 q2a 1), (At.vw 3 0 q1s 3), (At.int IntKind.i64 q2k), (At.flt FloatKind.f32 q2l), (At.flt FloatKind.f32 q1p)]))])) (LO.one (Ex.exit 0) (St.mk [(0, (AV.v (TV.one (At.ptr 4 0 7)))), (4, (AV.v (TV.one (At.flt FloatKind.f32 ((tR x).getD default).1)))), (57, (AV.v (TV.one (At.int IntKind.i64 t57)))), (58, (AV.v (TV.one (At.int IntKind.i64 ((tR x).getD default).2.1)))), (59, (AV.v (TV.one (At.bool ((tR x).getD default).2.2))))] [(Blk.mk Bool.false (Body.fl FloatKind.f32 b0)), (Blk.mk Bool.false (Body.fl FloatKind.f32 b1)), (Blk.mk Bool.false (Body.fl FloatKind.f32 b2)), (Blk.mk Bool.false (Body.fl FloatKind.f32 b3)), (Blk.mk Bool.false (Body.cells [(At.vw 0 0 q2b 1), (At.vw 1 0 q2c 1), (At.vw 2 0 q2a 1), (At.vw 3 0 q1s 3), (At.int IntKind.i64 q2k), (At.flt FloatKind.f32 q2l), (At.flt FloatKind.f32 q1p)]))])))
theorem zit (t57 : Int) (b0 : List Nat) (b1 : List Nat) (b2 : List Nat) (b3 : List Nat) (q2b : Nat) (q2c : Nat) (q2a : Nat) (q1s : Nat) (q2k : Int) (q2l : Nat) (q1p : Nat) : ∀ x : Option ((Unit) ⊕ (Nat × Int × Bool)), x.isSome = true → (zah t57 b0 b1 b2 b3 q2b q2c q2a q1s q2k q2l q1p) x = some (pick (zi6 t57 b0 b1 b2 b3 q2b q2c q2a q1s q2k q2l q1p x))
  | none, h => by cases h
  | some (Sum.inl r), _ => rfl
  | some (Sum.inr r), _ => rfl
theorem zik (t4 : Nat) (t57 : Int) (t58 : Int) (b0 : List Nat) (b1 : List Nat) (b2 : List Nat) (b3 : List Nat) (q2b : Nat) (q2c : Nat) (q2a : Nat) (q1s : Nat) (q2k : Int) (q2l : Nat) (q1p : Nat) (K : Ex → St → Option (Ex × St)) : evC (R := Ex × St) Γ6 (evFn Γ6 8 8) 99 5 fi99.nt fi99.live fi99.nl 8 (findL 6 (loopsIn fi99.code)) (St.mk [(0, (AV.v (TV.one (At.ptr 4 0 7)))), (4, (AV.v (TV.one (At.flt FloatKind.f32 t4)))), (57, (AV.v (TV.one (At.int IntKind.i64 t57)))), (58, (AV.v (TV.one (At.int IntKind.i64 t58))))] [(Blk.mk Bool.false (Body.fl FloatKind.f32 b0)), (Blk.mk Bool.false (Body.fl FloatKind.f32 b1)), (Blk.mk Bool.false (Body.fl FloatKind.f32 b2)), (Blk.mk Bool.false (Body.fl FloatKind.f32 b3)), (Blk.mk Bool.false (Body.cells [(At.vw 0 0 q2b 1), (At.vw 1 0 q2c 1), (At.vw 2 0 q2a 1), (At.vw 3 0 q1s 3), (At.int IntKind.i64 q2k), (At.flt FloatKind.f32 q2l), (At.flt FloatKind.f32 q1p)]))]) K = z5z t57 b3 q1s q1p t4 t58 (fun t4' t58' => K .normal (St.mk [(0, (AV.v (TV.one (At.ptr 4 0 7)))), (4, (AV.v (TV.one (At.flt FloatKind.f32 t4')))), (57, (AV.v (TV.one (At.int IntKind.i64 t57)))), (58, (AV.v (TV.one (At.int IntKind.i64 t58'))))] [(Blk.mk Bool.false (Body.fl FloatKind.f32 b0)), (Blk.mk Bool.false (Body.fl FloatKind.f32 b1)), (Blk.mk Bool.false (Body.fl FloatKind.f32 b2)), (Blk.mk Bool.false (Body.fl FloatKind.f32 b3)), (Blk.mk Bool.false (Body.cells [(At.vw 0 0 q2b 1), (At.vw 1 0 q2c 1), (At.vw 2 0 q2a 1), (At.vw 3 0 q1s 3), (At.int IntKind.i64 q2k), (At.flt FloatKind.f32 q2l), (At.flt FloatKind.f32 q1p)]))])) (fun _ => K Ex.ret (St.mk [(2, (AV.v (TV.one (At.bool Bool.false))))] [(Blk.mk Bool.false (Body.fl FloatKind.f32 b0)), (Blk.mk Bool.false (Body.fl FloatKind.f32 b1)), (Blk.mk Bool.false (Body.fl FloatKind.f32 b2)), (Blk.mk Bool.false (Body.fl FloatKind.f32 b3)), (Blk.mk Bool.false (Body.cells [(At.vw 0 0 q2b 1), (At.vw 1 0 q2c 1), (At.vw 2 0 q2a 1), (At.vw 3 0 q1s 3), (At.int IntKind.i64 q2k), (At.flt FloatKind.f32 q2l), (At.flt FloatKind.f32 q1p)]))])) (fun c0_ c1_ c2_ => K (Ex.exit 0) (St.mk [(0, (AV.v (TV.one (At.ptr 4 0 7)))), (4, (AV.v (TV.one (At.flt FloatKind.f32 c0_)))), (57, (AV.v (TV.one (At.int IntKind.i64 t57)))), (58, (AV.v (TV.one (At.int IntKind.i64 c1_)))), (59, (AV.v (TV.one (At.bool c2_))))] [(Blk.mk Bool.false (Body.fl FloatKind.f32 b0)), (Blk.mk Bool.false (Body.fl FloatKind.f32 b1)), (Blk.mk Bool.false (Body.fl FloatKind.f32 b2)), (Blk.mk Bool.false (Body.fl FloatKind.f32 b3)), (Blk.mk Bool.false (Body.cells [(At.vw 0 0 q2b 1), (At.vw 1 0 q2c 1), (At.vw 2 0 q2a 1), (At.vw 3 0 q1s 3), (At.int IntKind.i64 q2k), (At.flt FloatKind.f32 q2l), (At.flt FloatKind.f32 q1p)]))])) := by kernel_rfl
theorem zij (t57 : Int) (b0 : List Nat) (b1 : List Nat) (b2 : List Nat) (b3 : List Nat) (q2b : Nat) (q2c : Nat) (q2a : Nat) (q1s : Nat) (q2k : Int) (q2l : Nat) (q1p : Nat) : ∀ (n : Nat) (t4 : Nat) (t58 : Int), iter 99 6 5 (evC (R := Ex × St) Γ6 (evFn Γ6 8 8) 99 5 fi99.nt fi99.live fi99.nl 8 (findL 6 (loopsIn fi99.code))) n (St.mk [(0, (AV.v (TV.one (At.ptr 4 0 7)))), (4, (AV.v (TV.one (At.flt FloatKind.f32 t4)))), (57, (AV.v (TV.one (At.int IntKind.i64 t57)))), (58, (AV.v (TV.one (At.int IntKind.i64 t58))))] [(Blk.mk Bool.false (Body.fl FloatKind.f32 b0)), (Blk.mk Bool.false (Body.fl FloatKind.f32 b1)), (Blk.mk Bool.false (Body.fl FloatKind.f32 b2)), (Blk.mk Bool.false (Body.fl FloatKind.f32 b3)), (Blk.mk Bool.false (Body.cells [(At.vw 0 0 q2b 1), (At.vw 1 0 q2c 1), (At.vw 2 0 q2a 1), (At.vw 3 0 q1s 3), (At.int IntKind.i64 q2k), (At.flt FloatKind.f32 q2l), (At.flt FloatKind.f32 q1p)]))]) (fun e st => some (e, st)) = (zah t57 b0 b1 b2 b3 q2b q2c q2a q1s q2k q2l q1p) (z4c t57 b3 q1s q1p n t4 t58) := by
  intro n
  induction n with
  | zero => intros; rfl
  | succ n ih =>
    intro t4 t58
    refine Eq.trans (iter_succ ..) (Eq.trans (zik t4 t57 t58 b0 b1 b2 b3 q2b q2c q2a q1s q2k q2l q1p (nextK 99 6 5 (evC (R := Ex × St) Γ6 (evFn Γ6 8 8) 99 5 fi99.nt fi99.live fi99.nl 8 (findL 6 (loopsIn fi99.code))) n (fun e st => some (e, st)))) (Eq.trans ?_ (zgn (zah t57 b0 b1 b2 b3 q2b q2c q2a q1s q2k q2l q1p) rfl t57 b3 q1s q1p t4 t58 (fun t4' t58' => z4c t57 b3 q1s q1p n t4' t58') (fun _ => some (Sum.inl ())) (fun c0_ c1_ c2_ => some (Sum.inr (c0_, c1_, c2_))))))
    exact congrArg (fun kn_ => z5z t57 b3 q1s q1p t4 t58 kn_ (fun _ => (zah t57 b0 b1 b2 b3 q2b q2c q2a q1s q2k q2l q1p) (some (Sum.inl ()))) (fun c0_ c1_ c2_ => (zah t57 b0 b1 b2 b3 q2b q2c q2a q1s q2k q2l q1p) (some (Sum.inr (c0_, c1_, c2_))))) (funext fun t4' => funext fun t58' => ih t4' t58')
theorem z2u : LoopOne Try.prog fnTab 99 6 z38 := lp_of (Γ := Γ6) tyTab_ok (FnL.ok fnTab_ok _ _) (LpL.ok lt6_ok) (SumL.ok tb6_ok _) mixed (fi := fi99) (by kernel_rfl) (by kernel_rfl) (by
  intro lo st out hp
  unfold z38 at hp
  split at hp
  · rename_i t4 t57 t58 b0 b1 b2 b3 q2b q2c q2a q1s q2k q2l q1p
    injection hp with hp
    injection hp with h1 h2
    subst h2
    exact ⟨8, 8, big, Eq.trans (zij t57 b0 b1 b2 b3 q2b q2c q2a q1s q2k q2l q1p big t4 t58) (zit t57 b0 b1 b2 b3 q2b q2c q2a q1s q2k q2l q1p (z4c t57 b3 q1s q1p big t4 t58) h1)⟩
  · cases hp)
noncomputable def tb7 : List (Nat × (List PT → Option (Bool × AV × List Blk))) := [(129, z13), (133, z0l), (137, z14), (139, z1v), (25, z20), (59, z3d), (64, z21), (66, z35), (68, z2g), (70, z1p), (78, z2h), (82, z1o), (106, z17), (108, z0p), (115, z1z), (40, z2b), (58, z2n), (67, z30), (77, z31), (101, z2o), (102, z29), (107, z0m), (111, z1f), (118, z28), (120, z0x), (35, z34), (74, z1y), (126, z1x), (18, z24), (42, z2k), (84, z27), (37, z3a), (44, z2r), (89, z2e), (90, z3p), (125, z0d), (125, z09), (39, z3c), (125, z0h), (110, z0c), (110, z04), (110, z0f)]
noncomputable def lt7 : List ((Nat × Nat) × (Nat → St → Option (Bool × LO))) := [((74, 3), z0w), ((18, 4), z11), ((84, 3), z10), ((89, 4), z16), ((90, 5), z2x), ((125, 2), z03), ((125, 2), z01), ((125, 2), z08), ((99, 6), z38)]
noncomputable def Γ7 : Ctx := ⟨tyTab, fnTab, tblSum tb7, tblLp lt7⟩
theorem tb7_ok : SumL Try.prog tb7 := SumL.cons z0t (SumL.cons z0i (SumL.cons z0s (SumL.cons z15 (SumL.cons z1a (SumL.cons z2t (SumL.cons z18 (SumL.cons z2f (SumL.cons z1n (SumL.cons z0z (SumL.cons z1m (SumL.cons z12 (SumL.cons z0v (SumL.cons z0k (SumL.cons z19 (SumL.cons z1i (SumL.cons z1t (SumL.cons z26 (SumL.cons z25 (SumL.cons z1u (SumL.cons z1h (SumL.cons z0j (SumL.cons z0y (SumL.cons z1g (SumL.cons z0n (SumL.cons z2d (SumL.cons z1c (SumL.cons z1b (SumL.cons z1j (SumL.cons z1w (SumL.cons z1k (SumL.cons z2s (SumL.cons z22 (SumL.cons z1q (SumL.cons z39 (SumL.cons z0b (SumL.cons z06 (SumL.cons z2y (SumL.cons z0g (SumL.cons z0a (SumL.cons z07 (SumL.cons z0e (SumL.nil))))))))))))))))))))))))))))))))))))))))))
theorem lt7_ok : LpL Try.prog fnTab lt7 := LpL.cons z0o (LpL.cons z0r (LpL.cons z0q (LpL.cons z0u (LpL.cons z2a (LpL.cons z02 (LpL.cons z00 (LpL.cons z05 (LpL.cons z2u (LpL.nil)))))))))
noncomputable def z36 : List PT → Option (Bool × AV × List Blk)
  | [.one (.row 1 q1m (.fl .f32 q22))] => some ((zca q1m q22), ((AV.v (TV.one (At.bool (zb2 q1m q22)))), []))
  | _ => none
def zeb (q1m : Nat) (q22 : List Nat) : Option (Bool) → Option (AV × List Blk)
  | some r => some ((AV.v (TV.one (At.bool r))), [])
  | none => none
theorem zi3 (q1m : Nat) (q22 : List Nat) : evFn Γ7 8 8 69 (impTs 0 [.one (.row 1 q1m (.fl .f32 q22))]).1 (impTs 0 [.one (.row 1 q1m (.fl .f32 q22))]).2 (expo (impTs 0 [.one (.row 1 q1m (.fl .f32 q22))]).2.length) = z85 q1m q22 (fun c0_ => some ((AV.v (TV.one (At.bool c0_))), [])) := by kernel_rfl
theorem z2p : SumOne Try.prog 69 z36 := sum_of (Γ := Γ7) (fuel := 8) (d := 8) tyTab_ok (FnL.ok fnTab_ok _ _) (LpL.ok lt7_ok) (SumL.ok tb7_ok _) mixed (by
  intro pts v news hp hc
  clear hc
  unfold z36 at hp
  split at hp
  · rename_i q1m q22
    exact Eq.trans (Eq.trans (zi3 q1m q22) (zgc (zeb q1m q22) rfl q1m q22 (fun c0_ => some c0_))) (fin_out (o := (zeb q1m q22)) (x := z86 q1m q22) (d := default) (V := fun r => ((AV.v (TV.one (At.bool r))), [])) (fun r => rfl) hp)
  · cases hp)
noncomputable def z3r : List PT → Option (Bool × AV × List Blk)
  | [.ptr [.row 1 q0m (.fl .f32 q0s), .row 1 q0p (.fl .f32 q0v), .row 1 q0q (.fl .f32 q0u), .row 3 q0w (.fl .f32 q13), .s (.int .i64 q1d), .s (.flt .f32 q1g), .s (.flt .f32 q1h)]] => some ((zdc q0m q0s q0p q0v q0q q0u q0w q13 q1d q1g q1h), ((AV.v (TV.one (At.bool (zd5 q0m q0s q0p q0v q0q q0u q0w q13 q1d q1g q1h)))), []))
  | _ => none
def zhd (q0m : Nat) (q0s : List Nat) (q0p : Nat) (q0v : List Nat) (q0q : Nat) (q0u : List Nat) (q0w : Nat) (q13 : List Nat) (q1d : Int) (q1g : Nat) (q1h : Nat) : Option (Bool) → Option (AV × List Blk)
  | some r => some ((AV.v (TV.one (At.bool r))), [])
  | none => none
theorem zj5 (q0m : Nat) (q0s : List Nat) (q0p : Nat) (q0v : List Nat) (q0q : Nat) (q0u : List Nat) (q0w : Nat) (q13 : List Nat) (q1d : Int) (q1g : Nat) (q1h : Nat) : evFn Γ7 8 8 99 (impTs 0 [.ptr [.row 1 q0m (.fl .f32 q0s), .row 1 q0p (.fl .f32 q0v), .row 1 q0q (.fl .f32 q0u), .row 3 q0w (.fl .f32 q13), .s (.int .i64 q1d), .s (.flt .f32 q1g), .s (.flt .f32 q1h)]]).1 (impTs 0 [.ptr [.row 1 q0m (.fl .f32 q0s), .row 1 q0p (.fl .f32 q0v), .row 1 q0q (.fl .f32 q0u), .row 3 q0w (.fl .f32 q13), .s (.int .i64 q1d), .s (.flt .f32 q1g), .s (.flt .f32 q1h)]]).2 (expo (impTs 0 [.ptr [.row 1 q0m (.fl .f32 q0s), .row 1 q0p (.fl .f32 q0v), .row 1 q0q (.fl .f32 q0u), .row 3 q0w (.fl .f32 q13), .s (.int .i64 q1d), .s (.flt .f32 q1g), .s (.flt .f32 q1h)]]).2.length) = zbt q0m q0s q0p q0v q0q q0u q0w q13 q1d q1g q1h (fun c0_ => some ((AV.v (TV.one (At.bool c0_))), [])) := by kernel_rfl
theorem z3l : SumOne Try.prog 99 z3r := sum_of (Γ := Γ7) (fuel := 8) (d := 8) tyTab_ok (FnL.ok fnTab_ok _ _) (LpL.ok lt7_ok) (SumL.ok tb7_ok _) mixed (by
  intro pts v news hp hc
  clear hc
  unfold z3r at hp
  split at hp
  · rename_i q0m q0s q0p q0v q0q q0u q0w q13 q1d q1g q1h
    exact Eq.trans (Eq.trans (zj5 q0m q0s q0p q0v q0q q0u q0w q13 q1d q1g q1h) (zib (zhd q0m q0s q0p q0v q0q q0u q0w q13 q1d q1g q1h) rfl q0m q0s q0p q0v q0q q0u q0w q13 q1d q1g q1h (fun c0_ => some c0_))) (fin_out (o := (zhd q0m q0s q0p q0v q0q q0u q0w q13 q1d q1g q1h)) (x := zbm q0m q0s q0p q0v q0q q0u q0w q13 q1d q1g q1h) (d := default) (V := fun r => ((AV.v (TV.one (At.bool r))), [])) (fun r => rfl) hp)
  · cases hp)
noncomputable def z2m : List PT → Option (Bool × AV × List Blk)
  | [.one (.row 1 q1m (.fl .f32 q22))] => some ((z8g q1m q22), ((AV.v (TV.one (At.bool (z7y q1m q22)))), []))
  | _ => none
def zdi (q1m : Nat) (q22 : List Nat) : Option (Bool) → Option (AV × List Blk)
  | some r => some ((AV.v (TV.one (At.bool r))), [])
  | none => none
theorem zgw (q1m : Nat) (q22 : List Nat) : evFn Γ7 8 8 100 (impTs 0 [.one (.row 1 q1m (.fl .f32 q22))]).1 (impTs 0 [.one (.row 1 q1m (.fl .f32 q22))]).2 (expo (impTs 0 [.one (.row 1 q1m (.fl .f32 q22))]).2.length) = z6y q1m q22 (fun c0_ => some ((AV.v (TV.one (At.bool c0_))), [])) := by kernel_rfl
theorem z23 : SumOne Try.prog 100 z2m := sum_of (Γ := Γ7) (fuel := 8) (d := 8) tyTab_ok (FnL.ok fnTab_ok _ _) (LpL.ok lt7_ok) (SumL.ok tb7_ok _) mixed (by
  intro pts v news hp hc
  clear hc
  unfold z2m at hp
  split at hp
  · rename_i q1m q22
    exact Eq.trans (Eq.trans (zgw q1m q22) (zew (zdi q1m q22) rfl q1m q22 (fun c0_ => some c0_))) (fin_out (o := (zdi q1m q22)) (x := z63 q1m q22) (d := default) (V := fun r => ((AV.v (TV.one (At.bool r))), [])) (fun r => rfl) hp)
  · cases hp)
noncomputable def z3b : List PT → Option (Bool × AV × List Blk)
  | [.one (.row 1 q1m (.fl .f32 q22))] => some ((zcs q1m q22), ((AV.v (TV.one (At.bool (zc6 q1m q22)))), []))
  | _ => none
def zem (q1m : Nat) (q22 : List Nat) : Option (Bool) → Option (AV × List Blk)
  | some r => some ((AV.v (TV.one (At.bool r))), [])
  | none => none
theorem zir (q1m : Nat) (q22 : List Nat) : evFn Γ7 8 8 112 (impTs 0 [.one (.row 1 q1m (.fl .f32 q22))]).1 (impTs 0 [.one (.row 1 q1m (.fl .f32 q22))]).2 (expo (impTs 0 [.one (.row 1 q1m (.fl .f32 q22))]).2.length) = z8u q1m q22 (fun c0_ => some ((AV.v (TV.one (At.bool c0_))), [])) := by kernel_rfl
theorem z2z : SumOne Try.prog 112 z3b := sum_of (Γ := Γ7) (fuel := 8) (d := 8) tyTab_ok (FnL.ok fnTab_ok _ _) (LpL.ok lt7_ok) (SumL.ok tb7_ok _) mixed (by
  intro pts v news hp hc
  clear hc
  unfold z3b at hp
  split at hp
  · rename_i q1m q22
    exact Eq.trans (Eq.trans (zir q1m q22) (zgt (zem q1m q22) rfl q1m q22 (fun c0_ => some c0_))) (fin_out (o := (zem q1m q22)) (x := z8q q1m q22) (d := default) (V := fun r => ((AV.v (TV.one (At.bool r))), [])) (fun r => rfl) hp)
  · cases hp)
noncomputable def tb8 : List (Nat × (List PT → Option (Bool × AV × List Blk))) := [(129, z13), (133, z0l), (137, z14), (139, z1v), (25, z20), (59, z3d), (64, z21), (66, z35), (68, z2g), (70, z1p), (78, z2h), (82, z1o), (106, z17), (108, z0p), (115, z1z), (40, z2b), (58, z2n), (67, z30), (77, z31), (101, z2o), (102, z29), (107, z0m), (111, z1f), (118, z28), (120, z0x), (35, z34), (74, z1y), (126, z1x), (18, z24), (42, z2k), (84, z27), (37, z3a), (44, z2r), (89, z2e), (90, z3p), (125, z0d), (125, z09), (39, z3c), (125, z0h), (110, z0c), (110, z04), (110, z0f), (69, z36), (99, z3r), (100, z2m), (112, z3b)]
noncomputable def lt8 : List ((Nat × Nat) × (Nat → St → Option (Bool × LO))) := [((74, 3), z0w), ((18, 4), z11), ((84, 3), z10), ((89, 4), z16), ((90, 5), z2x), ((125, 2), z03), ((125, 2), z01), ((125, 2), z08), ((99, 6), z38)]
noncomputable def Γ8 : Ctx := ⟨tyTab, fnTab, tblSum tb8, tblLp lt8⟩
theorem tb8_ok : SumL Try.prog tb8 := SumL.cons z0t (SumL.cons z0i (SumL.cons z0s (SumL.cons z15 (SumL.cons z1a (SumL.cons z2t (SumL.cons z18 (SumL.cons z2f (SumL.cons z1n (SumL.cons z0z (SumL.cons z1m (SumL.cons z12 (SumL.cons z0v (SumL.cons z0k (SumL.cons z19 (SumL.cons z1i (SumL.cons z1t (SumL.cons z26 (SumL.cons z25 (SumL.cons z1u (SumL.cons z1h (SumL.cons z0j (SumL.cons z0y (SumL.cons z1g (SumL.cons z0n (SumL.cons z2d (SumL.cons z1c (SumL.cons z1b (SumL.cons z1j (SumL.cons z1w (SumL.cons z1k (SumL.cons z2s (SumL.cons z22 (SumL.cons z1q (SumL.cons z39 (SumL.cons z0b (SumL.cons z06 (SumL.cons z2y (SumL.cons z0g (SumL.cons z0a (SumL.cons z07 (SumL.cons z0e (SumL.cons z2p (SumL.cons z3l (SumL.cons z23 (SumL.cons z2z (SumL.nil))))))))))))))))))))))))))))))))))))))))))))))
theorem lt8_ok : LpL Try.prog fnTab lt8 := LpL.cons z0o (LpL.cons z0r (LpL.cons z0q (LpL.cons z0u (LpL.cons z2a (LpL.cons z02 (LpL.cons z00 (LpL.cons z05 (LpL.cons z2u (LpL.nil)))))))))
noncomputable def z33 : List PT → Option (Bool × AV × List Blk)
  | [.ptr [.row 1 q04 (.fl .f32 q07), .row 1 q05 (.fl .f32 q09), .row 1 q06 (.fl .f32 q0a), .row 3 q0d (.fl .f32 q0i), .s (.int .i64 q0r), .s (.flt .f32 q15), .s (.flt .f32 q16)], .one (.s (.int .i64 i))] => some ((zax q04 q07 q05 q09 q06 q0a q0d q0i q0r q15 q16 i), ((AV.v (TV.one (At.bool (zai q04 q07 q05 q09 q06 q0a q0d q0i q0r q15 q16 i)))), []))
  | _ => none
def zds (q04 : Nat) (q07 : List Nat) (q05 : Nat) (q09 : List Nat) (q06 : Nat) (q0a : List Nat) (q0d : Nat) (q0i : List Nat) (q0r : Int) (q15 : Nat) (q16 : Nat) (i : Int) : Option (Bool) → Option (AV × List Blk)
  | some r => some ((AV.v (TV.one (At.bool r))), [])
  | none => none
theorem zhm (q04 : Nat) (q07 : List Nat) (q05 : Nat) (q09 : List Nat) (q06 : Nat) (q0a : List Nat) (q0d : Nat) (q0i : List Nat) (q0r : Int) (q15 : Nat) (q16 : Nat) (i : Int) : evFn Γ8 8 8 105 (impTs 0 [.ptr [.row 1 q04 (.fl .f32 q07), .row 1 q05 (.fl .f32 q09), .row 1 q06 (.fl .f32 q0a), .row 3 q0d (.fl .f32 q0i), .s (.int .i64 q0r), .s (.flt .f32 q15), .s (.flt .f32 q16)], .one (.s (.int .i64 i))]).1 (impTs 0 [.ptr [.row 1 q04 (.fl .f32 q07), .row 1 q05 (.fl .f32 q09), .row 1 q06 (.fl .f32 q0a), .row 3 q0d (.fl .f32 q0i), .s (.int .i64 q0r), .s (.flt .f32 q15), .s (.flt .f32 q16)], .one (.s (.int .i64 i))]).2 (expo (impTs 0 [.ptr [.row 1 q04 (.fl .f32 q07), .row 1 q05 (.fl .f32 q09), .row 1 q06 (.fl .f32 q0a), .row 3 q0d (.fl .f32 q0i), .s (.int .i64 q0r), .s (.flt .f32 q15), .s (.flt .f32 q16)], .one (.s (.int .i64 i))]).2.length) = z7p q04 q07 q05 q09 q06 q0a q0d q0i q0r q15 q16 i (fun c0_ => some ((AV.v (TV.one (At.bool c0_))), [])) := by kernel_rfl
theorem z2l : SumOne Try.prog 105 z33 := sum_of (Γ := Γ8) (fuel := 8) (d := 8) tyTab_ok (FnL.ok fnTab_ok _ _) (LpL.ok lt8_ok) (SumL.ok tb8_ok _) mixed (by
  intro pts v news hp hc
  clear hc
  unfold z33 at hp
  split at hp
  · rename_i q04 q07 q05 q09 q06 q0a q0d q0i q0r q15 q16 i
    exact Eq.trans (Eq.trans (zhm q04 q07 q05 q09 q06 q0a q0d q0i q0r q15 q16 i) (zfs (zds q04 q07 q05 q09 q06 q0a q0d q0i q0r q15 q16 i) rfl q04 q07 q05 q09 q06 q0a q0d q0i q0r q15 q16 i (fun c0_ => some c0_))) (fin_out (o := (zds q04 q07 q05 q09 q06 q0a q0d q0i q0r q15 q16 i)) (x := z7j q04 q07 q05 q09 q06 q0a q0d q0i q0r q15 q16 i) (d := default) (V := fun r => ((AV.v (TV.one (At.bool r))), [])) (fun r => rfl) hp)
  · cases hp)
noncomputable def tb9 : List (Nat × (List PT → Option (Bool × AV × List Blk))) := [(129, z13), (133, z0l), (137, z14), (139, z1v), (25, z20), (59, z3d), (64, z21), (66, z35), (68, z2g), (70, z1p), (78, z2h), (82, z1o), (106, z17), (108, z0p), (115, z1z), (40, z2b), (58, z2n), (67, z30), (77, z31), (101, z2o), (102, z29), (107, z0m), (111, z1f), (118, z28), (120, z0x), (35, z34), (74, z1y), (126, z1x), (18, z24), (42, z2k), (84, z27), (37, z3a), (44, z2r), (89, z2e), (90, z3p), (125, z0d), (125, z09), (39, z3c), (125, z0h), (110, z0c), (110, z04), (110, z0f), (69, z36), (99, z3r), (100, z2m), (112, z3b), (105, z33)]
noncomputable def lt9 : List ((Nat × Nat) × (Nat → St → Option (Bool × LO))) := [((74, 3), z0w), ((18, 4), z11), ((84, 3), z10), ((89, 4), z16), ((90, 5), z2x), ((125, 2), z03), ((125, 2), z01), ((125, 2), z08), ((99, 6), z38)]
noncomputable def Γ9 : Ctx := ⟨tyTab, fnTab, tblSum tb9, tblLp lt9⟩
theorem tb9_ok : SumL Try.prog tb9 := SumL.cons z0t (SumL.cons z0i (SumL.cons z0s (SumL.cons z15 (SumL.cons z1a (SumL.cons z2t (SumL.cons z18 (SumL.cons z2f (SumL.cons z1n (SumL.cons z0z (SumL.cons z1m (SumL.cons z12 (SumL.cons z0v (SumL.cons z0k (SumL.cons z19 (SumL.cons z1i (SumL.cons z1t (SumL.cons z26 (SumL.cons z25 (SumL.cons z1u (SumL.cons z1h (SumL.cons z0j (SumL.cons z0y (SumL.cons z1g (SumL.cons z0n (SumL.cons z2d (SumL.cons z1c (SumL.cons z1b (SumL.cons z1j (SumL.cons z1w (SumL.cons z1k (SumL.cons z2s (SumL.cons z22 (SumL.cons z1q (SumL.cons z39 (SumL.cons z0b (SumL.cons z06 (SumL.cons z2y (SumL.cons z0g (SumL.cons z0a (SumL.cons z07 (SumL.cons z0e (SumL.cons z2p (SumL.cons z3l (SumL.cons z23 (SumL.cons z2z (SumL.cons z2l (SumL.nil)))))))))))))))))))))))))))))))))))))))))))))))
theorem lt9_ok : LpL Try.prog fnTab lt9 := LpL.cons z0o (LpL.cons z0r (LpL.cons z0q (LpL.cons z0u (LpL.cons z2a (LpL.cons z02 (LpL.cons z00 (LpL.cons z05 (LpL.cons z2u (LpL.nil)))))))))
noncomputable def z37 : List PT → Option (Bool × AV × List Blk)
  | [.agg [.row 1 q04 (.fl .f32 q07), .row 1 q05 (.fl .f32 q09), .row 1 q06 (.fl .f32 q0a), .row 3 q0d (.fl .f32 q0i), .s (.int .i64 q0r), .s (.flt .f32 q15), .s (.flt .f32 q16)], .one (.s (.int .i64 i))] => some ((zaz q04 q07 q05 q09 q06 q0a q0d q0i q0r q15 q16 i), ((AV.tup [(TV.one (At.flt FloatKind.f32 (z8i q04 q07 q05 q09 q06 q0a q0d q0i q0r q15 q16 i))), (TV.one (At.bool (zal q04 q07 q05 q09 q06 q0a q0d q0i q0r q15 q16 i)))]), []))
  | _ => none
def zdv (q04 : Nat) (q07 : List Nat) (q05 : Nat) (q09 : List Nat) (q06 : Nat) (q0a : List Nat) (q0d : Nat) (q0i : List Nat) (q0r : Int) (q15 : Nat) (q16 : Nat) (i : Int) : Option (Nat × Bool) → Option (AV × List Blk)
  | some r => some ((AV.tup [(TV.one (At.flt FloatKind.f32 r.1)), (TV.one (At.bool r.2))]), [])
  | none => none
theorem zhh (q04 : Nat) (q07 : List Nat) (q05 : Nat) (q09 : List Nat) (q06 : Nat) (q0a : List Nat) (q0d : Nat) (q0i : List Nat) (q0r : Int) (q15 : Nat) (q16 : Nat) (i : Int) : evFn Γ9 8 8 55 (impTs 0 [.agg [.row 1 q04 (.fl .f32 q07), .row 1 q05 (.fl .f32 q09), .row 1 q06 (.fl .f32 q0a), .row 3 q0d (.fl .f32 q0i), .s (.int .i64 q0r), .s (.flt .f32 q15), .s (.flt .f32 q16)], .one (.s (.int .i64 i))]).1 (impTs 0 [.agg [.row 1 q04 (.fl .f32 q07), .row 1 q05 (.fl .f32 q09), .row 1 q06 (.fl .f32 q0a), .row 3 q0d (.fl .f32 q0i), .s (.int .i64 q0r), .s (.flt .f32 q15), .s (.flt .f32 q16)], .one (.s (.int .i64 i))]).2 (expo (impTs 0 [.agg [.row 1 q04 (.fl .f32 q07), .row 1 q05 (.fl .f32 q09), .row 1 q06 (.fl .f32 q0a), .row 3 q0d (.fl .f32 q0i), .s (.int .i64 q0r), .s (.flt .f32 q15), .s (.flt .f32 q16)], .one (.s (.int .i64 i))]).2.length) = z7h q04 q07 q05 q09 q06 q0a q0d q0i q0r q15 q16 i (fun c0_ c1_ => some ((AV.tup [(TV.one (At.flt FloatKind.f32 c0_)), (TV.one (At.bool c1_))]), [])) := by kernel_rfl
theorem z2v : SumOne Try.prog 55 z37 := sum_of (Γ := Γ9) (fuel := 8) (d := 8) tyTab_ok (FnL.ok fnTab_ok _ _) (LpL.ok lt9_ok) (SumL.ok tb9_ok _) mixed (by
  intro pts v news hp hc
  clear hc
  unfold z37 at hp
  split at hp
  · rename_i q04 q07 q05 q09 q06 q0a q0d q0i q0r q15 q16 i
    exact Eq.trans (Eq.trans (zhh q04 q07 q05 q09 q06 q0a q0d q0i q0r q15 q16 i) (zfe (zdv q04 q07 q05 q09 q06 q0a q0d q0i q0r q15 q16 i) rfl q04 q07 q05 q09 q06 q0a q0d q0i q0r q15 q16 i (fun c0_ c1_ => some (c0_, c1_)))) (fin_out (o := (zdv q04 q07 q05 q09 q06 q0a q0d q0i q0r q15 q16 i)) (x := z6g q04 q07 q05 q09 q06 q0a q0d q0i q0r q15 q16 i) (d := default) (V := fun r => ((AV.tup [(TV.one (At.flt FloatKind.f32 r.1)), (TV.one (At.bool r.2))]), [])) (fun r => rfl) hp)
  · cases hp)
noncomputable def z1r : Nat → St → Option (Bool × LO)
  | 3, (St.mk [(1, (AV.v (TV.one (At.ptr 3 0 3)))), (42, (AV.v (TV.one (At.vw 0 0 q29 1)))), (43, (AV.v (TV.one (At.int IntKind.i64 t43)))), (44, (AV.v (TV.one (At.int IntKind.i64 t44))))] [(Blk.mk Bool.false (Body.fl FloatKind.f32 b0)), (Blk.mk Bool.false (Body.fl FloatKind.f32 b1)), (Blk.mk Bool.false (Body.fl FloatKind.f32 b2)), (Blk.mk Bool.true (Body.cells [(At.vw 0 0 q1i 1), (At.vw 1 0 q1v 1), (At.vw 2 0 q1t 1)]))]) => some ((z5n q29 t43 b0 q1i t44), (LO.two (z5i q29 t43 b0 q1i t44) (LO.one Ex.ret (St.mk [(2, (AV.v (TV.one (At.bool Bool.false))))] [(Blk.mk Bool.false (Body.fl FloatKind.f32 b0)), (Blk.mk Bool.false (Body.fl FloatKind.f32 b1)), (Blk.mk Bool.false (Body.fl FloatKind.f32 b2))])) (LO.one (Ex.exit 0) (St.mk [(1, (AV.v (TV.one (At.ptr 3 0 3)))), (42, (AV.v (TV.one (At.vw 0 0 q29 1)))), (43, (AV.v (TV.one (At.int IntKind.i64 t43)))), (44, (AV.v (TV.one (At.int IntKind.i64 (z91 q29 t43 b0 q1i t44))))), (45, (AV.v (TV.one (At.bool (z8y q29 t43 b0 q1i t44)))))] [(Blk.mk Bool.false (Body.fl FloatKind.f32 b0)), (Blk.mk Bool.false (Body.fl FloatKind.f32 b1)), (Blk.mk Bool.false (Body.fl FloatKind.f32 b2)), (Blk.mk Bool.true (Body.cells [(At.vw 0 0 q1i 1), (At.vw 1 0 q1v 1), (At.vw 2 0 q1t 1)]))]))))
  | _, _ => none
def z6o (q29 : Nat) (t43 : Int) (b0 : List Nat) (b1 : List Nat) (b2 : List Nat) (q1i : Nat) (q1v : Nat) (q1t : Nat) : Option ((Unit) ⊕ (Int × Bool)) → Option (Ex × St)
  | none => none
  | some (Sum.inl r) => some (Ex.ret, (St.mk [(2, (AV.v (TV.one (At.bool Bool.false))))] [(Blk.mk Bool.false (Body.fl FloatKind.f32 b0)), (Blk.mk Bool.false (Body.fl FloatKind.f32 b1)), (Blk.mk Bool.false (Body.fl FloatKind.f32 b2))]))
  | some (Sum.inr r) => some ((Ex.exit 0), (St.mk [(1, (AV.v (TV.one (At.ptr 3 0 3)))), (42, (AV.v (TV.one (At.vw 0 0 q29 1)))), (43, (AV.v (TV.one (At.int IntKind.i64 t43)))), (44, (AV.v (TV.one (At.int IntKind.i64 r.1)))), (45, (AV.v (TV.one (At.bool r.2))))] [(Blk.mk Bool.false (Body.fl FloatKind.f32 b0)), (Blk.mk Bool.false (Body.fl FloatKind.f32 b1)), (Blk.mk Bool.false (Body.fl FloatKind.f32 b2)), (Blk.mk Bool.true (Body.cells [(At.vw 0 0 q1i 1), (At.vw 1 0 q1v 1), (At.vw 2 0 q1t 1)]))]))
def zei (q29 : Nat) (t43 : Int) (b0 : List Nat) (b1 : List Nat) (b2 : List Nat) (q1i : Nat) (q1v : Nat) (q1t : Nat) (x : Option ((Unit) ⊕ (Int × Bool))) : LO := (LO.two (oL x) (LO.one Ex.ret (St.mk [(2, (AV.v (TV.one (At.bool Bool.false))))] [(Blk.mk Bool.false (Body.fl FloatKind.f32 b0)), (Blk.mk Bool.false (Body.fl FloatKind.f32 b1)), (Blk.mk Bool.false (Body.fl FloatKind.f32 b2))])) (LO.one (Ex.exit 0) (St.mk [(1, (AV.v (TV.one (At.ptr 3 0 3)))), (42, (AV.v (TV.one (At.vw 0 0 q29 1)))), (43, (AV.v (TV.one (At.int IntKind.i64 t43)))), (44, (AV.v (TV.one (At.int IntKind.i64 ((tR x).getD default).1)))), (45, (AV.v (TV.one (At.bool ((tR x).getD default).2))))] [(Blk.mk Bool.false (Body.fl FloatKind.f32 b0)), (Blk.mk Bool.false (Body.fl FloatKind.f32 b1)), (Blk.mk Bool.false (Body.fl FloatKind.f32 b2)), (Blk.mk Bool.true (Body.cells [(At.vw 0 0 q1i 1), (At.vw 1 0 q1v 1), (At.vw 2 0 q1t 1)]))])))
theorem zes (q29 : Nat) (t43 : Int) (b0 : List Nat) (b1 : List Nat) (b2 : List Nat) (q1i : Nat) (q1v : Nat) (q1t : Nat) : ∀ x : Option ((Unit) ⊕ (Int × Bool)), x.isSome = true → (z6o q29 t43 b0 b1 b2 q1i q1v q1t) x = some (pick (zei q29 t43 b0 b1 b2 q1i q1v q1t x))
  | none, h => by cases h
  | some (Sum.inl r), _ => rfl
  | some (Sum.inr r), _ => rfl
theorem zev (q29 : Nat) (t43 : Int) (t44 : Int) (b0 : List Nat) (b1 : List Nat) (b2 : List Nat) (q1i : Nat) (q1v : Nat) (q1t : Nat) (K : Ex → St → Option (Ex × St)) : evC (R := Ex × St) Γ9 (evFn Γ9 8 8) 94 3 fi94.nt fi94.live fi94.nl 8 (findL 5 (loopsIn fi94.code)) (St.mk [(1, (AV.v (TV.one (At.ptr 3 0 3)))), (42, (AV.v (TV.one (At.vw 0 0 q29 1)))), (43, (AV.v (TV.one (At.int IntKind.i64 t43)))), (44, (AV.v (TV.one (At.int IntKind.i64 t44))))] [(Blk.mk Bool.false (Body.fl FloatKind.f32 b0)), (Blk.mk Bool.false (Body.fl FloatKind.f32 b1)), (Blk.mk Bool.false (Body.fl FloatKind.f32 b2)), (Blk.mk Bool.true (Body.cells [(At.vw 0 0 q1i 1), (At.vw 1 0 q1v 1), (At.vw 2 0 q1t 1)]))]) K = z4t q29 t43 b0 q1i t44 (fun t44' => K .normal (St.mk [(1, (AV.v (TV.one (At.ptr 3 0 3)))), (42, (AV.v (TV.one (At.vw 0 0 q29 1)))), (43, (AV.v (TV.one (At.int IntKind.i64 t43)))), (44, (AV.v (TV.one (At.int IntKind.i64 t44'))))] [(Blk.mk Bool.false (Body.fl FloatKind.f32 b0)), (Blk.mk Bool.false (Body.fl FloatKind.f32 b1)), (Blk.mk Bool.false (Body.fl FloatKind.f32 b2)), (Blk.mk Bool.true (Body.cells [(At.vw 0 0 q1i 1), (At.vw 1 0 q1v 1), (At.vw 2 0 q1t 1)]))])) (fun _ => K Ex.ret (St.mk [(2, (AV.v (TV.one (At.bool Bool.false))))] [(Blk.mk Bool.false (Body.fl FloatKind.f32 b0)), (Blk.mk Bool.false (Body.fl FloatKind.f32 b1)), (Blk.mk Bool.false (Body.fl FloatKind.f32 b2))])) (fun c0_ c1_ => K (Ex.exit 0) (St.mk [(1, (AV.v (TV.one (At.ptr 3 0 3)))), (42, (AV.v (TV.one (At.vw 0 0 q29 1)))), (43, (AV.v (TV.one (At.int IntKind.i64 t43)))), (44, (AV.v (TV.one (At.int IntKind.i64 c0_)))), (45, (AV.v (TV.one (At.bool c1_))))] [(Blk.mk Bool.false (Body.fl FloatKind.f32 b0)), (Blk.mk Bool.false (Body.fl FloatKind.f32 b1)), (Blk.mk Bool.false (Body.fl FloatKind.f32 b2)), (Blk.mk Bool.true (Body.cells [(At.vw 0 0 q1i 1), (At.vw 1 0 q1v 1), (At.vw 2 0 q1t 1)]))])) := by kernel_rfl
theorem zf0 (q29 : Nat) (t43 : Int) (b0 : List Nat) (b1 : List Nat) (b2 : List Nat) (q1i : Nat) (q1v : Nat) (q1t : Nat) : ∀ (n : Nat) (t44 : Int), iter 94 5 3 (evC (R := Ex × St) Γ9 (evFn Γ9 8 8) 94 3 fi94.nt fi94.live fi94.nl 8 (findL 5 (loopsIn fi94.code))) n (St.mk [(1, (AV.v (TV.one (At.ptr 3 0 3)))), (42, (AV.v (TV.one (At.vw 0 0 q29 1)))), (43, (AV.v (TV.one (At.int IntKind.i64 t43)))), (44, (AV.v (TV.one (At.int IntKind.i64 t44))))] [(Blk.mk Bool.false (Body.fl FloatKind.f32 b0)), (Blk.mk Bool.false (Body.fl FloatKind.f32 b1)), (Blk.mk Bool.false (Body.fl FloatKind.f32 b2)), (Blk.mk Bool.true (Body.cells [(At.vw 0 0 q1i 1), (At.vw 1 0 q1v 1), (At.vw 2 0 q1t 1)]))]) (fun e st => some (e, st)) = (z6o q29 t43 b0 b1 b2 q1i q1v q1t) (z3v q29 t43 b0 q1i n t44) := by
  intro n
  induction n with
  | zero => intros; rfl
  | succ n ih =>
    intro t44
    refine Eq.trans (iter_succ ..) (Eq.trans (zev q29 t43 t44 b0 b1 b2 q1i q1v q1t (nextK 94 5 3 (evC (R := Ex × St) Γ9 (evFn Γ9 8 8) 94 3 fi94.nt fi94.live fi94.nl 8 (findL 5 (loopsIn fi94.code))) n (fun e st => some (e, st)))) (Eq.trans ?_ (zdj (z6o q29 t43 b0 b1 b2 q1i q1v q1t) rfl q29 t43 b0 q1i t44 (fun t44' => z3v q29 t43 b0 q1i n t44') (fun _ => some (Sum.inl ())) (fun c0_ c1_ => some (Sum.inr (c0_, c1_))))))
    exact congrArg (fun kn_ => z4t q29 t43 b0 q1i t44 kn_ (fun _ => (z6o q29 t43 b0 b1 b2 q1i q1v q1t) (some (Sum.inl ()))) (fun c0_ c1_ => (z6o q29 t43 b0 b1 b2 q1i q1v q1t) (some (Sum.inr (c0_, c1_))))) (funext fun t44' => ih t44')
theorem z1e : LoopOne Try.prog fnTab 94 5 z1r := lp_of (Γ := Γ9) tyTab_ok (FnL.ok fnTab_ok _ _) (LpL.ok lt9_ok) (SumL.ok tb9_ok _) mixed (fi := fi94) (by kernel_rfl) (by kernel_rfl) (by
  intro lo st out hp
  unfold z1r at hp
  split at hp
  · rename_i q29 t43 t44 b0 b1 b2 q1i q1v q1t
    injection hp with hp
    injection hp with h1 h2
    subst h2
    exact ⟨8, 8, big, Eq.trans (zf0 q29 t43 b0 b1 b2 q1i q1v q1t big t44) (zes q29 t43 b0 b1 b2 q1i q1v q1t (z3v q29 t43 b0 q1i big t44) h1)⟩
  · cases hp)
noncomputable def tb10 : List (Nat × (List PT → Option (Bool × AV × List Blk))) := [(129, z13), (133, z0l), (137, z14), (139, z1v), (25, z20), (59, z3d), (64, z21), (66, z35), (68, z2g), (70, z1p), (78, z2h), (82, z1o), (106, z17), (108, z0p), (115, z1z), (40, z2b), (58, z2n), (67, z30), (77, z31), (101, z2o), (102, z29), (107, z0m), (111, z1f), (118, z28), (120, z0x), (35, z34), (74, z1y), (126, z1x), (18, z24), (42, z2k), (84, z27), (37, z3a), (44, z2r), (89, z2e), (90, z3p), (125, z0d), (125, z09), (39, z3c), (125, z0h), (110, z0c), (110, z04), (110, z0f), (69, z36), (99, z3r), (100, z2m), (112, z3b), (105, z33), (55, z37)]
noncomputable def lt10 : List ((Nat × Nat) × (Nat → St → Option (Bool × LO))) := [((74, 3), z0w), ((18, 4), z11), ((84, 3), z10), ((89, 4), z16), ((90, 5), z2x), ((125, 2), z03), ((125, 2), z01), ((125, 2), z08), ((99, 6), z38), ((94, 5), z1r)]
noncomputable def Γ10 : Ctx := ⟨tyTab, fnTab, tblSum tb10, tblLp lt10⟩
theorem tb10_ok : SumL Try.prog tb10 := SumL.cons z0t (SumL.cons z0i (SumL.cons z0s (SumL.cons z15 (SumL.cons z1a (SumL.cons z2t (SumL.cons z18 (SumL.cons z2f (SumL.cons z1n (SumL.cons z0z (SumL.cons z1m (SumL.cons z12 (SumL.cons z0v (SumL.cons z0k (SumL.cons z19 (SumL.cons z1i (SumL.cons z1t (SumL.cons z26 (SumL.cons z25 (SumL.cons z1u (SumL.cons z1h (SumL.cons z0j (SumL.cons z0y (SumL.cons z1g (SumL.cons z0n (SumL.cons z2d (SumL.cons z1c (SumL.cons z1b (SumL.cons z1j (SumL.cons z1w (SumL.cons z1k (SumL.cons z2s (SumL.cons z22 (SumL.cons z1q (SumL.cons z39 (SumL.cons z0b (SumL.cons z06 (SumL.cons z2y (SumL.cons z0g (SumL.cons z0a (SumL.cons z07 (SumL.cons z0e (SumL.cons z2p (SumL.cons z3l (SumL.cons z23 (SumL.cons z2z (SumL.cons z2l (SumL.cons z2v (SumL.nil))))))))))))))))))))))))))))))))))))))))))))))))
theorem lt10_ok : LpL Try.prog fnTab lt10 := LpL.cons z0o (LpL.cons z0r (LpL.cons z0q (LpL.cons z0u (LpL.cons z2a (LpL.cons z02 (LpL.cons z00 (LpL.cons z05 (LpL.cons z2u (LpL.cons z1e (LpL.nil))))))))))
noncomputable def z2w : List PT → Option (Bool × AV × List Blk)
  | [.agg [.row 1 q0y (.fl .f32 q19), .row 1 q17 (.fl .f32 q1c), .row 1 q14 (.fl .f32 q1e)]] => some ((z9h q0y q19 q17 q1c q14 q1e), ((AV.v (TV.one (At.bool (z8w q0y q19 q17 q1c q14 q1e)))), []))
  | _ => none
def zde (q0y : Nat) (q19 : List Nat) (q17 : Nat) (q1c : List Nat) (q14 : Nat) (q1e : List Nat) : Option (Bool) → Option (AV × List Blk)
  | some r => some ((AV.v (TV.one (At.bool r))), [])
  | none => none
theorem zgs (q0y : Nat) (q19 : List Nat) (q17 : Nat) (q1c : List Nat) (q14 : Nat) (q1e : List Nat) : evFn Γ10 8 8 94 (impTs 0 [.agg [.row 1 q0y (.fl .f32 q19), .row 1 q17 (.fl .f32 q1c), .row 1 q14 (.fl .f32 q1e)]]).1 (impTs 0 [.agg [.row 1 q0y (.fl .f32 q19), .row 1 q17 (.fl .f32 q1c), .row 1 q14 (.fl .f32 q1e)]]).2 (expo (impTs 0 [.agg [.row 1 q0y (.fl .f32 q19), .row 1 q17 (.fl .f32 q1c), .row 1 q14 (.fl .f32 q1e)]]).2.length) = z6l q0y q19 q17 q1c q14 q1e (fun c0_ => some ((AV.v (TV.one (At.bool c0_))), [])) := by kernel_rfl
theorem z2j : SumOne Try.prog 94 z2w := sum_of (Γ := Γ10) (fuel := 8) (d := 8) tyTab_ok (FnL.ok fnTab_ok _ _) (LpL.ok lt10_ok) (SumL.ok tb10_ok _) mixed (by
  intro pts v news hp hc
  clear hc
  unfold z2w at hp
  split at hp
  · rename_i q0y q19 q17 q1c q14 q1e
    exact Eq.trans (Eq.trans (zgs q0y q19 q17 q1c q14 q1e) (zek (zde q0y q19 q17 q1c q14 q1e) rfl q0y q19 q17 q1c q14 q1e (fun c0_ => some c0_))) (fin_out (o := (zde q0y q19 q17 q1c q14 q1e)) (x := z6m q0y q19 q17 q1c q14 q1e) (d := default) (V := fun r => ((AV.v (TV.one (At.bool r))), [])) (fun r => rfl) hp)
  · cases hp)
noncomputable def tb11 : List (Nat × (List PT → Option (Bool × AV × List Blk))) := [(129, z13), (133, z0l), (137, z14), (139, z1v), (25, z20), (59, z3d), (64, z21), (66, z35), (68, z2g), (70, z1p), (78, z2h), (82, z1o), (106, z17), (108, z0p), (115, z1z), (40, z2b), (58, z2n), (67, z30), (77, z31), (101, z2o), (102, z29), (107, z0m), (111, z1f), (118, z28), (120, z0x), (35, z34), (74, z1y), (126, z1x), (18, z24), (42, z2k), (84, z27), (37, z3a), (44, z2r), (89, z2e), (90, z3p), (125, z0d), (125, z09), (39, z3c), (125, z0h), (110, z0c), (110, z04), (110, z0f), (69, z36), (99, z3r), (100, z2m), (112, z3b), (105, z33), (55, z37), (94, z2w)]
noncomputable def lt11 : List ((Nat × Nat) × (Nat → St → Option (Bool × LO))) := [((74, 3), z0w), ((18, 4), z11), ((84, 3), z10), ((89, 4), z16), ((90, 5), z2x), ((125, 2), z03), ((125, 2), z01), ((125, 2), z08), ((99, 6), z38), ((94, 5), z1r)]
noncomputable def Γ11 : Ctx := ⟨tyTab, fnTab, tblSum tb11, tblLp lt11⟩
theorem tb11_ok : SumL Try.prog tb11 := SumL.cons z0t (SumL.cons z0i (SumL.cons z0s (SumL.cons z15 (SumL.cons z1a (SumL.cons z2t (SumL.cons z18 (SumL.cons z2f (SumL.cons z1n (SumL.cons z0z (SumL.cons z1m (SumL.cons z12 (SumL.cons z0v (SumL.cons z0k (SumL.cons z19 (SumL.cons z1i (SumL.cons z1t (SumL.cons z26 (SumL.cons z25 (SumL.cons z1u (SumL.cons z1h (SumL.cons z0j (SumL.cons z0y (SumL.cons z1g (SumL.cons z0n (SumL.cons z2d (SumL.cons z1c (SumL.cons z1b (SumL.cons z1j (SumL.cons z1w (SumL.cons z1k (SumL.cons z2s (SumL.cons z22 (SumL.cons z1q (SumL.cons z39 (SumL.cons z0b (SumL.cons z06 (SumL.cons z2y (SumL.cons z0g (SumL.cons z0a (SumL.cons z07 (SumL.cons z0e (SumL.cons z2p (SumL.cons z3l (SumL.cons z23 (SumL.cons z2z (SumL.cons z2l (SumL.cons z2v (SumL.cons z2j (SumL.nil)))))))))))))))))))))))))))))))))))))))))))))))))
theorem lt11_ok : LpL Try.prog fnTab lt11 := LpL.cons z0o (LpL.cons z0r (LpL.cons z0q (LpL.cons z0u (LpL.cons z2a (LpL.cons z02 (LpL.cons z00 (LpL.cons z05 (LpL.cons z2u (LpL.cons z1e (LpL.nil))))))))))
noncomputable def tb12 : List (Nat × (List PT → Option (Bool × AV × List Blk))) := [(129, z13), (133, z0l), (137, z14), (139, z1v), (25, z20), (59, z3d), (64, z21), (66, z35), (68, z2g), (70, z1p), (78, z2h), (82, z1o), (106, z17), (108, z0p), (115, z1z), (40, z2b), (58, z2n), (67, z30), (77, z31), (101, z2o), (102, z29), (107, z0m), (111, z1f), (118, z28), (120, z0x), (35, z34), (74, z1y), (126, z1x), (18, z24), (42, z2k), (84, z27), (37, z3a), (44, z2r), (89, z2e), (90, z3p), (125, z0d), (125, z09), (39, z3c), (125, z0h), (110, z0c), (110, z04), (110, z0f), (69, z36), (99, z3r), (100, z2m), (112, z3b), (105, z33), (55, z37), (94, z2w)]
noncomputable def lt12 : List ((Nat × Nat) × (Nat → St → Option (Bool × LO))) := [((74, 3), z0w), ((18, 4), z11), ((84, 3), z10), ((89, 4), z16), ((90, 5), z2x), ((125, 2), z03), ((125, 2), z01), ((125, 2), z08), ((99, 6), z38), ((94, 5), z1r)]
noncomputable def Γ12 : Ctx := ⟨tyTab, fnTab, tblSum tb12, tblLp lt12⟩
theorem tb12_ok : SumL Try.prog tb12 := SumL.cons z0t (SumL.cons z0i (SumL.cons z0s (SumL.cons z15 (SumL.cons z1a (SumL.cons z2t (SumL.cons z18 (SumL.cons z2f (SumL.cons z1n (SumL.cons z0z (SumL.cons z1m (SumL.cons z12 (SumL.cons z0v (SumL.cons z0k (SumL.cons z19 (SumL.cons z1i (SumL.cons z1t (SumL.cons z26 (SumL.cons z25 (SumL.cons z1u (SumL.cons z1h (SumL.cons z0j (SumL.cons z0y (SumL.cons z1g (SumL.cons z0n (SumL.cons z2d (SumL.cons z1c (SumL.cons z1b (SumL.cons z1j (SumL.cons z1w (SumL.cons z1k (SumL.cons z2s (SumL.cons z22 (SumL.cons z1q (SumL.cons z39 (SumL.cons z0b (SumL.cons z06 (SumL.cons z2y (SumL.cons z0g (SumL.cons z0a (SumL.cons z07 (SumL.cons z0e (SumL.cons z2p (SumL.cons z3l (SumL.cons z23 (SumL.cons z2z (SumL.cons z2l (SumL.cons z2v (SumL.cons z2j (SumL.nil)))))))))))))))))))))))))))))))))))))))))))))))))
theorem lt12_ok : LpL Try.prog fnTab lt12 := LpL.cons z0o (LpL.cons z0r (LpL.cons z0q (LpL.cons z0u (LpL.cons z2a (LpL.cons z02 (LpL.cons z00 (LpL.cons z05 (LpL.cons z2u (LpL.cons z1e (LpL.nil))))))))))
noncomputable def z32 : Nat → St → Option (Bool × LO)
  | 4, (St.mk [(1, (AV.v (TV.one (At.ptr 4 0 7)))), (4, (AV.v (TV.one (At.flt FloatKind.f32 t4)))), (43, (AV.v (TV.one (At.vw 3 0 q28 3)))), (44, (AV.v (TV.one (At.int IntKind.i64 t44)))), (45, (AV.v (TV.one (At.int IntKind.i64 t45))))] [(Blk.mk Bool.false (Body.fl FloatKind.f32 b0)), (Blk.mk Bool.false (Body.fl FloatKind.f32 b1)), (Blk.mk Bool.false (Body.fl FloatKind.f32 b2)), (Blk.mk Bool.false (Body.fl FloatKind.f32 b3)), (Blk.mk Bool.true (Body.cells [(At.vw 0 0 q2b 1), (At.vw 1 0 q2c 1), (At.vw 2 0 q2a 1), (At.vw 3 0 q1s 3), (At.int IntKind.i64 q2k), (At.flt FloatKind.f32 q2l), (At.flt FloatKind.f32 q1p)]))]) => some ((z5u q28 t44 b3 q1p t4 t45), (LO.two (z5r q28 t44 b3 q1p t4 t45) (LO.one Ex.ret (St.mk [(2, (AV.v (TV.one (At.bool Bool.false))))] [(Blk.mk Bool.false (Body.fl FloatKind.f32 b0)), (Blk.mk Bool.false (Body.fl FloatKind.f32 b1)), (Blk.mk Bool.false (Body.fl FloatKind.f32 b2)), (Blk.mk Bool.false (Body.fl FloatKind.f32 b3))])) (LO.one (Ex.exit 0) (St.mk [(1, (AV.v (TV.one (At.ptr 4 0 7)))), (4, (AV.v (TV.one (At.flt FloatKind.f32 (z9k q28 t44 b3 q1p t4 t45))))), (43, (AV.v (TV.one (At.vw 3 0 q28 3)))), (44, (AV.v (TV.one (At.int IntKind.i64 t44)))), (45, (AV.v (TV.one (At.int IntKind.i64 (z9p q28 t44 b3 q1p t4 t45))))), (46, (AV.v (TV.one (At.bool (z9j q28 t44 b3 q1p t4 t45)))))] [(Blk.mk Bool.false (Body.fl FloatKind.f32 b0)), (Blk.mk Bool.false (Body.fl FloatKind.f32 b1)), (Blk.mk Bool.false (Body.fl FloatKind.f32 b2)), (Blk.mk Bool.false (Body.fl FloatKind.f32 b3)), (Blk.mk Bool.true (Body.cells [(At.vw 0 0 q2b 1), (At.vw 1 0 q2c 1), (At.vw 2 0 q2a 1), (At.vw 3 0 q1s 3), (At.int IntKind.i64 q2k), (At.flt FloatKind.f32 q2l), (At.flt FloatKind.f32 q1p)]))]))))
  | _, _ => none
def z78 (q28 : Nat) (t44 : Int) (b0 : List Nat) (b1 : List Nat) (b2 : List Nat) (b3 : List Nat) (q2b : Nat) (q2c : Nat) (q2a : Nat) (q1s : Nat) (q2k : Int) (q2l : Nat) (q1p : Nat) : Option ((Unit) ⊕ (Nat × Int × Bool)) → Option (Ex × St)
  | none => none
  | some (Sum.inl r) => some (Ex.ret, (St.mk [(2, (AV.v (TV.one (At.bool Bool.false))))] [(Blk.mk Bool.false (Body.fl FloatKind.f32 b0)), (Blk.mk Bool.false (Body.fl FloatKind.f32 b1)), (Blk.mk Bool.false (Body.fl FloatKind.f32 b2)), (Blk.mk Bool.false (Body.fl FloatKind.f32 b3))]))
  | some (Sum.inr r) => some ((Ex.exit 0), (St.mk [(1, (AV.v (TV.one (At.ptr 4 0 7)))), (4, (AV.v (TV.one (At.flt FloatKind.f32 r.1)))), (43, (AV.v (TV.one (At.vw 3 0 q28 3)))), (44, (AV.v (TV.one (At.int IntKind.i64 t44)))), (45, (AV.v (TV.one (At.int IntKind.i64 r.2.1)))), (46, (AV.v (TV.one (At.bool r.2.2))))] [(Blk.mk Bool.false (Body.fl FloatKind.f32 b0)), (Blk.mk Bool.false (Body.fl FloatKind.f32 b1)), (Blk.mk Bool.false (Body.fl FloatKind.f32 b2)), (Blk.mk Bool.false (Body.fl FloatKind.f32 b3)), (Blk.mk Bool.true (Body.cells [(At.vw 0 0 q2b 1), (At.vw 1 0 q2c 1), (At.vw 2 0 q2a 1), (At.vw 3 0 q1s 3), (At.int IntKind.i64 q2k), (At.flt FloatKind.f32 q2l), (At.flt FloatKind.f32 q1p)]))]))
def zfd (q28 : Nat) (t44 : Int) (b0 : List Nat) (b1 : List Nat) (b2 : List Nat) (b3 : List Nat) (q2b : Nat) (q2c : Nat) (q2a : Nat) (q1s : Nat) (q2k : Int) (q2l : Nat) (q1p : Nat) (x : Option ((Unit) ⊕ (Nat × Int × Bool))) : LO := (LO.two (oL x) (LO.one Ex.ret (St.mk [(2, (AV.v (TV.one (At.bool Bool.false))))] [(Blk.mk Bool.false (Body.fl FloatKind.f32 b0)), (Blk.mk Bool.false (Body.fl FloatKind.f32 b1)), (Blk.mk Bool.false (Body.fl FloatKind.f32 b2)), (Blk.mk Bool.false (Body.fl FloatKind.f32 b3))])) (LO.one (Ex.exit 0) (St.mk [(1, (AV.v (TV.one (At.ptr 4 0 7)))), (4, (AV.v (TV.one (At.flt FloatKind.f32 ((tR x).getD default).1)))), (43, (AV.v (TV.one (At.vw 3 0 q28 3)))), (44, (AV.v (TV.one (At.int IntKind.i64 t44)))), (45, (AV.v (TV.one (At.int IntKind.i64 ((tR x).getD default).2.1)))), (46, (AV.v (TV.one (At.bool ((tR x).getD default).2.2))))] [(Blk.mk Bool.false (Body.fl FloatKind.f32 b0)), (Blk.mk Bool.false (Body.fl FloatKind.f32 b1)), (Blk.mk Bool.false (Body.fl FloatKind.f32 b2)), (Blk.mk Bool.false (Body.fl FloatKind.f32 b3)), (Blk.mk Bool.true (Body.cells [(At.vw 0 0 q2b 1), (At.vw 1 0 q2c 1), (At.vw 2 0 q2a 1), (At.vw 3 0 q1s 3), (At.int IntKind.i64 q2k), (At.flt FloatKind.f32 q2l), (At.flt FloatKind.f32 q1p)]))])))
theorem zg7 (q28 : Nat) (t44 : Int) (b0 : List Nat) (b1 : List Nat) (b2 : List Nat) (b3 : List Nat) (q2b : Nat) (q2c : Nat) (q2a : Nat) (q1s : Nat) (q2k : Int) (q2l : Nat) (q1p : Nat) : ∀ x : Option ((Unit) ⊕ (Nat × Int × Bool)), x.isSome = true → (z78 q28 t44 b0 b1 b2 b3 q2b q2c q2a q1s q2k q2l q1p) x = some (pick (zfd q28 t44 b0 b1 b2 b3 q2b q2c q2a q1s q2k q2l q1p x))
  | none, h => by cases h
  | some (Sum.inl r), _ => rfl
  | some (Sum.inr r), _ => rfl
theorem zfu (t4 : Nat) (q28 : Nat) (t44 : Int) (t45 : Int) (b0 : List Nat) (b1 : List Nat) (b2 : List Nat) (b3 : List Nat) (q2b : Nat) (q2c : Nat) (q2a : Nat) (q1s : Nat) (q2k : Int) (q2l : Nat) (q1p : Nat) (K : Ex → St → Option (Ex × St)) : evC (R := Ex × St) Γ12 (evFn Γ12 8 8) 48 4 fi48.nt fi48.live fi48.nl 8 (findL 6 (loopsIn fi48.code)) (St.mk [(1, (AV.v (TV.one (At.ptr 4 0 7)))), (4, (AV.v (TV.one (At.flt FloatKind.f32 t4)))), (43, (AV.v (TV.one (At.vw 3 0 q28 3)))), (44, (AV.v (TV.one (At.int IntKind.i64 t44)))), (45, (AV.v (TV.one (At.int IntKind.i64 t45))))] [(Blk.mk Bool.false (Body.fl FloatKind.f32 b0)), (Blk.mk Bool.false (Body.fl FloatKind.f32 b1)), (Blk.mk Bool.false (Body.fl FloatKind.f32 b2)), (Blk.mk Bool.false (Body.fl FloatKind.f32 b3)), (Blk.mk Bool.true (Body.cells [(At.vw 0 0 q2b 1), (At.vw 1 0 q2c 1), (At.vw 2 0 q2a 1), (At.vw 3 0 q1s 3), (At.int IntKind.i64 q2k), (At.flt FloatKind.f32 q2l), (At.flt FloatKind.f32 q1p)]))]) K = z56 q28 t44 b3 q1p t4 t45 (fun t4' t45' => K .normal (St.mk [(1, (AV.v (TV.one (At.ptr 4 0 7)))), (4, (AV.v (TV.one (At.flt FloatKind.f32 t4')))), (43, (AV.v (TV.one (At.vw 3 0 q28 3)))), (44, (AV.v (TV.one (At.int IntKind.i64 t44)))), (45, (AV.v (TV.one (At.int IntKind.i64 t45'))))] [(Blk.mk Bool.false (Body.fl FloatKind.f32 b0)), (Blk.mk Bool.false (Body.fl FloatKind.f32 b1)), (Blk.mk Bool.false (Body.fl FloatKind.f32 b2)), (Blk.mk Bool.false (Body.fl FloatKind.f32 b3)), (Blk.mk Bool.true (Body.cells [(At.vw 0 0 q2b 1), (At.vw 1 0 q2c 1), (At.vw 2 0 q2a 1), (At.vw 3 0 q1s 3), (At.int IntKind.i64 q2k), (At.flt FloatKind.f32 q2l), (At.flt FloatKind.f32 q1p)]))])) (fun _ => K Ex.ret (St.mk [(2, (AV.v (TV.one (At.bool Bool.false))))] [(Blk.mk Bool.false (Body.fl FloatKind.f32 b0)), (Blk.mk Bool.false (Body.fl FloatKind.f32 b1)), (Blk.mk Bool.false (Body.fl FloatKind.f32 b2)), (Blk.mk Bool.false (Body.fl FloatKind.f32 b3))])) (fun c0_ c1_ c2_ => K (Ex.exit 0) (St.mk [(1, (AV.v (TV.one (At.ptr 4 0 7)))), (4, (AV.v (TV.one (At.flt FloatKind.f32 c0_)))), (43, (AV.v (TV.one (At.vw 3 0 q28 3)))), (44, (AV.v (TV.one (At.int IntKind.i64 t44)))), (45, (AV.v (TV.one (At.int IntKind.i64 c1_)))), (46, (AV.v (TV.one (At.bool c2_))))] [(Blk.mk Bool.false (Body.fl FloatKind.f32 b0)), (Blk.mk Bool.false (Body.fl FloatKind.f32 b1)), (Blk.mk Bool.false (Body.fl FloatKind.f32 b2)), (Blk.mk Bool.false (Body.fl FloatKind.f32 b3)), (Blk.mk Bool.true (Body.cells [(At.vw 0 0 q2b 1), (At.vw 1 0 q2c 1), (At.vw 2 0 q2a 1), (At.vw 3 0 q1s 3), (At.int IntKind.i64 q2k), (At.flt FloatKind.f32 q2l), (At.flt FloatKind.f32 q1p)]))])) := by kernel_rfl
theorem zfz (q28 : Nat) (t44 : Int) (b0 : List Nat) (b1 : List Nat) (b2 : List Nat) (b3 : List Nat) (q2b : Nat) (q2c : Nat) (q2a : Nat) (q1s : Nat) (q2k : Int) (q2l : Nat) (q1p : Nat) : ∀ (n : Nat) (t4 : Nat) (t45 : Int), iter 48 6 4 (evC (R := Ex × St) Γ12 (evFn Γ12 8 8) 48 4 fi48.nt fi48.live fi48.nl 8 (findL 6 (loopsIn fi48.code))) n (St.mk [(1, (AV.v (TV.one (At.ptr 4 0 7)))), (4, (AV.v (TV.one (At.flt FloatKind.f32 t4)))), (43, (AV.v (TV.one (At.vw 3 0 q28 3)))), (44, (AV.v (TV.one (At.int IntKind.i64 t44)))), (45, (AV.v (TV.one (At.int IntKind.i64 t45))))] [(Blk.mk Bool.false (Body.fl FloatKind.f32 b0)), (Blk.mk Bool.false (Body.fl FloatKind.f32 b1)), (Blk.mk Bool.false (Body.fl FloatKind.f32 b2)), (Blk.mk Bool.false (Body.fl FloatKind.f32 b3)), (Blk.mk Bool.true (Body.cells [(At.vw 0 0 q2b 1), (At.vw 1 0 q2c 1), (At.vw 2 0 q2a 1), (At.vw 3 0 q1s 3), (At.int IntKind.i64 q2k), (At.flt FloatKind.f32 q2l), (At.flt FloatKind.f32 q1p)]))]) (fun e st => some (e, st)) = (z78 q28 t44 b0 b1 b2 b3 q2b q2c q2a q1s q2k q2l q1p) (z3s q28 t44 b3 q1p n t4 t45) := by
  intro n
  induction n with
  | zero => intros; rfl
  | succ n ih =>
    intro t4 t45
    refine Eq.trans (iter_succ ..) (Eq.trans (zfu t4 q28 t44 t45 b0 b1 b2 b3 q2b q2c q2a q1s q2k q2l q1p (nextK 48 6 4 (evC (R := Ex × St) Γ12 (evFn Γ12 8 8) 48 4 fi48.nt fi48.live fi48.nl 8 (findL 6 (loopsIn fi48.code))) n (fun e st => some (e, st)))) (Eq.trans ?_ (ze6 (z78 q28 t44 b0 b1 b2 b3 q2b q2c q2a q1s q2k q2l q1p) rfl q28 t44 b3 q1p t4 t45 (fun t4' t45' => z3s q28 t44 b3 q1p n t4' t45') (fun _ => some (Sum.inl ())) (fun c0_ c1_ c2_ => some (Sum.inr (c0_, c1_, c2_))))))
    exact congrArg (fun kn_ => z56 q28 t44 b3 q1p t4 t45 kn_ (fun _ => (z78 q28 t44 b0 b1 b2 b3 q2b q2c q2a q1s q2k q2l q1p) (some (Sum.inl ()))) (fun c0_ c1_ c2_ => (z78 q28 t44 b0 b1 b2 b3 q2b q2c q2a q1s q2k q2l q1p) (some (Sum.inr (c0_, c1_, c2_))))) (funext fun t4' => funext fun t45' => ih t4' t45')
theorem z2q : LoopOne Try.prog fnTab 48 6 z32 := lp_of (Γ := Γ12) tyTab_ok (FnL.ok fnTab_ok _ _) (LpL.ok lt12_ok) (SumL.ok tb12_ok _) mixed (fi := fi48) (by kernel_rfl) (by kernel_rfl) (by
  intro lo st out hp
  unfold z32 at hp
  split at hp
  · rename_i t4 q28 t44 t45 b0 b1 b2 b3 q2b q2c q2a q1s q2k q2l q1p
    injection hp with hp
    injection hp with h1 h2
    subst h2
    exact ⟨8, 8, big, Eq.trans (zfz q28 t44 b0 b1 b2 b3 q2b q2c q2a q1s q2k q2l q1p big t4 t45) (zg7 q28 t44 b0 b1 b2 b3 q2b q2c q2a q1s q2k q2l q1p (z3s q28 t44 b3 q1p big t4 t45) h1)⟩
  · cases hp)
noncomputable def tb13 : List (Nat × (List PT → Option (Bool × AV × List Blk))) := [(129, z13), (133, z0l), (137, z14), (139, z1v), (25, z20), (59, z3d), (64, z21), (66, z35), (68, z2g), (70, z1p), (78, z2h), (82, z1o), (106, z17), (108, z0p), (115, z1z), (40, z2b), (58, z2n), (67, z30), (77, z31), (101, z2o), (102, z29), (107, z0m), (111, z1f), (118, z28), (120, z0x), (35, z34), (74, z1y), (126, z1x), (18, z24), (42, z2k), (84, z27), (37, z3a), (44, z2r), (89, z2e), (90, z3p), (125, z0d), (125, z09), (39, z3c), (125, z0h), (110, z0c), (110, z04), (110, z0f), (69, z36), (99, z3r), (100, z2m), (112, z3b), (105, z33), (55, z37), (94, z2w)]
noncomputable def lt13 : List ((Nat × Nat) × (Nat → St → Option (Bool × LO))) := [((74, 3), z0w), ((18, 4), z11), ((84, 3), z10), ((89, 4), z16), ((90, 5), z2x), ((125, 2), z03), ((125, 2), z01), ((125, 2), z08), ((99, 6), z38), ((94, 5), z1r), ((48, 6), z32)]
noncomputable def Γ13 : Ctx := ⟨tyTab, fnTab, tblSum tb13, tblLp lt13⟩
theorem tb13_ok : SumL Try.prog tb13 := SumL.cons z0t (SumL.cons z0i (SumL.cons z0s (SumL.cons z15 (SumL.cons z1a (SumL.cons z2t (SumL.cons z18 (SumL.cons z2f (SumL.cons z1n (SumL.cons z0z (SumL.cons z1m (SumL.cons z12 (SumL.cons z0v (SumL.cons z0k (SumL.cons z19 (SumL.cons z1i (SumL.cons z1t (SumL.cons z26 (SumL.cons z25 (SumL.cons z1u (SumL.cons z1h (SumL.cons z0j (SumL.cons z0y (SumL.cons z1g (SumL.cons z0n (SumL.cons z2d (SumL.cons z1c (SumL.cons z1b (SumL.cons z1j (SumL.cons z1w (SumL.cons z1k (SumL.cons z2s (SumL.cons z22 (SumL.cons z1q (SumL.cons z39 (SumL.cons z0b (SumL.cons z06 (SumL.cons z2y (SumL.cons z0g (SumL.cons z0a (SumL.cons z07 (SumL.cons z0e (SumL.cons z2p (SumL.cons z3l (SumL.cons z23 (SumL.cons z2z (SumL.cons z2l (SumL.cons z2v (SumL.cons z2j (SumL.nil)))))))))))))))))))))))))))))))))))))))))))))))))
theorem lt13_ok : LpL Try.prog fnTab lt13 := LpL.cons z0o (LpL.cons z0r (LpL.cons z0q (LpL.cons z0u (LpL.cons z2a (LpL.cons z02 (LpL.cons z00 (LpL.cons z05 (LpL.cons z2u (LpL.cons z1e (LpL.cons z2q (LpL.nil)))))))))))
noncomputable def z3o : List PT → Option (Bool × AV × List Blk)
  | [.agg [.row 1 q0m (.fl .f32 q0s), .row 1 q0p (.fl .f32 q0v), .row 1 q0q (.fl .f32 q0u), .row 3 q0w (.fl .f32 q13), .s (.int .i64 q1d), .s (.flt .f32 q1g), .s (.flt .f32 q1h)]] => some ((zb4 q0m q0s q0p q0v q0q q0u q0w q13 q1d q1g q1h), ((AV.v (TV.one (At.bool (za8 q0m q0s q0p q0v q0q q0u q0w q13 q1d q1g q1h)))), []))
  | _ => none
def zdr (q0m : Nat) (q0s : List Nat) (q0p : Nat) (q0v : List Nat) (q0q : Nat) (q0u : List Nat) (q0w : Nat) (q13 : List Nat) (q1d : Int) (q1g : Nat) (q1h : Nat) : Option (Bool) → Option (AV × List Blk)
  | some r => some ((AV.v (TV.one (At.bool r))), [])
  | none => none
theorem zhx (q0m : Nat) (q0s : List Nat) (q0p : Nat) (q0v : List Nat) (q0q : Nat) (q0u : List Nat) (q0w : Nat) (q13 : List Nat) (q1d : Int) (q1g : Nat) (q1h : Nat) : evFn Γ13 8 8 48 (impTs 0 [.agg [.row 1 q0m (.fl .f32 q0s), .row 1 q0p (.fl .f32 q0v), .row 1 q0q (.fl .f32 q0u), .row 3 q0w (.fl .f32 q13), .s (.int .i64 q1d), .s (.flt .f32 q1g), .s (.flt .f32 q1h)]]).1 (impTs 0 [.agg [.row 1 q0m (.fl .f32 q0s), .row 1 q0p (.fl .f32 q0v), .row 1 q0q (.fl .f32 q0u), .row 3 q0w (.fl .f32 q13), .s (.int .i64 q1d), .s (.flt .f32 q1g), .s (.flt .f32 q1h)]]).2 (expo (impTs 0 [.agg [.row 1 q0m (.fl .f32 q0s), .row 1 q0p (.fl .f32 q0v), .row 1 q0q (.fl .f32 q0u), .row 3 q0w (.fl .f32 q13), .s (.int .i64 q1d), .s (.flt .f32 q1g), .s (.flt .f32 q1h)]]).2.length) = z7f q0m q0s q0p q0v q0q q0u q0w q13 q1d q1g q1h (fun c0_ => some ((AV.v (TV.one (At.bool c0_))), [])) := by kernel_rfl
theorem z3e : SumOne Try.prog 48 z3o := sum_of (Γ := Γ13) (fuel := 8) (d := 8) tyTab_ok (FnL.ok fnTab_ok _ _) (LpL.ok lt13_ok) (SumL.ok tb13_ok _) mixed (by
  intro pts v news hp hc
  clear hc
  unfold z3o at hp
  split at hp
  · rename_i q0m q0s q0p q0v q0q q0u q0w q13 q1d q1g q1h
    exact Eq.trans (Eq.trans (zhx q0m q0s q0p q0v q0q q0u q0w q13 q1d q1g q1h) (zfi (zdr q0m q0s q0p q0v q0q q0u q0w q13 q1d q1g q1h) rfl q0m q0s q0p q0v q0q q0u q0w q13 q1d q1g q1h (fun c0_ => some c0_))) (fin_out (o := (zdr q0m q0s q0p q0v q0q q0u q0w q13 q1d q1g q1h)) (x := z7n q0m q0s q0p q0v q0q q0u q0w q13 q1d q1g q1h) (d := default) (V := fun r => ((AV.v (TV.one (At.bool r))), [])) (fun r => rfl) hp)
  · cases hp)
noncomputable def tb14 : List (Nat × (List PT → Option (Bool × AV × List Blk))) := [(129, z13), (133, z0l), (137, z14), (139, z1v), (25, z20), (59, z3d), (64, z21), (66, z35), (68, z2g), (70, z1p), (78, z2h), (82, z1o), (106, z17), (108, z0p), (115, z1z), (40, z2b), (58, z2n), (67, z30), (77, z31), (101, z2o), (102, z29), (107, z0m), (111, z1f), (118, z28), (120, z0x), (35, z34), (74, z1y), (126, z1x), (18, z24), (42, z2k), (84, z27), (37, z3a), (44, z2r), (89, z2e), (90, z3p), (125, z0d), (125, z09), (39, z3c), (125, z0h), (110, z0c), (110, z04), (110, z0f), (69, z36), (99, z3r), (100, z2m), (112, z3b), (105, z33), (55, z37), (94, z2w), (48, z3o)]
noncomputable def lt14 : List ((Nat × Nat) × (Nat → St → Option (Bool × LO))) := [((74, 3), z0w), ((18, 4), z11), ((84, 3), z10), ((89, 4), z16), ((90, 5), z2x), ((125, 2), z03), ((125, 2), z01), ((125, 2), z08), ((99, 6), z38), ((94, 5), z1r), ((48, 6), z32)]
noncomputable def Γ14 : Ctx := ⟨tyTab, fnTab, tblSum tb14, tblLp lt14⟩
theorem tb14_ok : SumL Try.prog tb14 := SumL.cons z0t (SumL.cons z0i (SumL.cons z0s (SumL.cons z15 (SumL.cons z1a (SumL.cons z2t (SumL.cons z18 (SumL.cons z2f (SumL.cons z1n (SumL.cons z0z (SumL.cons z1m (SumL.cons z12 (SumL.cons z0v (SumL.cons z0k (SumL.cons z19 (SumL.cons z1i (SumL.cons z1t (SumL.cons z26 (SumL.cons z25 (SumL.cons z1u (SumL.cons z1h (SumL.cons z0j (SumL.cons z0y (SumL.cons z1g (SumL.cons z0n (SumL.cons z2d (SumL.cons z1c (SumL.cons z1b (SumL.cons z1j (SumL.cons z1w (SumL.cons z1k (SumL.cons z2s (SumL.cons z22 (SumL.cons z1q (SumL.cons z39 (SumL.cons z0b (SumL.cons z06 (SumL.cons z2y (SumL.cons z0g (SumL.cons z0a (SumL.cons z07 (SumL.cons z0e (SumL.cons z2p (SumL.cons z3l (SumL.cons z23 (SumL.cons z2z (SumL.cons z2l (SumL.cons z2v (SumL.cons z2j (SumL.cons z3e (SumL.nil))))))))))))))))))))))))))))))))))))))))))))))))))
theorem lt14_ok : LpL Try.prog fnTab lt14 := LpL.cons z0o (LpL.cons z0r (LpL.cons z0q (LpL.cons z0u (LpL.cons z2a (LpL.cons z02 (LpL.cons z00 (LpL.cons z05 (LpL.cons z2u (LpL.cons z1e (LpL.cons z2q (LpL.nil)))))))))))
noncomputable def z3q : List PT → Option (Bool × AV × List Blk)
  | [.agg [.row 1 q04 (.fl .f32 q07), .row 1 q05 (.fl .f32 q09), .row 1 q06 (.fl .f32 q0a), .row 3 q0d (.fl .f32 q0i), .s (.int .i64 q0r), .s (.flt .f32 q15), .s (.flt .f32 q16)], .one (.s (.int .i64 i))] => some ((zbf q04 q07 q05 q09 q06 q0a q0d q0i q0r q15 q16 i), ((AV.tup [(TV.one (At.flt FloatKind.f32 (z8j q04 q07 q05 q09 q06 q0a q0d q0i q0r q15 q16 i))), (TV.one (At.bool (zaj q04 q07 q05 q09 q06 q0a q0d q0i q0r q15 q16 i)))]), []))
  | _ => none
def zdp (q04 : Nat) (q07 : List Nat) (q05 : Nat) (q09 : List Nat) (q06 : Nat) (q0a : List Nat) (q0d : Nat) (q0i : List Nat) (q0r : Int) (q15 : Nat) (q16 : Nat) (i : Int) : Option (Nat × Bool) → Option (AV × List Blk)
  | some r => some ((AV.tup [(TV.one (At.flt FloatKind.f32 r.1)), (TV.one (At.bool r.2))]), [])
  | none => none
theorem zhi (q04 : Nat) (q07 : List Nat) (q05 : Nat) (q09 : List Nat) (q06 : Nat) (q0a : List Nat) (q0d : Nat) (q0i : List Nat) (q0r : Int) (q15 : Nat) (q16 : Nat) (i : Int) : evFn Γ14 8 8 56 (impTs 0 [.agg [.row 1 q04 (.fl .f32 q07), .row 1 q05 (.fl .f32 q09), .row 1 q06 (.fl .f32 q0a), .row 3 q0d (.fl .f32 q0i), .s (.int .i64 q0r), .s (.flt .f32 q15), .s (.flt .f32 q16)], .one (.s (.int .i64 i))]).1 (impTs 0 [.agg [.row 1 q04 (.fl .f32 q07), .row 1 q05 (.fl .f32 q09), .row 1 q06 (.fl .f32 q0a), .row 3 q0d (.fl .f32 q0i), .s (.int .i64 q0r), .s (.flt .f32 q15), .s (.flt .f32 q16)], .one (.s (.int .i64 i))]).2 (expo (impTs 0 [.agg [.row 1 q04 (.fl .f32 q07), .row 1 q05 (.fl .f32 q09), .row 1 q06 (.fl .f32 q0a), .row 3 q0d (.fl .f32 q0i), .s (.int .i64 q0r), .s (.flt .f32 q15), .s (.flt .f32 q16)], .one (.s (.int .i64 i))]).2.length) = z7i q04 q07 q05 q09 q06 q0a q0d q0i q0r q15 q16 i (fun c0_ c1_ => some ((AV.tup [(TV.one (At.flt FloatKind.f32 c0_)), (TV.one (At.bool c1_))]), [])) := by kernel_rfl
theorem z3m : SumOne Try.prog 56 z3q := sum_of (Γ := Γ14) (fuel := 8) (d := 8) tyTab_ok (FnL.ok fnTab_ok _ _) (LpL.ok lt14_ok) (SumL.ok tb14_ok _) mixed (by
  intro pts v news hp hc
  clear hc
  unfold z3q at hp
  split at hp
  · rename_i q04 q07 q05 q09 q06 q0a q0d q0i q0r q15 q16 i
    exact Eq.trans (Eq.trans (zhi q04 q07 q05 q09 q06 q0a q0d q0i q0r q15 q16 i) (zf7 (zdp q04 q07 q05 q09 q06 q0a q0d q0i q0r q15 q16 i) rfl q04 q07 q05 q09 q06 q0a q0d q0i q0r q15 q16 i (fun c0_ c1_ => some (c0_, c1_)))) (fin_out (o := (zdp q04 q07 q05 q09 q06 q0a q0d q0i q0r q15 q16 i)) (x := z6c q04 q07 q05 q09 q06 q0a q0d q0i q0r q15 q16 i) (d := default) (V := fun r => ((AV.tup [(TV.one (At.flt FloatKind.f32 r.1)), (TV.one (At.bool r.2))]), [])) (fun r => rfl) hp)
  · cases hp)
noncomputable def tb15 : List (Nat × (List PT → Option (Bool × AV × List Blk))) := [(129, z13), (133, z0l), (137, z14), (139, z1v), (25, z20), (59, z3d), (64, z21), (66, z35), (68, z2g), (70, z1p), (78, z2h), (82, z1o), (106, z17), (108, z0p), (115, z1z), (40, z2b), (58, z2n), (67, z30), (77, z31), (101, z2o), (102, z29), (107, z0m), (111, z1f), (118, z28), (120, z0x), (35, z34), (74, z1y), (126, z1x), (18, z24), (42, z2k), (84, z27), (37, z3a), (44, z2r), (89, z2e), (90, z3p), (125, z0d), (125, z09), (39, z3c), (125, z0h), (110, z0c), (110, z04), (110, z0f), (69, z36), (99, z3r), (100, z2m), (112, z3b), (105, z33), (55, z37), (94, z2w), (48, z3o), (56, z3q)]
noncomputable def lt15 : List ((Nat × Nat) × (Nat → St → Option (Bool × LO))) := [((74, 3), z0w), ((18, 4), z11), ((84, 3), z10), ((89, 4), z16), ((90, 5), z2x), ((125, 2), z03), ((125, 2), z01), ((125, 2), z08), ((99, 6), z38), ((94, 5), z1r), ((48, 6), z32)]
noncomputable def Γ15 : Ctx := ⟨tyTab, fnTab, tblSum tb15, tblLp lt15⟩
theorem tb15_ok : SumL Try.prog tb15 := SumL.cons z0t (SumL.cons z0i (SumL.cons z0s (SumL.cons z15 (SumL.cons z1a (SumL.cons z2t (SumL.cons z18 (SumL.cons z2f (SumL.cons z1n (SumL.cons z0z (SumL.cons z1m (SumL.cons z12 (SumL.cons z0v (SumL.cons z0k (SumL.cons z19 (SumL.cons z1i (SumL.cons z1t (SumL.cons z26 (SumL.cons z25 (SumL.cons z1u (SumL.cons z1h (SumL.cons z0j (SumL.cons z0y (SumL.cons z1g (SumL.cons z0n (SumL.cons z2d (SumL.cons z1c (SumL.cons z1b (SumL.cons z1j (SumL.cons z1w (SumL.cons z1k (SumL.cons z2s (SumL.cons z22 (SumL.cons z1q (SumL.cons z39 (SumL.cons z0b (SumL.cons z06 (SumL.cons z2y (SumL.cons z0g (SumL.cons z0a (SumL.cons z07 (SumL.cons z0e (SumL.cons z2p (SumL.cons z3l (SumL.cons z23 (SumL.cons z2z (SumL.cons z2l (SumL.cons z2v (SumL.cons z2j (SumL.cons z3e (SumL.cons z3m (SumL.nil)))))))))))))))))))))))))))))))))))))))))))))))))))
theorem lt15_ok : LpL Try.prog fnTab lt15 := LpL.cons z0o (LpL.cons z0r (LpL.cons z0q (LpL.cons z0u (LpL.cons z2a (LpL.cons z02 (LpL.cons z00 (LpL.cons z05 (LpL.cons z2u (LpL.cons z1e (LpL.cons z2q (LpL.nil)))))))))))
noncomputable def z2i : List PT → Option (Bool × AV × List Blk)
  | [.agg [.row 1 q00 (.fl .f32 q08), .row 1 q02 (.fl .f32 q0b), .row 1 q01 (.fl .f32 q0c), .row 3 q03 (.fl .f32 q0j), .s (.int .i64 q0o), .s (.flt .f32 q11), .s (.flt .f32 q10)], .one (.s (.int .i64 aI))] => some ((z9c q00 q08 q02 q0b q01 q0c q03 q0j q0o q11 q10 aI), ((AV.v (TV.one (At.bool (z8x q00 q08 q02 q0b q01 q0c q03 q0j q0o q11 q10 aI)))), []))
  | _ => none
def zcv (q00 : Nat) (q08 : List Nat) (q02 : Nat) (q0b : List Nat) (q01 : Nat) (q0c : List Nat) (q03 : Nat) (q0j : List Nat) (q0o : Int) (q11 : Nat) (q10 : Nat) (aI : Int) : Option (Bool) → Option (AV × List Blk)
  | some r => some ((AV.v (TV.one (At.bool r))), [])
  | none => none
theorem ze9 (q00 : Nat) (q08 : List Nat) (q02 : Nat) (q0b : List Nat) (q01 : Nat) (q0c : List Nat) (q03 : Nat) (q0j : List Nat) (q0o : Int) (q11 : Nat) (q10 : Nat) (aI : Int) : evFn Γ15 8 8 14 (impTs 0 [.agg [.row 1 q00 (.fl .f32 q08), .row 1 q02 (.fl .f32 q0b), .row 1 q01 (.fl .f32 q0c), .row 3 q03 (.fl .f32 q0j), .s (.int .i64 q0o), .s (.flt .f32 q11), .s (.flt .f32 q10)], .one (.s (.int .i64 aI))]).1 (impTs 0 [.agg [.row 1 q00 (.fl .f32 q08), .row 1 q02 (.fl .f32 q0b), .row 1 q01 (.fl .f32 q0c), .row 3 q03 (.fl .f32 q0j), .s (.int .i64 q0o), .s (.flt .f32 q11), .s (.flt .f32 q10)], .one (.s (.int .i64 aI))]).2 (expo (impTs 0 [.agg [.row 1 q00 (.fl .f32 q08), .row 1 q02 (.fl .f32 q0b), .row 1 q01 (.fl .f32 q0c), .row 3 q03 (.fl .f32 q0j), .s (.int .i64 q0o), .s (.flt .f32 q11), .s (.flt .f32 q10)], .one (.s (.int .i64 aI))]).2.length) = z5s q00 q08 q02 q0b q01 q0c q03 q0j q0o q11 q10 aI (fun c0_ => some ((AV.v (TV.one (At.bool c0_))), [])) := by kernel_rfl
theorem z2c : SumOne Try.prog 14 z2i := sum_of (Γ := Γ15) (fuel := 8) (d := 8) tyTab_ok (FnL.ok fnTab_ok _ _) (LpL.ok lt15_ok) (SumL.ok tb15_ok _) mixed (by
  intro pts v news hp hc
  clear hc
  unfold z2i at hp
  split at hp
  · rename_i q00 q08 q02 q0b q01 q0c q03 q0j q0o q11 q10 aI
    exact Eq.trans (Eq.trans (ze9 q00 q08 q02 q0b q01 q0c q03 q0j q0o q11 q10 aI) (zdf (zcv q00 q08 q02 q0b q01 q0c q03 q0j q0o q11 q10 aI) rfl q00 q08 q02 q0b q01 q0c q03 q0j q0o q11 q10 aI (fun c0_ => some c0_))) (fin_out (o := (zcv q00 q08 q02 q0b q01 q0c q03 q0j q0o q11 q10 aI)) (x := z5q q00 q08 q02 q0b q01 q0c q03 q0j q0o q11 q10 aI) (d := default) (V := fun r => ((AV.v (TV.one (At.bool r))), [])) (fun r => rfl) hp)
  · cases hp)
noncomputable def tb16 : List (Nat × (List PT → Option (Bool × AV × List Blk))) := [(129, z13), (133, z0l), (137, z14), (139, z1v), (25, z20), (59, z3d), (64, z21), (66, z35), (68, z2g), (70, z1p), (78, z2h), (82, z1o), (106, z17), (108, z0p), (115, z1z), (40, z2b), (58, z2n), (67, z30), (77, z31), (101, z2o), (102, z29), (107, z0m), (111, z1f), (118, z28), (120, z0x), (35, z34), (74, z1y), (126, z1x), (18, z24), (42, z2k), (84, z27), (37, z3a), (44, z2r), (89, z2e), (90, z3p), (125, z0d), (125, z09), (39, z3c), (125, z0h), (110, z0c), (110, z04), (110, z0f), (69, z36), (99, z3r), (100, z2m), (112, z3b), (105, z33), (55, z37), (94, z2w), (48, z3o), (56, z3q), (14, z2i)]
noncomputable def lt16 : List ((Nat × Nat) × (Nat → St → Option (Bool × LO))) := [((74, 3), z0w), ((18, 4), z11), ((84, 3), z10), ((89, 4), z16), ((90, 5), z2x), ((125, 2), z03), ((125, 2), z01), ((125, 2), z08), ((99, 6), z38), ((94, 5), z1r), ((48, 6), z32)]
noncomputable def Γ16 : Ctx := ⟨tyTab, fnTab, tblSum tb16, tblLp lt16⟩
theorem tb16_ok : SumL Try.prog tb16 := SumL.cons z0t (SumL.cons z0i (SumL.cons z0s (SumL.cons z15 (SumL.cons z1a (SumL.cons z2t (SumL.cons z18 (SumL.cons z2f (SumL.cons z1n (SumL.cons z0z (SumL.cons z1m (SumL.cons z12 (SumL.cons z0v (SumL.cons z0k (SumL.cons z19 (SumL.cons z1i (SumL.cons z1t (SumL.cons z26 (SumL.cons z25 (SumL.cons z1u (SumL.cons z1h (SumL.cons z0j (SumL.cons z0y (SumL.cons z1g (SumL.cons z0n (SumL.cons z2d (SumL.cons z1c (SumL.cons z1b (SumL.cons z1j (SumL.cons z1w (SumL.cons z1k (SumL.cons z2s (SumL.cons z22 (SumL.cons z1q (SumL.cons z39 (SumL.cons z0b (SumL.cons z06 (SumL.cons z2y (SumL.cons z0g (SumL.cons z0a (SumL.cons z07 (SumL.cons z0e (SumL.cons z2p (SumL.cons z3l (SumL.cons z23 (SumL.cons z2z (SumL.cons z2l (SumL.cons z2v (SumL.cons z2j (SumL.cons z3e (SumL.cons z3m (SumL.cons z2c (SumL.nil))))))))))))))))))))))))))))))))))))))))))))))))))))
theorem lt16_ok : LpL Try.prog fnTab lt16 := LpL.cons z0o (LpL.cons z0r (LpL.cons z0q (LpL.cons z0u (LpL.cons z2a (LpL.cons z02 (LpL.cons z00 (LpL.cons z05 (LpL.cons z2u (LpL.cons z1e (LpL.cons z2q (LpL.nil)))))))))))
noncomputable def tb17 : List (Nat × (List PT → Option (Bool × AV × List Blk))) := [(129, z13), (133, z0l), (137, z14), (139, z1v), (25, z20), (59, z3d), (64, z21), (66, z35), (68, z2g), (70, z1p), (78, z2h), (82, z1o), (106, z17), (108, z0p), (115, z1z), (40, z2b), (58, z2n), (67, z30), (77, z31), (101, z2o), (102, z29), (107, z0m), (111, z1f), (118, z28), (120, z0x), (35, z34), (74, z1y), (126, z1x), (18, z24), (42, z2k), (84, z27), (37, z3a), (44, z2r), (89, z2e), (90, z3p), (125, z0d), (125, z09), (39, z3c), (125, z0h), (110, z0c), (110, z04), (110, z0f), (69, z36), (99, z3r), (100, z2m), (112, z3b), (105, z33), (55, z37), (94, z2w), (48, z3o), (56, z3q), (14, z2i)]
noncomputable def lt17 : List ((Nat × Nat) × (Nat → St → Option (Bool × LO))) := [((74, 3), z0w), ((18, 4), z11), ((84, 3), z10), ((89, 4), z16), ((90, 5), z2x), ((125, 2), z03), ((125, 2), z01), ((125, 2), z08), ((99, 6), z38), ((94, 5), z1r), ((48, 6), z32)]
noncomputable def Γ17 : Ctx := ⟨tyTab, fnTab, tblSum tb17, tblLp lt17⟩
theorem tb17_ok : SumL Try.prog tb17 := SumL.cons z0t (SumL.cons z0i (SumL.cons z0s (SumL.cons z15 (SumL.cons z1a (SumL.cons z2t (SumL.cons z18 (SumL.cons z2f (SumL.cons z1n (SumL.cons z0z (SumL.cons z1m (SumL.cons z12 (SumL.cons z0v (SumL.cons z0k (SumL.cons z19 (SumL.cons z1i (SumL.cons z1t (SumL.cons z26 (SumL.cons z25 (SumL.cons z1u (SumL.cons z1h (SumL.cons z0j (SumL.cons z0y (SumL.cons z1g (SumL.cons z0n (SumL.cons z2d (SumL.cons z1c (SumL.cons z1b (SumL.cons z1j (SumL.cons z1w (SumL.cons z1k (SumL.cons z2s (SumL.cons z22 (SumL.cons z1q (SumL.cons z39 (SumL.cons z0b (SumL.cons z06 (SumL.cons z2y (SumL.cons z0g (SumL.cons z0a (SumL.cons z07 (SumL.cons z0e (SumL.cons z2p (SumL.cons z3l (SumL.cons z23 (SumL.cons z2z (SumL.cons z2l (SumL.cons z2v (SumL.cons z2j (SumL.cons z3e (SumL.cons z3m (SumL.cons z2c (SumL.nil))))))))))))))))))))))))))))))))))))))))))))))))))))
theorem lt17_ok : LpL Try.prog fnTab lt17 := LpL.cons z0o (LpL.cons z0r (LpL.cons z0q (LpL.cons z0u (LpL.cons z2a (LpL.cons z02 (LpL.cons z00 (LpL.cons z05 (LpL.cons z2u (LpL.cons z1e (LpL.cons z2q (LpL.nil)))))))))))
noncomputable def tb18 : List (Nat × (List PT → Option (Bool × AV × List Blk))) := [(129, z13), (133, z0l), (137, z14), (139, z1v), (25, z20), (59, z3d), (64, z21), (66, z35), (68, z2g), (70, z1p), (78, z2h), (82, z1o), (106, z17), (108, z0p), (115, z1z), (40, z2b), (58, z2n), (67, z30), (77, z31), (101, z2o), (102, z29), (107, z0m), (111, z1f), (118, z28), (120, z0x), (35, z34), (74, z1y), (126, z1x), (18, z24), (42, z2k), (84, z27), (37, z3a), (44, z2r), (89, z2e), (90, z3p), (125, z0d), (125, z09), (39, z3c), (125, z0h), (110, z0c), (110, z04), (110, z0f), (69, z36), (99, z3r), (100, z2m), (112, z3b), (105, z33), (55, z37), (94, z2w), (48, z3o), (56, z3q), (14, z2i)]
noncomputable def lt18 : List ((Nat × Nat) × (Nat → St → Option (Bool × LO))) := [((74, 3), z0w), ((18, 4), z11), ((84, 3), z10), ((89, 4), z16), ((90, 5), z2x), ((125, 2), z03), ((125, 2), z01), ((125, 2), z08), ((99, 6), z38), ((94, 5), z1r), ((48, 6), z32)]
noncomputable def Γ18 : Ctx := ⟨tyTab, fnTab, tblSum tb18, tblLp lt18⟩
theorem tb18_ok : SumL Try.prog tb18 := SumL.cons z0t (SumL.cons z0i (SumL.cons z0s (SumL.cons z15 (SumL.cons z1a (SumL.cons z2t (SumL.cons z18 (SumL.cons z2f (SumL.cons z1n (SumL.cons z0z (SumL.cons z1m (SumL.cons z12 (SumL.cons z0v (SumL.cons z0k (SumL.cons z19 (SumL.cons z1i (SumL.cons z1t (SumL.cons z26 (SumL.cons z25 (SumL.cons z1u (SumL.cons z1h (SumL.cons z0j (SumL.cons z0y (SumL.cons z1g (SumL.cons z0n (SumL.cons z2d (SumL.cons z1c (SumL.cons z1b (SumL.cons z1j (SumL.cons z1w (SumL.cons z1k (SumL.cons z2s (SumL.cons z22 (SumL.cons z1q (SumL.cons z39 (SumL.cons z0b (SumL.cons z06 (SumL.cons z2y (SumL.cons z0g (SumL.cons z0a (SumL.cons z07 (SumL.cons z0e (SumL.cons z2p (SumL.cons z3l (SumL.cons z23 (SumL.cons z2z (SumL.cons z2l (SumL.cons z2v (SumL.cons z2j (SumL.cons z3e (SumL.cons z3m (SumL.cons z2c (SumL.nil))))))))))))))))))))))))))))))))))))))))))))))))))))
theorem lt18_ok : LpL Try.prog fnTab lt18 := LpL.cons z0o (LpL.cons z0r (LpL.cons z0q (LpL.cons z0u (LpL.cons z2a (LpL.cons z02 (LpL.cons z00 (LpL.cons z05 (LpL.cons z2u (LpL.cons z1e (LpL.cons z2q (LpL.nil)))))))))))
noncomputable def tb19 : List (Nat × (List PT → Option (Bool × AV × List Blk))) := [(129, z13), (133, z0l), (137, z14), (139, z1v), (25, z20), (59, z3d), (64, z21), (66, z35), (68, z2g), (70, z1p), (78, z2h), (82, z1o), (106, z17), (108, z0p), (115, z1z), (40, z2b), (58, z2n), (67, z30), (77, z31), (101, z2o), (102, z29), (107, z0m), (111, z1f), (118, z28), (120, z0x), (35, z34), (74, z1y), (126, z1x), (18, z24), (42, z2k), (84, z27), (37, z3a), (44, z2r), (89, z2e), (90, z3p), (125, z0d), (125, z09), (39, z3c), (125, z0h), (110, z0c), (110, z04), (110, z0f), (69, z36), (99, z3r), (100, z2m), (112, z3b), (105, z33), (55, z37), (94, z2w), (48, z3o), (56, z3q), (14, z2i)]
noncomputable def lt19 : List ((Nat × Nat) × (Nat → St → Option (Bool × LO))) := [((74, 3), z0w), ((18, 4), z11), ((84, 3), z10), ((89, 4), z16), ((90, 5), z2x), ((125, 2), z03), ((125, 2), z01), ((125, 2), z08), ((99, 6), z38), ((94, 5), z1r), ((48, 6), z32)]
noncomputable def Γ19 : Ctx := ⟨tyTab, fnTab, tblSum tb19, tblLp lt19⟩
theorem tb19_ok : SumL Try.prog tb19 := SumL.cons z0t (SumL.cons z0i (SumL.cons z0s (SumL.cons z15 (SumL.cons z1a (SumL.cons z2t (SumL.cons z18 (SumL.cons z2f (SumL.cons z1n (SumL.cons z0z (SumL.cons z1m (SumL.cons z12 (SumL.cons z0v (SumL.cons z0k (SumL.cons z19 (SumL.cons z1i (SumL.cons z1t (SumL.cons z26 (SumL.cons z25 (SumL.cons z1u (SumL.cons z1h (SumL.cons z0j (SumL.cons z0y (SumL.cons z1g (SumL.cons z0n (SumL.cons z2d (SumL.cons z1c (SumL.cons z1b (SumL.cons z1j (SumL.cons z1w (SumL.cons z1k (SumL.cons z2s (SumL.cons z22 (SumL.cons z1q (SumL.cons z39 (SumL.cons z0b (SumL.cons z06 (SumL.cons z2y (SumL.cons z0g (SumL.cons z0a (SumL.cons z07 (SumL.cons z0e (SumL.cons z2p (SumL.cons z3l (SumL.cons z23 (SumL.cons z2z (SumL.cons z2l (SumL.cons z2v (SumL.cons z2j (SumL.cons z3e (SumL.cons z3m (SumL.cons z2c (SumL.nil))))))))))))))))))))))))))))))))))))))))))))))))))))
theorem lt19_ok : LpL Try.prog fnTab lt19 := LpL.cons z0o (LpL.cons z0r (LpL.cons z0q (LpL.cons z0u (LpL.cons z2a (LpL.cons z02 (LpL.cons z00 (LpL.cons z05 (LpL.cons z2u (LpL.cons z1e (LpL.cons z2q (LpL.nil)))))))))))
noncomputable def tb20 : List (Nat × (List PT → Option (Bool × AV × List Blk))) := [(129, z13), (133, z0l), (137, z14), (139, z1v), (25, z20), (59, z3d), (64, z21), (66, z35), (68, z2g), (70, z1p), (78, z2h), (82, z1o), (106, z17), (108, z0p), (115, z1z), (40, z2b), (58, z2n), (67, z30), (77, z31), (101, z2o), (102, z29), (107, z0m), (111, z1f), (118, z28), (120, z0x), (35, z34), (74, z1y), (126, z1x), (18, z24), (42, z2k), (84, z27), (37, z3a), (44, z2r), (89, z2e), (90, z3p), (125, z0d), (125, z09), (39, z3c), (125, z0h), (110, z0c), (110, z04), (110, z0f), (69, z36), (99, z3r), (100, z2m), (112, z3b), (105, z33), (55, z37), (94, z2w), (48, z3o), (56, z3q), (14, z2i)]
noncomputable def lt20 : List ((Nat × Nat) × (Nat → St → Option (Bool × LO))) := [((74, 3), z0w), ((18, 4), z11), ((84, 3), z10), ((89, 4), z16), ((90, 5), z2x), ((125, 2), z03), ((125, 2), z01), ((125, 2), z08), ((99, 6), z38), ((94, 5), z1r), ((48, 6), z32)]
noncomputable def Γ20 : Ctx := ⟨tyTab, fnTab, tblSum tb20, tblLp lt20⟩
theorem tb20_ok : SumL Try.prog tb20 := SumL.cons z0t (SumL.cons z0i (SumL.cons z0s (SumL.cons z15 (SumL.cons z1a (SumL.cons z2t (SumL.cons z18 (SumL.cons z2f (SumL.cons z1n (SumL.cons z0z (SumL.cons z1m (SumL.cons z12 (SumL.cons z0v (SumL.cons z0k (SumL.cons z19 (SumL.cons z1i (SumL.cons z1t (SumL.cons z26 (SumL.cons z25 (SumL.cons z1u (SumL.cons z1h (SumL.cons z0j (SumL.cons z0y (SumL.cons z1g (SumL.cons z0n (SumL.cons z2d (SumL.cons z1c (SumL.cons z1b (SumL.cons z1j (SumL.cons z1w (SumL.cons z1k (SumL.cons z2s (SumL.cons z22 (SumL.cons z1q (SumL.cons z39 (SumL.cons z0b (SumL.cons z06 (SumL.cons z2y (SumL.cons z0g (SumL.cons z0a (SumL.cons z07 (SumL.cons z0e (SumL.cons z2p (SumL.cons z3l (SumL.cons z23 (SumL.cons z2z (SumL.cons z2l (SumL.cons z2v (SumL.cons z2j (SumL.cons z3e (SumL.cons z3m (SumL.cons z2c (SumL.nil))))))))))))))))))))))))))))))))))))))))))))))))))))
theorem lt20_ok : LpL Try.prog fnTab lt20 := LpL.cons z0o (LpL.cons z0r (LpL.cons z0q (LpL.cons z0u (LpL.cons z2a (LpL.cons z02 (LpL.cons z00 (LpL.cons z05 (LpL.cons z2u (LpL.cons z1e (LpL.cons z2q (LpL.nil)))))))))))
noncomputable def tb21 : List (Nat × (List PT → Option (Bool × AV × List Blk))) := [(129, z13), (133, z0l), (137, z14), (139, z1v), (25, z20), (59, z3d), (64, z21), (66, z35), (68, z2g), (70, z1p), (78, z2h), (82, z1o), (106, z17), (108, z0p), (115, z1z), (40, z2b), (58, z2n), (67, z30), (77, z31), (101, z2o), (102, z29), (107, z0m), (111, z1f), (118, z28), (120, z0x), (35, z34), (74, z1y), (126, z1x), (18, z24), (42, z2k), (84, z27), (37, z3a), (44, z2r), (89, z2e), (90, z3p), (125, z0d), (125, z09), (39, z3c), (125, z0h), (110, z0c), (110, z04), (110, z0f), (69, z36), (99, z3r), (100, z2m), (112, z3b), (105, z33), (55, z37), (94, z2w), (48, z3o), (56, z3q), (14, z2i)]
noncomputable def lt21 : List ((Nat × Nat) × (Nat → St → Option (Bool × LO))) := [((74, 3), z0w), ((18, 4), z11), ((84, 3), z10), ((89, 4), z16), ((90, 5), z2x), ((125, 2), z03), ((125, 2), z01), ((125, 2), z08), ((99, 6), z38), ((94, 5), z1r), ((48, 6), z32)]
noncomputable def Γ21 : Ctx := ⟨tyTab, fnTab, tblSum tb21, tblLp lt21⟩
end Go.Proofs.Ytdmbbllcgpicbaa
