/-
  What functions answer: that the evaluator answers so. Printed by a program.
-/
import Derived.Test.YtihlcjjbenkokaaTipShareAtC
set_option linter.unusedVariables false
set_option linter.unusedSimpArgs false
set_option maxRecDepth 100000
set_option maxHeartbeats 4000000
namespace Go.Proofs.Ytihlcjjbenkokaa
open Go Go.Rf
def z1y : List PT → Option (Bool × AV × List Blk)
  | [.one (.s (.flt .f64 x))] => some (bnot (nanQ .f64 x), A1 (.flt .f64 (fint .down x)), [])
  | _ => none
theorem z10 : SumOne Try.prog 125 z1y := by
  intro pts v news hp w vals hv
  unfold z1y at hp
  split at hp
  · rename_i x
    injection hp with hp
    injection hp with h1 hp
    injection hp with h2 h3
    subst h2
    subst h3
    obtain ⟨l, hl⟩ : ∃ l, l = vals.toList := ⟨_, rfl⟩
    rw [← hl] at hv
    cases hv with
    | cons a1 a2 =>
      cases a2
      obtain ⟨b, hb1, hb2, hb3⟩ := a1
      subst hb1
      rename_i hx
      have hvals : vals = #[.float .f64 b] := by rw [← Array.toList_inj, ← hl]
      subst hvals
      have hn : nanB .f64 b = false := by rw [← nanB_cn, hb3]; simpa [bnot, nanQ] using h1
      rw [cn_of_not hn] at hb3
      subst hb3
      refine .inl ⟨_, w, by (simp only [callFunc, Sem.run_bind, run_program, Result.andThen_ok, Try.func125]; change (do let v ← Extern.MathFloor.toIntegral "math.archFloor" .down #[.float .f64 b]; pure (.value v) : Sem Next).run Try.prog w = _; rw [Sem.run_bind, run_fint hn]; rfl), NoB, ⟨⟨(fun t b' h => by cases t <;> cases h), (fun t t' b1 b2 x x' _ h => by cases t <;> cases h)⟩, (fun t x h => by cases h), Fr.refl _ w⟩, fint_rel hn⟩
  · cases hp
def z0k : List PT → Option (Bool × AV × List Blk)
  | [.one (.s (.int .u64 x))] => some (okU .f64 x, A1 (.flt .f64 (cnI .f64 x)), [])
  | _ => none
theorem z0i : SumOne Try.prog 128 z0k := by
  intro pts v news hp w vals hv
  unfold z0k at hp
  split at hp
  · rename_i x
    injection hp with hp
    injection hp with h1 hp
    injection hp with h2 h3
    subst h2
    subst h3
    obtain ⟨l, hl⟩ : ∃ l, l = vals.toList := ⟨_, rfl⟩
    rw [← hl] at hv
    cases hv with
    | cons a1 a2 =>
      cases a2
      have hb1 : _ = Value.int .u64 x := a1
      subst hb1
      rename_i hx
      have hvals : vals = #[.int .u64 x] := by rw [← Array.toList_inj, ← hl]
      subst hvals
      have hw := okU_lt h1
      refine .inl ⟨_, w, by (simp only [callFunc, Sem.run_bind, run_program, Result.andThen_ok, Try.func128]; rfl), NoB, ⟨⟨(fun t b' h => by cases t <;> cases h), (fun t t' b1 b2 x x' _ h => by cases t <;> cases h)⟩, (fun t x h => by cases h), Fr.refl _ w⟩, ⟨_, rfl, hw, rfl⟩⟩
  · cases hp
def z11 : List PT → Option (Bool × AV × List Blk)
  | [.one (.s (.flt .f64 x))] => some (bnot (nanQ .f64 x), A1 (.int .u64 x), [])
  | _ => none
theorem z0r : SumOne Try.prog 134 z11 := by
  intro pts v news hp w vals hv
  unfold z11 at hp
  split at hp
  · rename_i x
    injection hp with hp
    injection hp with h1 hp
    injection hp with h2 h3
    subst h2
    subst h3
    obtain ⟨l, hl⟩ : ∃ l, l = vals.toList := ⟨_, rfl⟩
    rw [← hl] at hv
    cases hv with
    | cons a1 a2 =>
      cases a2
      obtain ⟨b, hb1, hb2, hb3⟩ := a1
      subst hb1
      rename_i hx
      have hvals : vals = #[.float .f64 b] := by rw [← Array.toList_inj, ← hl]
      subst hvals
      have hn : nanB .f64 b = false := by rw [← nanB_cn, hb3]; simpa [bnot, nanQ] using h1
      rw [cn_of_not hn] at hb3
      subst hb3
      refine .inl ⟨_, w, by (simp only [callFunc, Sem.run_bind, run_program, Result.andThen_ok, Try.func134]; rfl), NoB, ⟨⟨(fun t b' h => by cases t <;> cases h), (fun t t' b1 b2 x x' _ h => by cases t <;> cases h)⟩, (fun t x h => by cases h), Fr.refl _ w⟩, rfl⟩
  · cases hp
def z1x : List PT → Option (Bool × AV × List Blk)
  | [.one (.s (.flt .f64 x))] => some (bnot (nanQ .f64 x), A1 (.flt .f64 (fint .zero x)), [])
  | _ => none
theorem z0z : SumOne Try.prog 137 z1x := by
  intro pts v news hp w vals hv
  unfold z1x at hp
  split at hp
  · rename_i x
    injection hp with hp
    injection hp with h1 hp
    injection hp with h2 h3
    subst h2
    subst h3
    obtain ⟨l, hl⟩ : ∃ l, l = vals.toList := ⟨_, rfl⟩
    rw [← hl] at hv
    cases hv with
    | cons a1 a2 =>
      cases a2
      obtain ⟨b, hb1, hb2, hb3⟩ := a1
      subst hb1
      rename_i hx
      have hvals : vals = #[.float .f64 b] := by rw [← Array.toList_inj, ← hl]
      subst hvals
      have hn : nanB .f64 b = false := by rw [← nanB_cn, hb3]; simpa [bnot, nanQ] using h1
      rw [cn_of_not hn] at hb3
      subst hb3
      refine .inl ⟨_, w, by (simp only [callFunc, Sem.run_bind, run_program, Result.andThen_ok, Try.func137]; change (do let v ← Extern.MathFloor.toIntegral "math.archTrunc" .zero #[.float .f64 b]; pure (.value v) : Sem Next).run Try.prog w = _; rw [Sem.run_bind, run_fint hn]; rfl), NoB, ⟨⟨(fun t b' h => by cases t <;> cases h), (fun t t' b1 b2 x x' _ h => by cases t <;> cases h)⟩, (fun t x h => by cases h), Fr.refl _ w⟩, fint_rel hn⟩
  · cases hp
noncomputable def tb0 : List (Nat × (List PT → Option (Bool × AV × List Blk))) := [(125, z1y), (128, z0k), (134, z11), (137, z1x)]
noncomputable def lt0 : List ((Nat × Nat) × (Nat → St → Option (Bool × LO))) := []
noncomputable def Γ0 : Ctx := ⟨tyTab, fnTab, tblSum tb0, tblLp lt0⟩
theorem tb0_ok : SumL Try.prog tb0 := SumL.cons z10 (SumL.cons z0i (SumL.cons z0r (SumL.cons z0z (SumL.nil))))
theorem lt0_ok : LpL Try.prog fnTab lt0 := LpL.nil
noncomputable def z26 : List PT → Option (Bool × AV × List Blk)
  | [.one (.s (.flt .f64 a)), .one (.s (.flt .f64 b))] => some ((z6n a b), ((AV.v (TV.one (At.bool (z6g a b)))), []))
  | _ => none
def zhf (a : Nat) (b : Nat) : Option (Bool) → Option (AV × List Blk)
  | some r => some ((AV.v (TV.one (At.bool r))), [])
  | none => none
theorem zlw (a : Nat) (b : Nat) : evFn Γ0 8 8 18 (impTs 0 [.one (.s (.flt .f64 a)), .one (.s (.flt .f64 b))]).1 (impTs 0 [.one (.s (.flt .f64 a)), .one (.s (.flt .f64 b))]).2 (expo (impTs 0 [.one (.s (.flt .f64 a)), .one (.s (.flt .f64 b))]).2.length) = z9d a b (fun c0_ => some ((AV.v (TV.one (At.bool c0_))), [])) := by kernel_rfl
theorem z18 : SumOne Try.prog 18 z26 := sum_of (Γ := Γ0) (fuel := 8) (d := 8) tyTab_ok (FnL.ok fnTab_ok _ _) (LpL.ok lt0_ok) (SumL.ok tb0_ok _) mixed (by
  intro pts v news hp hc
  clear hc
  unfold z26 at hp
  split at hp
  · rename_i a b
    exact Eq.trans (Eq.trans (zlw a b) (zjm (zhf a b) rfl a b (fun c0_ => some c0_))) (fin_out (o := (zhf a b)) (x := z9q a b) (d := default) (V := fun r => ((AV.v (TV.one (At.bool r))), [])) (fun r => rfl) hp)
  · cases hp)
noncomputable def z29 : List PT → Option (Bool × AV × List Blk)
  | [.agg [.s (.flt .f32 q1x), .s (.flt .f32 q22), .s (.flt .f32 q23)]] => some ((zfv q1x q22 q23), ((AV.v (TV.agg [(At.flt FloatKind.f32 q1x), (At.flt FloatKind.f32 q22), (At.flt FloatKind.f32 q23)])), []))
  | _ => none
def zhg (q1x : Nat) (q22 : Nat) (q23 : Nat) : Option (Unit) → Option (AV × List Blk)
  | some r => some ((AV.v (TV.agg [(At.flt FloatKind.f32 q1x), (At.flt FloatKind.f32 q22), (At.flt FloatKind.f32 q23)])), [])
  | none => none
theorem zmb (q1x : Nat) (q22 : Nat) (q23 : Nat) : evFn Γ0 8 8 44 (impTs 0 [.agg [.s (.flt .f32 q1x), .s (.flt .f32 q22), .s (.flt .f32 q23)]]).1 (impTs 0 [.agg [.s (.flt .f32 q1x), .s (.flt .f32 q22), .s (.flt .f32 q23)]]).2 (expo (impTs 0 [.agg [.s (.flt .f32 q1x), .s (.flt .f32 q22), .s (.flt .f32 q23)]]).2.length) = zaw q1x q22 q23 (fun _ => some ((AV.v (TV.agg [(At.flt FloatKind.f32 q1x), (At.flt FloatKind.f32 q22), (At.flt FloatKind.f32 q23)])), [])) := by kernel_rfl
theorem z15 : SumOne Try.prog 44 z29 := sum_of (Γ := Γ0) (fuel := 8) (d := 8) tyTab_ok (FnL.ok fnTab_ok _ _) (LpL.ok lt0_ok) (SumL.ok tb0_ok _) mixed (by
  intro pts v news hp hc
  clear hc
  unfold z29 at hp
  split at hp
  · rename_i q1x q22 q23
    exact Eq.trans (Eq.trans (zmb q1x q22 q23) (zju (zhg q1x q22 q23) rfl q1x q22 q23 (fun _ => some ()))) (fin_out (o := (zhg q1x q22 q23)) (x := zhi q1x q22 q23) (d := default) (V := fun r => ((AV.v (TV.agg [(At.flt FloatKind.f32 q1x), (At.flt FloatKind.f32 q22), (At.flt FloatKind.f32 q23)])), [])) (fun r => rfl) hp)
  · cases hp)
noncomputable def z1o : List PT → Option (Bool × AV × List Blk)
  | [.one (.row 1 a_n (.fl .f32 a)), .one (.s (.int .i64 q1r))] => some ((z8r a_n a q1r), ((AV.v (TV.one (At.int IntKind.i64 (z4z a_n a q1r)))), []))
  | _ => none
def zgi (a_n : Nat) (a : List Nat) (q1r : Int) : Option (Int) → Option (AV × List Blk)
  | some r => some ((AV.v (TV.one (At.int IntKind.i64 r))), [])
  | none => none
theorem zlh (a_n : Nat) (a : List Nat) (q1r : Int) : evFn Γ0 8 8 48 (impTs 0 [.one (.row 1 a_n (.fl .f32 a)), .one (.s (.int .i64 q1r))]).1 (impTs 0 [.one (.row 1 a_n (.fl .f32 a)), .one (.s (.int .i64 q1r))]).2 (expo (impTs 0 [.one (.row 1 a_n (.fl .f32 a)), .one (.s (.int .i64 q1r))]).2.length) = z8w a_n a q1r (fun c0_ => some ((AV.v (TV.one (At.int IntKind.i64 c0_))), [])) := by kernel_rfl
theorem z0y : SumOne Try.prog 48 z1o := sum_of (Γ := Γ0) (fuel := 8) (d := 8) tyTab_ok (FnL.ok fnTab_ok _ _) (LpL.ok lt0_ok) (SumL.ok tb0_ok _) mixed (by
  intro pts v news hp hc
  clear hc
  unfold z1o at hp
  split at hp
  · rename_i a_n a q1r
    exact Eq.trans (Eq.trans (zlh a_n a q1r) (zip (zgi a_n a q1r) rfl a_n a q1r (fun c0_ => some c0_))) (fin_out (o := (zgi a_n a q1r)) (x := z8x a_n a q1r) (d := default) (V := fun r => ((AV.v (TV.one (At.int IntKind.i64 r))), [])) (fun r => rfl) hp)
  · cases hp)
noncomputable def z2q : List PT → Option (Bool × AV × List Blk)
  | [.one (.s (.flt .f32 x))] => some ((z6k x), ((AV.v (TV.one (At.bool (z6c x)))), []))
  | _ => none
def zhu (x : Nat) : Option (Bool) → Option (AV × List Blk)
  | some r => some ((AV.v (TV.one (At.bool r))), [])
  | none => none
theorem zmi (x : Nat) : evFn Γ0 8 8 54 (impTs 0 [.one (.s (.flt .f32 x))]).1 (impTs 0 [.one (.s (.flt .f32 x))]).2 (expo (impTs 0 [.one (.s (.flt .f32 x))]).2.length) = zc0 x (fun c0_ => some ((AV.v (TV.one (At.bool c0_))), [])) := by kernel_rfl
theorem z1n : SumOne Try.prog 54 z2q := sum_of (Γ := Γ0) (fuel := 8) (d := 8) tyTab_ok (FnL.ok fnTab_ok _ _) (LpL.ok lt0_ok) (SumL.ok tb0_ok _) mixed (by
  intro pts v news hp hc
  clear hc
  unfold z2q at hp
  split at hp
  · rename_i x
    exact Eq.trans (Eq.trans (zmi x) (zk6 (zhu x) rfl x (fun c0_ => some c0_))) (fin_out (o := (zhu x)) (x := zc7 x) (d := default) (V := fun r => ((AV.v (TV.one (At.bool r))), [])) (fun r => rfl) hp)
  · cases hp)
noncomputable def z25 : List PT → Option (Bool × AV × List Blk)
  | [.one (.s (.flt .f32 x))] => some ((z5z x), ((AV.v (TV.one (At.bool (z5o x)))), []))
  | _ => none
def zhk (x : Nat) : Option (Bool) → Option (AV × List Blk)
  | some r => some ((AV.v (TV.one (At.bool r))), [])
  | none => none
theorem zlt (x : Nat) : evFn Γ0 8 8 61 (impTs 0 [.one (.s (.flt .f32 x))]).1 (impTs 0 [.one (.s (.flt .f32 x))]).2 (expo (impTs 0 [.one (.s (.flt .f32 x))]).2.length) = zb0 x (fun c0_ => some ((AV.v (TV.one (At.bool c0_))), [])) := by kernel_rfl
theorem z16 : SumOne Try.prog 61 z25 := sum_of (Γ := Γ0) (fuel := 8) (d := 8) tyTab_ok (FnL.ok fnTab_ok _ _) (LpL.ok lt0_ok) (SumL.ok tb0_ok _) mixed (by
  intro pts v news hp hc
  clear hc
  unfold z25 at hp
  split at hp
  · rename_i x
    exact Eq.trans (Eq.trans (zlt x) (zj5 (zhk x) rfl x (fun c0_ => some c0_))) (fin_out (o := (zhk x)) (x := zav x) (d := default) (V := fun r => ((AV.v (TV.one (At.bool r))), [])) (fun r => rfl) hp)
  · cases hp)
noncomputable def z42 : List PT → Option (Bool × AV × List Blk)
  | [.one (.s (.int .i64 n_)), .one (.s (.int .i64 low)), .one (.s (.int .i64 q26))] => some ((zf4 n_ low q26), ((AV.v (TV.one (At.bool (zee n_ low q26)))), []))
  | _ => none
def zky (n_ : Int) (low : Int) (q26 : Int) : Option (Bool) → Option (AV × List Blk)
  | some r => some ((AV.v (TV.one (At.bool r))), [])
  | none => none
theorem znl (n_ : Int) (low : Int) (q26 : Int) : evFn Γ0 8 8 63 (impTs 0 [.one (.s (.int .i64 n_)), .one (.s (.int .i64 low)), .one (.s (.int .i64 q26))]).1 (impTs 0 [.one (.s (.int .i64 n_)), .one (.s (.int .i64 low)), .one (.s (.int .i64 q26))]).2 (expo (impTs 0 [.one (.s (.int .i64 n_)), .one (.s (.int .i64 low)), .one (.s (.int .i64 q26))]).2.length) = zdr n_ low q26 (fun c0_ => some ((AV.v (TV.one (At.bool c0_))), [])) := by kernel_rfl
theorem z36 : SumOne Try.prog 63 z42 := sum_of (Γ := Γ0) (fuel := 8) (d := 8) tyTab_ok (FnL.ok fnTab_ok _ _) (LpL.ok lt0_ok) (SumL.ok tb0_ok _) mixed (by
  intro pts v news hp hc
  clear hc
  unfold z42 at hp
  split at hp
  · rename_i n_ low q26
    exact Eq.trans (Eq.trans (znl n_ low q26) (zm7 (zky n_ low q26) rfl n_ low q26 (fun c0_ => some c0_))) (fin_out (o := (zky n_ low q26)) (x := zdf n_ low q26) (d := default) (V := fun r => ((AV.v (TV.one (At.bool r))), [])) (fun r => rfl) hp)
  · cases hp)
noncomputable def z3o : List PT → Option (Bool × AV × List Blk)
  | [.one (.s (.int .i64 n_)), .one (.s (.int .i64 low)), .one (.s (.int .i64 q26))] => some ((zed n_ low q26), ((AV.v (TV.one (At.bool (zdo n_ low q26)))), []))
  | _ => none
def zjy (n_ : Int) (low : Int) (q26 : Int) : Option (Bool) → Option (AV × List Blk)
  | some r => some ((AV.v (TV.one (At.bool r))), [])
  | none => none
theorem zng (n_ : Int) (low : Int) (q26 : Int) : evFn Γ0 8 8 66 (impTs 0 [.one (.s (.int .i64 n_)), .one (.s (.int .i64 low)), .one (.s (.int .i64 q26))]).1 (impTs 0 [.one (.s (.int .i64 n_)), .one (.s (.int .i64 low)), .one (.s (.int .i64 q26))]).2 (expo (impTs 0 [.one (.s (.int .i64 n_)), .one (.s (.int .i64 low)), .one (.s (.int .i64 q26))]).2.length) = zbo n_ low q26 (fun c0_ => some ((AV.v (TV.one (At.bool c0_))), [])) := by kernel_rfl
theorem z2o : SumOne Try.prog 66 z3o := sum_of (Γ := Γ0) (fuel := 8) (d := 8) tyTab_ok (FnL.ok fnTab_ok _ _) (LpL.ok lt0_ok) (SumL.ok tb0_ok _) mixed (by
  intro pts v news hp hc
  clear hc
  unfold z3o at hp
  split at hp
  · rename_i n_ low q26
    exact Eq.trans (Eq.trans (zng n_ low q26) (zkz (zjy n_ low q26) rfl n_ low q26 (fun c0_ => some c0_))) (fin_out (o := (zjy n_ low q26)) (x := zbk n_ low q26) (d := default) (V := fun r => ((AV.v (TV.one (At.bool r))), [])) (fun r => rfl) hp)
  · cases hp)
noncomputable def z1p : List PT → Option (Bool × AV × List Blk)
  | [.one (.row 3 a_n (.fl .f32 a)), .one (.s (.int .i64 q1r))] => some ((zct a_n a q1r), ((AV.v (TV.one (At.int IntKind.i64 (z9w a_n a q1r)))), []))
  | _ => none
def zgj (a_n : Nat) (a : List Nat) (q1r : Int) : Option (Int) → Option (AV × List Blk)
  | some r => some ((AV.v (TV.one (At.int IntKind.i64 r))), [])
  | none => none
theorem zlc (a_n : Nat) (a : List Nat) (q1r : Int) : evFn Γ0 8 8 80 (impTs 0 [.one (.row 3 a_n (.fl .f32 a)), .one (.s (.int .i64 q1r))]).1 (impTs 0 [.one (.row 3 a_n (.fl .f32 a)), .one (.s (.int .i64 q1r))]).2 (expo (impTs 0 [.one (.row 3 a_n (.fl .f32 a)), .one (.s (.int .i64 q1r))]).2.length) = z8z a_n a q1r (fun c0_ => some ((AV.v (TV.one (At.int IntKind.i64 c0_))), [])) := by kernel_rfl
theorem z0w : SumOne Try.prog 80 z1p := sum_of (Γ := Γ0) (fuel := 8) (d := 8) tyTab_ok (FnL.ok fnTab_ok _ _) (LpL.ok lt0_ok) (SumL.ok tb0_ok _) mixed (by
  intro pts v news hp hc
  clear hc
  unfold z1p at hp
  split at hp
  · rename_i a_n a q1r
    exact Eq.trans (Eq.trans (zlc a_n a q1r) (zj0 (zgj a_n a q1r) rfl a_n a q1r (fun c0_ => some c0_))) (fin_out (o := (zgj a_n a q1r)) (x := z8q a_n a q1r) (d := default) (V := fun r => ((AV.v (TV.one (At.int IntKind.i64 r))), [])) (fun r => rfl) hp)
  · cases hp)
noncomputable def z38 : List PT → Option (Bool × AV × List Blk)
  | [.one (.s (.flt .f32 x))] => some ((zfh x), ((AV.v (TV.one (At.bool (zel x)))), []))
  | _ => none
def zih (x : Nat) : Option (Bool) → Option (AV × List Blk)
  | some r => some ((AV.v (TV.one (At.bool r))), [])
  | none => none
theorem zmz (x : Nat) : evFn Γ0 8 8 82 (impTs 0 [.one (.s (.flt .f32 x))]).1 (impTs 0 [.one (.s (.flt .f32 x))]).2 (expo (impTs 0 [.one (.s (.flt .f32 x))]).2.length) = zan x (fun c0_ => some ((AV.v (TV.one (At.bool c0_))), [])) := by kernel_rfl
theorem z21 : SumOne Try.prog 82 z38 := sum_of (Γ := Γ0) (fuel := 8) (d := 8) tyTab_ok (FnL.ok fnTab_ok _ _) (LpL.ok lt0_ok) (SumL.ok tb0_ok _) mixed (by
  intro pts v news hp hc
  clear hc
  unfold z38 at hp
  split at hp
  · rename_i x
    exact Eq.trans (Eq.trans (zmz x) (zks (zih x) rfl x (fun c0_ => some c0_))) (fin_out (o := (zih x)) (x := zau x) (d := default) (V := fun r => ((AV.v (TV.one (At.bool r))), [])) (fun r => rfl) hp)
  · cases hp)
noncomputable def z3n : List PT → Option (Bool × AV × List Blk)
  | [.ptr [.row 1 q04 (.fl .f32 q07), .row 1 q06 (.fl .f32 q0a), .row 1 q05 (.fl .f32 q09), .row 3 q0d (.fl .f32 q0i), .s (.int .i64 q0r), .s (.flt .f32 q18), .s (.flt .f32 q14)], .one (.s (.int .i64 i)), .one (.s (.flt .f32 q2s))] => some ((zfu q04 q07 q06 q0a q05 q09 q0d q0i q0r q18 q14 i q2s), ((AV.v (TV.one (At.flt FloatKind.f32 (zat q04 q07 q06 q0a q05 q09 q0d q0i q0r q18 q14 i q2s)))), []))
  | _ => none
def zjv (q04 : Nat) (q07 : List Nat) (q06 : Nat) (q0a : List Nat) (q05 : Nat) (q09 : List Nat) (q0d : Nat) (q0i : List Nat) (q0r : Int) (q18 : Nat) (q14 : Nat) (i : Int) (q2s : Nat) : Option (Nat) → Option (AV × List Blk)
  | some r => some ((AV.v (TV.one (At.flt FloatKind.f32 r))), [])
  | none => none
theorem znf (q04 : Nat) (q07 : List Nat) (q06 : Nat) (q0a : List Nat) (q05 : Nat) (q09 : List Nat) (q0d : Nat) (q0i : List Nat) (q0r : Int) (q18 : Nat) (q14 : Nat) (i : Int) (q2s : Nat) : evFn Γ0 8 8 84 (impTs 0 [.ptr [.row 1 q04 (.fl .f32 q07), .row 1 q06 (.fl .f32 q0a), .row 1 q05 (.fl .f32 q09), .row 3 q0d (.fl .f32 q0i), .s (.int .i64 q0r), .s (.flt .f32 q18), .s (.flt .f32 q14)], .one (.s (.int .i64 i)), .one (.s (.flt .f32 q2s))]).1 (impTs 0 [.ptr [.row 1 q04 (.fl .f32 q07), .row 1 q06 (.fl .f32 q0a), .row 1 q05 (.fl .f32 q09), .row 3 q0d (.fl .f32 q0i), .s (.int .i64 q0r), .s (.flt .f32 q18), .s (.flt .f32 q14)], .one (.s (.int .i64 i)), .one (.s (.flt .f32 q2s))]).2 (expo (impTs 0 [.ptr [.row 1 q04 (.fl .f32 q07), .row 1 q06 (.fl .f32 q0a), .row 1 q05 (.fl .f32 q09), .row 3 q0d (.fl .f32 q0i), .s (.int .i64 q0r), .s (.flt .f32 q18), .s (.flt .f32 q14)], .one (.s (.int .i64 i)), .one (.s (.flt .f32 q2s))]).2.length) = zbj q04 q07 q06 q0a q05 q09 q0d q0i q0r q18 q14 i q2s (fun c0_ => some ((AV.v (TV.one (At.flt FloatKind.f32 c0_))), [])) := by kernel_rfl
theorem z2m : SumOne Try.prog 84 z3n := sum_of (Γ := Γ0) (fuel := 8) (d := 8) tyTab_ok (FnL.ok fnTab_ok _ _) (LpL.ok lt0_ok) (SumL.ok tb0_ok _) mixed (by
  intro pts v news hp hc
  clear hc
  unfold z3n at hp
  split at hp
  · rename_i q04 q07 q06 q0a q05 q09 q0d q0i q0r q18 q14 i q2s
    exact Eq.trans (Eq.trans (znf q04 q07 q06 q0a q05 q09 q0d q0i q0r q18 q14 i q2s) (zlm (zjv q04 q07 q06 q0a q05 q09 q0d q0i q0r q18 q14 i q2s) rfl q04 q07 q06 q0a q05 q09 q0d q0i q0r q18 q14 i q2s (fun c0_ => some c0_))) (fin_out (o := (zjv q04 q07 q06 q0a q05 q09 q0d q0i q0r q18 q14 i q2s)) (x := zbp q04 q07 q06 q0a q05 q09 q0d q0i q0r q18 q14 i q2s) (d := default) (V := fun r => ((AV.v (TV.one (At.flt FloatKind.f32 r))), [])) (fun r => rfl) hp)
  · cases hp)
noncomputable def z2r : List PT → Option (Bool × AV × List Blk)
  | [.one (.s (.flt .f32 x)), .one (.s (.flt .f32 low)), .one (.s (.flt .f32 q26))] => some ((zc4 x low q26), ((AV.v (TV.one (At.bool (zax x low q26)))), []))
  | _ => none
def zhr (x : Nat) (low : Nat) (q26 : Nat) : Option (Bool) → Option (AV × List Blk)
  | some r => some ((AV.v (TV.one (At.bool r))), [])
  | none => none
theorem zme (x : Nat) (low : Nat) (q26 : Nat) : evFn Γ0 8 8 97 (impTs 0 [.one (.s (.flt .f32 x)), .one (.s (.flt .f32 low)), .one (.s (.flt .f32 q26))]).1 (impTs 0 [.one (.s (.flt .f32 x)), .one (.s (.flt .f32 low)), .one (.s (.flt .f32 q26))]).2 (expo (impTs 0 [.one (.s (.flt .f32 x)), .one (.s (.flt .f32 low)), .one (.s (.flt .f32 q26))]).2.length) = za6 x low q26 (fun c0_ => some ((AV.v (TV.one (At.bool c0_))), [])) := by kernel_rfl
theorem z1m : SumOne Try.prog 97 z2r := sum_of (Γ := Γ0) (fuel := 8) (d := 8) tyTab_ok (FnL.ok fnTab_ok _ _) (LpL.ok lt0_ok) (SumL.ok tb0_ok _) mixed (by
  intro pts v news hp hc
  clear hc
  unfold z2r at hp
  split at hp
  · rename_i x low q26
    exact Eq.trans (Eq.trans (zme x low q26) (zk4 (zhr x low q26) rfl x low q26 (fun c0_ => some c0_))) (fin_out (o := (zhr x low q26)) (x := za7 x low q26) (d := default) (V := fun r => ((AV.v (TV.one (At.bool r))), [])) (fun r => rfl) hp)
  · cases hp)
noncomputable def z27 : List PT → Option (Bool × AV × List Blk)
  | [.one (.s (.flt .f64 x))] => some ((zea x), ((AV.v (TV.one (At.flt FloatKind.f32 (zcs x)))), []))
  | _ => none
def zh4 (x : Nat) : Option (Nat) → Option (AV × List Blk)
  | some r => some ((AV.v (TV.one (At.flt FloatKind.f32 r))), [])
  | none => none
theorem zm5 (x : Nat) : evFn Γ0 8 8 109 (impTs 0 [.one (.s (.flt .f64 x))]).1 (impTs 0 [.one (.s (.flt .f64 x))]).2 (expo (impTs 0 [.one (.s (.flt .f64 x))]).2.length) = z9a x (fun c0_ => some ((AV.v (TV.one (At.flt FloatKind.f32 c0_))), [])) := by kernel_rfl
theorem z17 : SumOne Try.prog 109 z27 := sum_of (Γ := Γ0) (fuel := 8) (d := 8) tyTab_ok (FnL.ok fnTab_ok _ _) (LpL.ok lt0_ok) (SumL.ok tb0_ok _) mixed (by
  intro pts v news hp hc
  clear hc
  unfold z27 at hp
  split at hp
  · rename_i x
    exact Eq.trans (Eq.trans (zm5 x) (zjt (zh4 x) rfl x (fun c0_ => some c0_))) (fin_out (o := (zh4 x)) (x := z9o x) (d := default) (V := fun r => ((AV.v (TV.one (At.flt FloatKind.f32 r))), [])) (fun r => rfl) hp)
  · cases hp)
noncomputable def z4i : List PT → Option (Bool × AV × List Blk)
  | [] => some (zfx, ((AV.v (TV.one (At.flt FloatKind.f64 zei))), []))
  | _ => none
def zml  : Option (Nat) → Option (AV × List Blk)
  | some r => some ((AV.v (TV.one (At.flt FloatKind.f64 r))), [])
  | none => none
theorem znr  : evFn Γ0 8 8 121 (impTs 0 []).1 (impTs 0 []).2 (expo (impTs 0 []).2.length) = zfd (fun c0_ => some ((AV.v (TV.one (At.flt FloatKind.f64 c0_))), [])) := by kernel_rfl
theorem z3x : SumOne Try.prog 121 z4i := sum_of (Γ := Γ0) (fuel := 8) (d := 8) tyTab_ok (FnL.ok fnTab_ok _ _) (LpL.ok lt0_ok) (SumL.ok tb0_ok _) mixed (by
  intro pts v news hp hc
  clear hc
  unfold z4i at hp
  split at hp
  · exact Eq.trans (Eq.trans (znr) (zn1 zml rfl  (fun c0_ => some c0_))) (fin_out (o := zml) (x := zf9) (d := default) (V := fun r => ((AV.v (TV.one (At.flt FloatKind.f64 r))), [])) (fun r => rfl) hp)
  · cases hp)
noncomputable def z4j : List PT → Option (Bool × AV × List Blk)
  | [.one (.s (.flt .f64 x))] => some ((zgu x), ((AV.v (TV.one (At.flt FloatKind.f64 (zg7 x)))), []))
  | _ => none
def zmo (x : Nat) : Option (Nat) → Option (AV × List Blk)
  | some r => some ((AV.v (TV.one (At.flt FloatKind.f64 r))), [])
  | none => none
theorem zns (x : Nat) : evFn Γ0 8 8 129 (impTs 0 [.one (.s (.flt .f64 x))]).1 (impTs 0 [.one (.s (.flt .f64 x))]).2 (expo (impTs 0 [.one (.s (.flt .f64 x))]).2.length) = zf8 x (fun c0_ => some ((AV.v (TV.one (At.flt FloatKind.f64 c0_))), [])) := by kernel_rfl
theorem z3w : SumOne Try.prog 129 z4j := sum_of (Γ := Γ0) (fuel := 8) (d := 8) tyTab_ok (FnL.ok fnTab_ok _ _) (LpL.ok lt0_ok) (SumL.ok tb0_ok _) mixed (by
  intro pts v news hp hc
  clear hc
  unfold z4j at hp
  split at hp
  · rename_i x
    exact Eq.trans (Eq.trans (zns x) (zn7 (zmo x) rfl x (fun c0_ => some c0_))) (fin_out (o := (zmo x)) (x := zfb x) (d := default) (V := fun r => ((AV.v (TV.one (At.flt FloatKind.f64 r))), [])) (fun r => rfl) hp)
  · cases hp)
noncomputable def tb1 : List (Nat × (List PT → Option (Bool × AV × List Blk))) := [(125, z1y), (128, z0k), (134, z11), (137, z1x), (18, z26), (44, z29), (48, z1o), (54, z2q), (61, z25), (63, z42), (66, z3o), (80, z1p), (82, z38), (84, z3n), (97, z2r), (109, z27), (121, z4i), (129, z4j)]
noncomputable def lt1 : List ((Nat × Nat) × (Nat → St → Option (Bool × LO))) := []
noncomputable def Γ1 : Ctx := ⟨tyTab, fnTab, tblSum tb1, tblLp lt1⟩
theorem tb1_ok : SumL Try.prog tb1 := SumL.cons z10 (SumL.cons z0i (SumL.cons z0r (SumL.cons z0z (SumL.cons z18 (SumL.cons z15 (SumL.cons z0y (SumL.cons z1n (SumL.cons z16 (SumL.cons z36 (SumL.cons z2o (SumL.cons z0w (SumL.cons z21 (SumL.cons z2m (SumL.cons z1m (SumL.cons z17 (SumL.cons z3x (SumL.cons z3w (SumL.nil))))))))))))))))))
theorem lt1_ok : LpL Try.prog fnTab lt1 := LpL.nil
noncomputable def z2h : List PT → Option (Bool × AV × List Blk)
  | [.agg [.row 1 q0u (.fl .f32 q19), .row 1 q10 (.fl .f32 q1c), .row 1 q13 (.fl .f32 q1g)], .one (.s (.int .i64 q1r))] => some ((ze6 q0u q19 q10 q1c q13 q1g q1r), ((AV.v (TV.one (At.int IntKind.i64 (z7f q0u q19 q10 q1c q13 q1g q1r)))), []))
  | _ => none
def zhc (q0u : Nat) (q19 : List Nat) (q10 : Nat) (q1c : List Nat) (q13 : Nat) (q1g : List Nat) (q1r : Int) : Option (Int) → Option (AV × List Blk)
  | some r => some ((AV.v (TV.one (At.int IntKind.i64 r))), [])
  | none => none
theorem zmc (q0u : Nat) (q19 : List Nat) (q10 : Nat) (q1c : List Nat) (q13 : Nat) (q1g : List Nat) (q1r : Int) : evFn Γ1 8 8 14 (impTs 0 [.agg [.row 1 q0u (.fl .f32 q19), .row 1 q10 (.fl .f32 q1c), .row 1 q13 (.fl .f32 q1g)], .one (.s (.int .i64 q1r))]).1 (impTs 0 [.agg [.row 1 q0u (.fl .f32 q19), .row 1 q10 (.fl .f32 q1c), .row 1 q13 (.fl .f32 q1g)], .one (.s (.int .i64 q1r))]).2 (expo (impTs 0 [.agg [.row 1 q0u (.fl .f32 q19), .row 1 q10 (.fl .f32 q1c), .row 1 q13 (.fl .f32 q1g)], .one (.s (.int .i64 q1r))]).2.length) = z9e q0u q19 q10 q1c q13 q1g q1r (fun c0_ => some ((AV.v (TV.one (At.int IntKind.i64 c0_))), [])) := by kernel_rfl
theorem z1h : SumOne Try.prog 14 z2h := sum_of (Γ := Γ1) (fuel := 8) (d := 8) tyTab_ok (FnL.ok fnTab_ok _ _) (LpL.ok lt1_ok) (SumL.ok tb1_ok _) mixed (by
  intro pts v news hp hc
  clear hc
  unfold z2h at hp
  split at hp
  · rename_i q0u q19 q10 q1c q13 q1g q1r
    exact Eq.trans (Eq.trans (zmc q0u q19 q10 q1c q13 q1g q1r) (zj7 (zhc q0u q19 q10 q1c q13 q1g q1r) rfl q0u q19 q10 q1c q13 q1g q1r (fun c0_ => some c0_))) (fin_out (o := (zhc q0u q19 q10 q1c q13 q1g q1r)) (x := z98 q0u q19 q10 q1c q13 q1g q1r) (d := default) (V := fun r => ((AV.v (TV.one (At.int IntKind.i64 r))), [])) (fun r => rfl) hp)
  · cases hp)
noncomputable def z3e : List PT → Option (Bool × AV × List Blk)
  | [.one (.s (.flt .f32 x))] => some ((zfe x), ((AV.tup [(TV.one (At.flt FloatKind.f32 (zes x))), (TV.one (At.bool (zem x)))]), []))
  | _ => none
def zid (x : Nat) : Option (Nat × Bool) → Option (AV × List Blk)
  | some r => some ((AV.tup [(TV.one (At.flt FloatKind.f32 r.1)), (TV.one (At.bool r.2))]), [])
  | none => none
theorem zn2 (x : Nat) : evFn Γ1 8 8 56 (impTs 0 [.one (.s (.flt .f32 x))]).1 (impTs 0 [.one (.s (.flt .f32 x))]).2 (expo (impTs 0 [.one (.s (.flt .f32 x))]).2.length) = zam x (fun c0_ c1_ => some ((AV.tup [(TV.one (At.flt FloatKind.f32 c0_)), (TV.one (At.bool c1_))]), [])) := by kernel_rfl
theorem z2e : SumOne Try.prog 56 z3e := sum_of (Γ := Γ1) (fuel := 8) (d := 8) tyTab_ok (FnL.ok fnTab_ok _ _) (LpL.ok lt1_ok) (SumL.ok tb1_ok _) mixed (by
  intro pts v news hp hc
  clear hc
  unfold z3e at hp
  split at hp
  · rename_i x
    exact Eq.trans (Eq.trans (zn2 x) (zkh (zid x) rfl x (fun c0_ c1_ => some (c0_, c1_)))) (fin_out (o := (zid x)) (x := z99 x) (d := default) (V := fun r => ((AV.tup [(TV.one (At.flt FloatKind.f32 r.1)), (TV.one (At.bool r.2))]), [])) (fun r => rfl) hp)
  · cases hp)
noncomputable def z2j : List PT → Option (Bool × AV × List Blk)
  | [.one (.s (.flt .f32 x))] => some ((ze4 x), ((AV.tup [(TV.one (At.flt FloatKind.f32 (zcz x))), (TV.one (At.bool (zd5 x)))]), []))
  | _ => none
def zh3 (x : Nat) : Option (Nat × Bool) → Option (AV × List Blk)
  | some r => some ((AV.tup [(TV.one (At.flt FloatKind.f32 r.1)), (TV.one (At.bool r.2))]), [])
  | none => none
theorem zm1 (x : Nat) : evFn Γ1 8 8 83 (impTs 0 [.one (.s (.flt .f32 x))]).1 (impTs 0 [.one (.s (.flt .f32 x))]).2 (expo (impTs 0 [.one (.s (.flt .f32 x))]).2.length) = z9g x (fun c0_ c1_ => some ((AV.tup [(TV.one (At.flt FloatKind.f32 c0_)), (TV.one (At.bool c1_))]), [])) := by kernel_rfl
theorem z1f : SumOne Try.prog 83 z2j := sum_of (Γ := Γ1) (fuel := 8) (d := 8) tyTab_ok (FnL.ok fnTab_ok _ _) (LpL.ok lt1_ok) (SumL.ok tb1_ok _) mixed (by
  intro pts v news hp hc
  clear hc
  unfold z2j at hp
  split at hp
  · rename_i x
    exact Eq.trans (Eq.trans (zm1 x) (zjb (zh3 x) rfl x (fun c0_ c1_ => some (c0_, c1_)))) (fin_out (o := (zh3 x)) (x := z7v x) (d := default) (V := fun r => ((AV.tup [(TV.one (At.flt FloatKind.f32 r.1)), (TV.one (At.bool r.2))]), [])) (fun r => rfl) hp)
  · cases hp)
noncomputable def z0m : List PT → Option (Bool × AV × List Blk)
  | [.agg [.row 1 q04 (.fl .f32 q07), .row 1 q06 (.fl .f32 q0a), .row 1 q05 (.fl .f32 q09), .row 3 q0d (.fl .f32 q0i), .s (.int .i64 q0r), .s (.flt .f32 q18), .s (.flt .f32 q14)], .one (.s (.int .i64 i))] => some ((z9r q04 q07 q06 q0a q05 q09 q0d q0i q0r q18 q14 i), ((AV.v (TV.one (At.bool (z94 q04 q07 q06 q0a q05 q09 q0d q0i q0r q18 q14 i)))), []))
  | _ => none
def zfm (q04 : Nat) (q07 : List Nat) (q06 : Nat) (q0a : List Nat) (q05 : Nat) (q09 : List Nat) (q0d : Nat) (q0i : List Nat) (q0r : Int) (q18 : Nat) (q14 : Nat) (i : Int) : Option (Bool) → Option (AV × List Blk)
  | some r => some ((AV.v (TV.one (At.bool r))), [])
  | none => none
theorem zhy (q04 : Nat) (q07 : List Nat) (q06 : Nat) (q0a : List Nat) (q05 : Nat) (q09 : List Nat) (q0d : Nat) (q0i : List Nat) (q0r : Int) (q18 : Nat) (q14 : Nat) (i : Int) : evFn Γ1 8 8 88 (impTs 0 [.agg [.row 1 q04 (.fl .f32 q07), .row 1 q06 (.fl .f32 q0a), .row 1 q05 (.fl .f32 q09), .row 3 q0d (.fl .f32 q0i), .s (.int .i64 q0r), .s (.flt .f32 q18), .s (.flt .f32 q14)], .one (.s (.int .i64 i))]).1 (impTs 0 [.agg [.row 1 q04 (.fl .f32 q07), .row 1 q06 (.fl .f32 q0a), .row 1 q05 (.fl .f32 q09), .row 3 q0d (.fl .f32 q0i), .s (.int .i64 q0r), .s (.flt .f32 q18), .s (.flt .f32 q14)], .one (.s (.int .i64 i))]).2 (expo (impTs 0 [.agg [.row 1 q04 (.fl .f32 q07), .row 1 q06 (.fl .f32 q0a), .row 1 q05 (.fl .f32 q09), .row 3 q0d (.fl .f32 q0i), .s (.int .i64 q0r), .s (.flt .f32 q18), .s (.flt .f32 q14)], .one (.s (.int .i64 i))]).2.length) = z6w q04 q07 q06 q0a q05 q09 q0d q0i q0r q18 q14 i (fun c0_ => some ((AV.v (TV.one (At.bool c0_))), [])) := by kernel_rfl
theorem z0j : SumOne Try.prog 88 z0m := sum_of (Γ := Γ1) (fuel := 8) (d := 8) tyTab_ok (FnL.ok fnTab_ok _ _) (LpL.ok lt1_ok) (SumL.ok tb1_ok _) mixed (by
  intro pts v news hp hc
  clear hc
  unfold z0m at hp
  split at hp
  · rename_i q04 q07 q06 q0a q05 q09 q0d q0i q0r q18 q14 i
    exact Eq.trans (Eq.trans (zhy q04 q07 q06 q0a q05 q09 q0d q0i q0r q18 q14 i) (zgd (zfm q04 q07 q06 q0a q05 q09 q0d q0i q0r q18 q14 i) rfl q04 q07 q06 q0a q05 q09 q0d q0i q0r q18 q14 i (fun c0_ => some c0_))) (fin_out (o := (zfm q04 q07 q06 q0a q05 q09 q0d q0i q0r q18 q14 i)) (x := z6v q04 q07 q06 q0a q05 q09 q0d q0i q0r q18 q14 i) (d := default) (V := fun r => ((AV.v (TV.one (At.bool r))), [])) (fun r => rfl) hp)
  · cases hp)
noncomputable def z3s : List PT → Option (Bool × AV × List Blk)
  | [.one (.s (.flt .f32 q1o))] => some ((zft q1o), ((AV.v (TV.one (At.bool (zfa q1o)))), []))
  | _ => none
def zjx (q1o : Nat) : Option (Bool) → Option (AV × List Blk)
  | some r => some ((AV.v (TV.one (At.bool r))), [])
  | none => none
theorem znd (q1o : Nat) : evFn Γ1 8 8 89 (impTs 0 [.one (.s (.flt .f32 q1o))]).1 (impTs 0 [.one (.s (.flt .f32 q1o))]).2 (expo (impTs 0 [.one (.s (.flt .f32 q1o))]).2.length) = zbm q1o (fun c0_ => some ((AV.v (TV.one (At.bool c0_))), [])) := by kernel_rfl
theorem z2t : SumOne Try.prog 89 z3s := sum_of (Γ := Γ1) (fuel := 8) (d := 8) tyTab_ok (FnL.ok fnTab_ok _ _) (LpL.ok lt1_ok) (SumL.ok tb1_ok _) mixed (by
  intro pts v news hp hc
  clear hc
  unfold z3s at hp
  split at hp
  · rename_i q1o
    exact Eq.trans (Eq.trans (znd q1o) (zlj (zjx q1o) rfl q1o (fun c0_ => some c0_))) (fin_out (o := (zjx q1o)) (x := zbn q1o) (d := default) (V := fun r => ((AV.v (TV.one (At.bool r))), [])) (fun r => rfl) hp)
  · cases hp)
noncomputable def z2y : List PT → Option (Bool × AV × List Blk)
  | [.one (.s (.flt .f32 x))] => some ((z7l x), ((AV.v (TV.one (At.bool (z74 x)))), []))
  | _ => none
def zhs (x : Nat) : Option (Bool) → Option (AV × List Blk)
  | some r => some ((AV.v (TV.one (At.bool r))), [])
  | none => none
theorem zms (x : Nat) : evFn Γ1 8 8 103 (impTs 0 [.one (.s (.flt .f32 x))]).1 (impTs 0 [.one (.s (.flt .f32 x))]).2 (expo (impTs 0 [.one (.s (.flt .f32 x))]).2.length) = z9y x (fun c0_ => some ((AV.v (TV.one (At.bool c0_))), [])) := by kernel_rfl
theorem z1v : SumOne Try.prog 103 z2y := sum_of (Γ := Γ1) (fuel := 8) (d := 8) tyTab_ok (FnL.ok fnTab_ok _ _) (LpL.ok lt1_ok) (SumL.ok tb1_ok _) mixed (by
  intro pts v news hp hc
  clear hc
  unfold z2y at hp
  split at hp
  · rename_i x
    exact Eq.trans (Eq.trans (zms x) (zk2 (zhs x) rfl x (fun c0_ => some c0_))) (fin_out (o := (zhs x)) (x := za5 x) (d := default) (V := fun r => ((AV.v (TV.one (At.bool r))), [])) (fun r => rfl) hp)
  · cases hp)
noncomputable def z2i : List PT → Option (Bool × AV × List Blk)
  | [.agg [.s (.flt .f32 q1x), .s (.flt .f32 q22), .s (.flt .f32 q23)], .agg [.s (.flt .f32 q2d), .s (.flt .f32 q2k), .s (.flt .f32 q2l)]] => some ((ze9 q1x q22 q23 q2d q2k q2l), ((AV.v (TV.one (At.bool (zd7 q1x q22 q23 q2d q2k q2l)))), []))
  | _ => none
def zh0 (q1x : Nat) (q22 : Nat) (q23 : Nat) (q2d : Nat) (q2k : Nat) (q2l : Nat) : Option (Bool) → Option (AV × List Blk)
  | some r => some ((AV.v (TV.one (At.bool r))), [])
  | none => none
theorem zm2 (q1x : Nat) (q22 : Nat) (q23 : Nat) (q2d : Nat) (q2k : Nat) (q2l : Nat) : evFn Γ1 8 8 105 (impTs 0 [.agg [.s (.flt .f32 q1x), .s (.flt .f32 q22), .s (.flt .f32 q23)], .agg [.s (.flt .f32 q2d), .s (.flt .f32 q2k), .s (.flt .f32 q2l)]]).1 (impTs 0 [.agg [.s (.flt .f32 q1x), .s (.flt .f32 q22), .s (.flt .f32 q23)], .agg [.s (.flt .f32 q2d), .s (.flt .f32 q2k), .s (.flt .f32 q2l)]]).2 (expo (impTs 0 [.agg [.s (.flt .f32 q1x), .s (.flt .f32 q22), .s (.flt .f32 q23)], .agg [.s (.flt .f32 q2d), .s (.flt .f32 q2k), .s (.flt .f32 q2l)]]).2.length) = z9l q1x q22 q23 q2d q2k q2l (fun c0_ => some ((AV.v (TV.one (At.bool c0_))), [])) := by kernel_rfl
theorem z1g : SumOne Try.prog 105 z2i := sum_of (Γ := Γ1) (fuel := 8) (d := 8) tyTab_ok (FnL.ok fnTab_ok _ _) (LpL.ok lt1_ok) (SumL.ok tb1_ok _) mixed (by
  intro pts v news hp hc
  clear hc
  unfold z2i at hp
  split at hp
  · rename_i q1x q22 q23 q2d q2k q2l
    exact Eq.trans (Eq.trans (zm2 q1x q22 q23 q2d q2k q2l) (zje (zh0 q1x q22 q23 q2d q2k q2l) rfl q1x q22 q23 q2d q2k q2l (fun c0_ => some c0_))) (fin_out (o := (zh0 q1x q22 q23 q2d q2k q2l)) (x := z9j q1x q22 q23 q2d q2k q2l) (d := default) (V := fun r => ((AV.v (TV.one (At.bool r))), [])) (fun r => rfl) hp)
  · cases hp)
noncomputable def z3f : List PT → Option (Bool × AV × List Blk)
  | [.one (.s (.flt .f32 x))] => some ((zde x), ((AV.v (TV.one (At.bool (zc1 x)))), []))
  | _ => none
def ziy (x : Nat) : Option (Bool) → Option (AV × List Blk)
  | some r => some ((AV.v (TV.one (At.bool r))), [])
  | none => none
theorem zn3 (x : Nat) : evFn Γ1 8 8 111 (impTs 0 [.one (.s (.flt .f32 x))]).1 (impTs 0 [.one (.s (.flt .f32 x))]).2 (expo (impTs 0 [.one (.s (.flt .f32 x))]).2.length) = zaj x (fun c0_ => some ((AV.v (TV.one (At.bool c0_))), [])) := by kernel_rfl
theorem z2c : SumOne Try.prog 111 z3f := sum_of (Γ := Γ1) (fuel := 8) (d := 8) tyTab_ok (FnL.ok fnTab_ok _ _) (LpL.ok lt1_ok) (SumL.ok tb1_ok _) mixed (by
  intro pts v news hp hc
  clear hc
  unfold z3f at hp
  split at hp
  · rename_i x
    exact Eq.trans (Eq.trans (zn3 x) (zko (ziy x) rfl x (fun c0_ => some c0_))) (fin_out (o := (ziy x)) (x := zaq x) (d := default) (V := fun r => ((AV.v (TV.one (At.bool r))), [])) (fun r => rfl) hp)
  · cases hp)
noncomputable def z2x : List PT → Option (Bool × AV × List Blk)
  | [.one (.s (.flt .f32 x))] => some ((zeu x), ((AV.v (TV.one (At.bool (zeb x)))), []))
  | _ => none
def zhq (x : Nat) : Option (Bool) → Option (AV × List Blk)
  | some r => some ((AV.v (TV.one (At.bool r))), [])
  | none => none
theorem zmr (x : Nat) : evFn Γ1 8 8 114 (impTs 0 [.one (.s (.flt .f32 x))]).1 (impTs 0 [.one (.s (.flt .f32 x))]).2 (expo (impTs 0 [.one (.s (.flt .f32 x))]).2.length) = za0 x (fun c0_ => some ((AV.v (TV.one (At.bool c0_))), [])) := by kernel_rfl
theorem z1u : SumOne Try.prog 114 z2x := sum_of (Γ := Γ1) (fuel := 8) (d := 8) tyTab_ok (FnL.ok fnTab_ok _ _) (LpL.ok lt1_ok) (SumL.ok tb1_ok _) mixed (by
  intro pts v news hp hc
  clear hc
  unfold z2x at hp
  split at hp
  · rename_i x
    exact Eq.trans (Eq.trans (zmr x) (zk1 (zhq x) rfl x (fun c0_ => some c0_))) (fin_out (o := (zhq x)) (x := za2 x) (d := default) (V := fun r => ((AV.v (TV.one (At.bool r))), [])) (fun r => rfl) hp)
  · cases hp)
noncomputable def z1e : List PT → Option (Bool × AV × List Blk)
  | [.one (.s (.flt .f32 x))] => some ((zc8 x), ((AV.v (TV.one (At.bool (zb3 x)))), []))
  | _ => none
def zgb (x : Nat) : Option (Bool) → Option (AV × List Blk)
  | some r => some ((AV.v (TV.one (At.bool r))), [])
  | none => none
theorem zkw (x : Nat) : evFn Γ1 8 8 118 (impTs 0 [.one (.s (.flt .f32 x))]).1 (impTs 0 [.one (.s (.flt .f32 x))]).2 (expo (impTs 0 [.one (.s (.flt .f32 x))]).2.length) = z82 x (fun c0_ => some ((AV.v (TV.one (At.bool c0_))), [])) := by kernel_rfl
theorem z0v : SumOne Try.prog 118 z1e := sum_of (Γ := Γ1) (fuel := 8) (d := 8) tyTab_ok (FnL.ok fnTab_ok _ _) (LpL.ok lt1_ok) (SumL.ok tb1_ok _) mixed (by
  intro pts v news hp hc
  clear hc
  unfold z1e at hp
  split at hp
  · rename_i x
    exact Eq.trans (Eq.trans (zkw x) (zhx (zgb x) rfl x (fun c0_ => some c0_))) (fin_out (o := (zgb x)) (x := z7x x) (d := default) (V := fun r => ((AV.v (TV.one (At.bool r))), [])) (fun r => rfl) hp)
  · cases hp)
noncomputable def z0u : List PT → Option (Bool × AV × List Blk)
  | [.one (.s (.flt .f32 x))] => some ((zae x), ((AV.v (TV.one (At.bool (z9z x)))), []))
  | _ => none
def zfy (x : Nat) : Option (Bool) → Option (AV × List Blk)
  | some r => some ((AV.v (TV.one (At.bool r))), [])
  | none => none
theorem zjs (x : Nat) : evFn Γ1 8 8 122 (impTs 0 [.one (.s (.flt .f32 x))]).1 (impTs 0 [.one (.s (.flt .f32 x))]).2 (expo (impTs 0 [.one (.s (.flt .f32 x))]).2.length) = z78 x (fun c0_ => some ((AV.v (TV.one (At.bool c0_))), [])) := by kernel_rfl
theorem z0n : SumOne Try.prog 122 z0u := sum_of (Γ := Γ1) (fuel := 8) (d := 8) tyTab_ok (FnL.ok fnTab_ok _ _) (LpL.ok lt1_ok) (SumL.ok tb1_ok _) mixed (by
  intro pts v news hp hc
  clear hc
  unfold z0u at hp
  split at hp
  · rename_i x
    exact Eq.trans (Eq.trans (zjs x) (zhh (zfy x) rfl x (fun c0_ => some c0_))) (fin_out (o := (zfy x)) (x := z7a x) (d := default) (V := fun r => ((AV.v (TV.one (At.bool r))), [])) (fun r => rfl) hp)
  · cases hp)
noncomputable def z3r : List PT → Option (Bool × AV × List Blk)
  | [.one (.s (.flt .f64 x))] => some ((zfr x), ((AV.v (TV.one (At.bool (zfg x)))), []))
  | _ => none
def zjw (x : Nat) : Option (Bool) → Option (AV × List Blk)
  | some r => some ((AV.v (TV.one (At.bool r))), [])
  | none => none
theorem znh (x : Nat) : evFn Γ1 8 8 123 (impTs 0 [.one (.s (.flt .f64 x))]).1 (impTs 0 [.one (.s (.flt .f64 x))]).2 (expo (impTs 0 [.one (.s (.flt .f64 x))]).2.length) = zbl x (fun c0_ => some ((AV.v (TV.one (At.bool c0_))), [])) := by kernel_rfl
theorem z2s : SumOne Try.prog 123 z3r := sum_of (Γ := Γ1) (fuel := 8) (d := 8) tyTab_ok (FnL.ok fnTab_ok _ _) (LpL.ok lt1_ok) (SumL.ok tb1_ok _) mixed (by
  intro pts v news hp hc
  clear hc
  unfold z3r at hp
  split at hp
  · rename_i x
    exact Eq.trans (Eq.trans (znh x) (zla (zjw x) rfl x (fun c0_ => some c0_))) (fin_out (o := (zjw x)) (x := zbq x) (d := default) (V := fun r => ((AV.v (TV.one (At.bool r))), [])) (fun r => rfl) hp)
  · cases hp)
noncomputable def zfk (an : Nat) (q1z : Nat) (i : Int) (b0 : List Nat) (b1 : List Nat) : Bool × LO := ((z89 an q1z b0 i b1), (LO.one (Ex.exit 0) (St.mk [(0, (AV.v (TV.one (At.vw 0 0 an 1)))), (3, (AV.v (TV.one (At.sl 1 0 q1z 1)))), (4, (AV.v (TV.one (At.int IntKind.i64 (zbd an q1z b0 i b1))))), (11, (AV.v (TV.one (At.bool (zbe an q1z b0 i b1)))))] [(Blk.mk Bool.false (Body.fl FloatKind.f32 b0)), (Blk.mk Bool.true (Body.fl FloatKind.f32 (z7e an q1z b0 i b1)))])))
noncomputable def z0x : Nat → St → Option (Bool × LO) := lpT 1 (pSt [(pTm 0 (pV (pOne (pVw 0 (liN 0) 1)))), (pTm 3 (pV (pOne (pSl 1 (liN 0) 1)))), (pTm 4 (pV (pOne (pInt IntKind.i64))))] [(pBlk Bool.false (pFl FloatKind.f32)), (pBlk Bool.true (pFl FloatKind.f32))]) (fun hs => zfk (hvN (hGet hs 0)) (hvN (hGet hs 1)) (hvI (hGet hs 2)) (hvLn (hGet hs 3)) (hvLn (hGet hs 4)))
def za9 (an : Nat) (q1z : Nat) (b0 : List Nat) : Option ((Int × Bool × (List Nat))) → Option (Ex × St)
  | none => none
  | some r => some ((Ex.exit 0), (St.mk [(0, (AV.v (TV.one (At.vw 0 0 an 1)))), (3, (AV.v (TV.one (At.sl 1 0 q1z 1)))), (4, (AV.v (TV.one (At.int IntKind.i64 r.1)))), (11, (AV.v (TV.one (At.bool r.2.1))))] [(Blk.mk Bool.false (Body.fl FloatKind.f32 b0)), (Blk.mk Bool.true (Body.fl FloatKind.f32 r.2.2))]))
def zif (an : Nat) (q1z : Nat) (b0 : List Nat) (x : Option ((Int × Bool × (List Nat)))) : LO := (LO.one (Ex.exit 0) (St.mk [(0, (AV.v (TV.one (At.vw 0 0 an 1)))), (3, (AV.v (TV.one (At.sl 1 0 q1z 1)))), (4, (AV.v (TV.one (At.int IntKind.i64 (x.getD default).1)))), (11, (AV.v (TV.one (At.bool (x.getD default).2.1))))] [(Blk.mk Bool.false (Body.fl FloatKind.f32 b0)), (Blk.mk Bool.true (Body.fl FloatKind.f32 (x.getD default).2.2))]))
theorem zj6 (an : Nat) (q1z : Nat) (b0 : List Nat) : ∀ x : Option ((Int × Bool × (List Nat))), x.isSome = true → (za9 an q1z b0) x = some (pick (zif an q1z b0 x))
  | none, h => by cases h
  | some r, _ => rfl
theorem zjo (an : Nat) (q1z : Nat) (i : Int) (b0 : List Nat) (b1 : List Nat) (K : Ex → St → Option (Ex × St)) : evC (R := Ex × St) Γ1 (evFn Γ1 8 8) 52 1 fi52.nt fi52.live fi52.nl 8 (findL 3 (loopsIn fi52.code)) (St.mk [(0, (AV.v (TV.one (At.vw 0 0 an 1)))), (3, (AV.v (TV.one (At.sl 1 0 q1z 1)))), (4, (AV.v (TV.one (At.int IntKind.i64 i))))] [(Blk.mk Bool.false (Body.fl FloatKind.f32 b0)), (Blk.mk Bool.true (Body.fl FloatKind.f32 b1))]) K = z65 an q1z b0 i b1 (fun i' b1' => K .normal (St.mk [(0, (AV.v (TV.one (At.vw 0 0 an 1)))), (3, (AV.v (TV.one (At.sl 1 0 q1z 1)))), (4, (AV.v (TV.one (At.int IntKind.i64 i'))))] [(Blk.mk Bool.false (Body.fl FloatKind.f32 b0)), (Blk.mk Bool.true (Body.fl FloatKind.f32 b1'))])) (fun c0_ c1_ c2_ => K (Ex.exit 0) (St.mk [(0, (AV.v (TV.one (At.vw 0 0 an 1)))), (3, (AV.v (TV.one (At.sl 1 0 q1z 1)))), (4, (AV.v (TV.one (At.int IntKind.i64 c0_)))), (11, (AV.v (TV.one (At.bool c1_))))] [(Blk.mk Bool.false (Body.fl FloatKind.f32 b0)), (Blk.mk Bool.true (Body.fl FloatKind.f32 c2_))])) := by kernel_rfl
theorem zjj (an : Nat) (q1z : Nat) (b0 : List Nat) : ∀ (n : Nat) (i : Int) (b1 : List Nat), iter 52 3 1 (evC (R := Ex × St) Γ1 (evFn Γ1 8 8) 52 1 fi52.nt fi52.live fi52.nl 8 (findL 3 (loopsIn fi52.code))) n (St.mk [(0, (AV.v (TV.one (At.vw 0 0 an 1)))), (3, (AV.v (TV.one (At.sl 1 0 q1z 1)))), (4, (AV.v (TV.one (At.int IntKind.i64 i))))] [(Blk.mk Bool.false (Body.fl FloatKind.f32 b0)), (Blk.mk Bool.true (Body.fl FloatKind.f32 b1))]) (fun e st => some (e, st)) = (za9 an q1z b0) (z5c an q1z b0 n i b1) := by
  intro n
  induction n with
  | zero => intros; rfl
  | succ n ih =>
    intro i b1
    refine Eq.trans (iter_succ ..) (Eq.trans (zjo an q1z i b0 b1 (nextK 52 3 1 (evC (R := Ex × St) Γ1 (evFn Γ1 8 8) 52 1 fi52.nt fi52.live fi52.nl 8 (findL 3 (loopsIn fi52.code))) n (fun e st => some (e, st)))) (Eq.trans ?_ (zhj (za9 an q1z b0) rfl an q1z b0 i b1 (fun i' b1' => z5c an q1z b0 n i' b1') (fun c0_ c1_ c2_ => some (c0_, c1_, c2_)))))
    exact congrArg (fun kn_ => z65 an q1z b0 i b1 kn_ (fun c0_ c1_ c2_ => (za9 an q1z b0) (some (c0_, c1_, c2_)))) (funext fun i' => funext fun b1' => ih i' b1')
theorem z0o : LoopOne Try.prog fnTab 52 3 z0x := lp_of (Γ := Γ1) tyTab_ok (FnL.ok fnTab_ok _ _) (LpL.ok lt1_ok) (SumL.ok tb1_ok _) mixed (fi := fi52) (by kernel_rfl) (by kernel_rfl) (by
  intro lo st out hp
  obtain ⟨hs, e1, e2, e3⟩ := lpT_inv hp
  clear hp
  obtain rfl : st = (St.mk [(0, (AV.v (TV.one (At.vw 0 0 (hvN (hGet hs 0)) 1)))), (3, (AV.v (TV.one (At.sl 1 0 (hvN (hGet hs 1)) 1)))), (4, (AV.v (TV.one (At.int IntKind.i64 (hvI (hGet hs 2))))))] [(Blk.mk Bool.false (Body.fl FloatKind.f32 (hvLn (hGet hs 3)))), (Blk.mk Bool.true (Body.fl FloatKind.f32 (hvLn (hGet hs 4))))]) := e2.trans (by kernel_rfl)
  clear e2
  subst e1
  unfold zfk at e3
  injection e3 with h1 h2
  subst h2
  exact ⟨8, 8, big, Eq.trans (zjj (hvN (hGet hs 0)) (hvN (hGet hs 1)) (hvLn (hGet hs 3)) big (hvI (hGet hs 2)) (hvLn (hGet hs 4))) (zj6 (hvN (hGet hs 0)) (hvN (hGet hs 1)) (hvLn (hGet hs 3)) (z5c (hvN (hGet hs 0)) (hvN (hGet hs 1)) (hvLn (hGet hs 3)) big (hvI (hGet hs 2)) (hvLn (hGet hs 4))) h1)⟩)
noncomputable def tb2 : List (Nat × (List PT → Option (Bool × AV × List Blk))) := [(125, z1y), (128, z0k), (134, z11), (137, z1x), (18, z26), (44, z29), (48, z1o), (54, z2q), (61, z25), (63, z42), (66, z3o), (80, z1p), (82, z38), (84, z3n), (97, z2r), (109, z27), (121, z4i), (129, z4j), (14, z2h), (56, z3e), (83, z2j), (88, z0m), (89, z3s), (103, z2y), (105, z2i), (111, z3f), (114, z2x), (118, z1e), (122, z0u), (123, z3r)]
noncomputable def lt2 : List ((Nat × Nat) × (Nat → St → Option (Bool × LO))) := [((52, 3), z0x)]
noncomputable def Γ2 : Ctx := ⟨tyTab, fnTab, tblSum tb2, tblLp lt2⟩
theorem tb2_ok : SumL Try.prog tb2 := SumL.cons z10 (SumL.cons z0i (SumL.cons z0r (SumL.cons z0z (SumL.cons z18 (SumL.cons z15 (SumL.cons z0y (SumL.cons z1n (SumL.cons z16 (SumL.cons z36 (SumL.cons z2o (SumL.cons z0w (SumL.cons z21 (SumL.cons z2m (SumL.cons z1m (SumL.cons z17 (SumL.cons z3x (SumL.cons z3w (SumL.cons z1h (SumL.cons z2e (SumL.cons z1f (SumL.cons z0j (SumL.cons z2t (SumL.cons z1v (SumL.cons z1g (SumL.cons z2c (SumL.cons z1u (SumL.cons z0v (SumL.cons z0n (SumL.cons z2s (SumL.nil))))))))))))))))))))))))))))))
theorem lt2_ok : LpL Try.prog fnTab lt2 := LpL.cons z0o (LpL.nil)
noncomputable def z3j : List PT → Option (Bool × AV × List Blk)
  | [.agg [.row 1 q0e (.fl .f32 q0h), .row 1 q0g (.fl .f32 q0l), .row 1 q0f (.fl .f32 q0k), .row 3 q0n (.fl .f32 q0y), .s (.int .i64 q1b), .s (.flt .f32 q1l), .s (.flt .f32 q1k)], .one (.s (.int .i64 q1r))] => some ((zdn q0e q0h q0g q0l q0f q0k q0n q0y q1b q1l q1k q1r), ((AV.v (TV.one (At.int IntKind.i64 (zbx q0e q0h q0g q0l q0f q0k q0n q0y q1b q1l q1k q1r)))), []))
  | _ => none
def zii (q0e : Nat) (q0h : List Nat) (q0g : Nat) (q0l : List Nat) (q0f : Nat) (q0k : List Nat) (q0n : Nat) (q0y : List Nat) (q1b : Int) (q1l : Nat) (q1k : Nat) (q1r : Int) : Option (Int) → Option (AV × List Blk)
  | some r => some ((AV.v (TV.one (At.int IntKind.i64 r))), [])
  | none => none
theorem zn4 (q0e : Nat) (q0h : List Nat) (q0g : Nat) (q0l : List Nat) (q0f : Nat) (q0k : List Nat) (q0n : Nat) (q0y : List Nat) (q1b : Int) (q1l : Nat) (q1k : Nat) (q1r : Int) : evFn Γ2 8 8 37 (impTs 0 [.agg [.row 1 q0e (.fl .f32 q0h), .row 1 q0g (.fl .f32 q0l), .row 1 q0f (.fl .f32 q0k), .row 3 q0n (.fl .f32 q0y), .s (.int .i64 q1b), .s (.flt .f32 q1l), .s (.flt .f32 q1k)], .one (.s (.int .i64 q1r))]).1 (impTs 0 [.agg [.row 1 q0e (.fl .f32 q0h), .row 1 q0g (.fl .f32 q0l), .row 1 q0f (.fl .f32 q0k), .row 3 q0n (.fl .f32 q0y), .s (.int .i64 q1b), .s (.flt .f32 q1l), .s (.flt .f32 q1k)], .one (.s (.int .i64 q1r))]).2 (expo (impTs 0 [.agg [.row 1 q0e (.fl .f32 q0h), .row 1 q0g (.fl .f32 q0l), .row 1 q0f (.fl .f32 q0k), .row 3 q0n (.fl .f32 q0y), .s (.int .i64 q1b), .s (.flt .f32 q1l), .s (.flt .f32 q1k)], .one (.s (.int .i64 q1r))]).2.length) = zao q0e q0h q0g q0l q0f q0k q0n q0y q1b q1l q1k q1r (fun c0_ => some ((AV.v (TV.one (At.int IntKind.i64 c0_))), [])) := by kernel_rfl
theorem z2l : SumOne Try.prog 37 z3j := sum_of (Γ := Γ2) (fuel := 8) (d := 8) tyTab_ok (FnL.ok fnTab_ok _ _) (LpL.ok lt2_ok) (SumL.ok tb2_ok _) mixed (by
  intro pts v news hp hc
  clear hc
  unfold z3j at hp
  split at hp
  · rename_i q0e q0h q0g q0l q0f q0k q0n q0y q1b q1l q1k q1r
    exact Eq.trans (Eq.trans (zn4 q0e q0h q0g q0l q0f q0k q0n q0y q1b q1l q1k q1r) (zkk (zii q0e q0h q0g q0l q0f q0k q0n q0y q1b q1l q1k q1r) rfl q0e q0h q0g q0l q0f q0k q0n q0y q1b q1l q1k q1r (fun c0_ => some c0_))) (fin_out (o := (zii q0e q0h q0g q0l q0f q0k q0n q0y q1b q1l q1k q1r)) (x := zap q0e q0h q0g q0l q0f q0k q0n q0y q1b q1l q1k q1r) (d := default) (V := fun r => ((AV.v (TV.one (At.int IntKind.i64 r))), [])) (fun r => rfl) hp)
  · cases hp)
noncomputable def z22 : List PT → Option (Bool × AV × List Blk)
  | [.one (.row 1 a_n (.fl .f32 a))] => some ((z8s a_n a), ((AV.v (TV.one (At.sl 0 0 (z7z a_n a) 1))), [(Blk.mk Bool.true (Body.fl FloatKind.f32 (z81 a_n a)))]))
  | _ => none
def zgs (a_n : Nat) (a : List Nat) : Option (Nat × (List Nat)) → Option (AV × List Blk)
  | some r => some ((AV.v (TV.one (At.sl 0 0 r.1 1))), [(Blk.mk Bool.true (Body.fl FloatKind.f32 r.2))])
  | none => none
theorem zl1 (a_n : Nat) (a : List Nat) : evFn Γ2 8 8 52 (impTs 0 [.one (.row 1 a_n (.fl .f32 a))]).1 (impTs 0 [.one (.row 1 a_n (.fl .f32 a))]).2 (expo (impTs 0 [.one (.row 1 a_n (.fl .f32 a))]).2.length) = z8y a_n a (fun c0_ c1_ => some ((AV.v (TV.one (At.sl 0 0 c0_ 1))), [(Blk.mk Bool.true (Body.fl FloatKind.f32 c1_))])) := by kernel_rfl
theorem z1b : SumOne Try.prog 52 z22 := sum_of (Γ := Γ2) (fuel := 8) (d := 8) tyTab_ok (FnL.ok fnTab_ok _ _) (LpL.ok lt2_ok) (SumL.ok tb2_ok _) mixed (by
  intro pts v news hp hc
  clear hc
  unfold z22 at hp
  split at hp
  · rename_i a_n a
    exact Eq.trans (Eq.trans (zl1 a_n a) (zig (zgs a_n a) rfl a_n a (fun c0_ c1_ => some (c0_, c1_)))) (fin_out (o := (zgs a_n a)) (x := z7k a_n a) (d := default) (V := fun r => ((AV.v (TV.one (At.sl 0 0 r.1 1))), [(Blk.mk Bool.true (Body.fl FloatKind.f32 r.2))])) (fun r => rfl) hp)
  · cases hp)
noncomputable def z23 : List PT → Option (Bool × AV × List Blk)
  | [.one (.s (.flt .f32 x))] => some ((zd0 x), ((AV.v (TV.one (At.bool (zc5 x)))), []))
  | _ => none
def zgq (x : Nat) : Option (Bool) → Option (AV × List Blk)
  | some r => some ((AV.v (TV.one (At.bool r))), [])
  | none => none
theorem zlg (x : Nat) : evFn Γ2 8 8 119 (impTs 0 [.one (.s (.flt .f32 x))]).1 (impTs 0 [.one (.s (.flt .f32 x))]).2 (expo (impTs 0 [.one (.s (.flt .f32 x))]).2.length) = z92 x (fun c0_ => some ((AV.v (TV.one (At.bool c0_))), [])) := by kernel_rfl
theorem z1a : SumOne Try.prog 119 z23 := sum_of (Γ := Γ2) (fuel := 8) (d := 8) tyTab_ok (FnL.ok fnTab_ok _ _) (LpL.ok lt2_ok) (SumL.ok tb2_ok _) mixed (by
  intro pts v news hp hc
  clear hc
  unfold z23 at hp
  split at hp
  · rename_i x
    exact Eq.trans (Eq.trans (zlg x) (zir (zgq x) rfl x (fun c0_ => some c0_))) (fin_out (o := (zgq x)) (x := z8t x) (d := default) (V := fun r => ((AV.v (TV.one (At.bool r))), [])) (fun r => rfl) hp)
  · cases hp)
noncomputable def z4b : List PT → Option (Bool × AV × List Blk)
  | [.one (.s (.flt .f64 x))] => some ((zg1 x), ((AV.v (TV.one (At.flt FloatKind.f64 (za8 x)))), []))
  | _ => none
def zkx (x : Nat) : Option (Nat) → Option (AV × List Blk)
  | some r => some ((AV.v (TV.one (At.flt FloatKind.f64 r))), [])
  | none => none
theorem znk (x : Nat) : evFn Γ2 8 8 135 (impTs 0 [.one (.s (.flt .f64 x))]).1 (impTs 0 [.one (.s (.flt .f64 x))]).2 (expo (impTs 0 [.one (.s (.flt .f64 x))]).2.length) = zdb x (fun c0_ => some ((AV.v (TV.one (At.flt FloatKind.f64 c0_))), [])) := by kernel_rfl
theorem z3i : SumOne Try.prog 135 z4b := sum_of (Γ := Γ2) (fuel := 8) (d := 8) tyTab_ok (FnL.ok fnTab_ok _ _) (LpL.ok lt2_ok) (SumL.ok tb2_ok _) mixed (by
  intro pts v news hp hc
  clear hc
  unfold z4b at hp
  split at hp
  · rename_i x
    exact Eq.trans (Eq.trans (znk x) (zlx (zkx x) rfl x (fun c0_ => some c0_))) (fin_out (o := (zkx x)) (x := zdd x) (d := default) (V := fun r => ((AV.v (TV.one (At.flt FloatKind.f64 r))), [])) (fun r => rfl) hp)
  · cases hp)
noncomputable def zfn (an : Nat) (bn : Nat) (i : Int) (b0 : List Nat) (b1 : List Nat) : Bool × LO := ((zaa an bn b0 b1 i), (LO.two (z9x an bn b0 b1 i) (LO.one Ex.ret (St.mk [(4, (AV.v (TV.one (At.bool Bool.false))))] [(Blk.mk Bool.false (Body.fl FloatKind.f32 b0)), (Blk.mk Bool.false (Body.fl FloatKind.f32 b1))])) (LO.one (Ex.exit 0) (St.mk [(0, (AV.v (TV.one (At.vw 0 0 an 1)))), (1, (AV.v (TV.one (At.vw 1 0 bn 1)))), (5, (AV.v (TV.one (At.int IntKind.i64 (zbi an bn b0 b1 i))))), (14, (AV.v (TV.one (At.bool (zb4 an bn b0 b1 i)))))] [(Blk.mk Bool.false (Body.fl FloatKind.f32 b0)), (Blk.mk Bool.false (Body.fl FloatKind.f32 b1))]))))
noncomputable def z12 : Nat → St → Option (Bool × LO) := lpT 2 (pSt [(pTm 0 (pV (pOne (pVw 0 (liN 0) 1)))), (pTm 1 (pV (pOne (pVw 1 (liN 0) 1)))), (pTm 5 (pV (pOne (pInt IntKind.i64))))] [(pBlk Bool.false (pFl FloatKind.f32)), (pBlk Bool.false (pFl FloatKind.f32))]) (fun hs => zfn (hvN (hGet hs 0)) (hvN (hGet hs 1)) (hvI (hGet hs 2)) (hvLn (hGet hs 3)) (hvLn (hGet hs 4)))
def z8b (an : Nat) (bn : Nat) (b0 : List Nat) (b1 : List Nat) : Option ((Unit) ⊕ (Int × Bool)) → Option (Ex × St)
  | none => none
  | some (Sum.inl r) => some (Ex.ret, (St.mk [(4, (AV.v (TV.one (At.bool Bool.false))))] [(Blk.mk Bool.false (Body.fl FloatKind.f32 b0)), (Blk.mk Bool.false (Body.fl FloatKind.f32 b1))]))
  | some (Sum.inr r) => some ((Ex.exit 0), (St.mk [(0, (AV.v (TV.one (At.vw 0 0 an 1)))), (1, (AV.v (TV.one (At.vw 1 0 bn 1)))), (5, (AV.v (TV.one (At.int IntKind.i64 r.1)))), (14, (AV.v (TV.one (At.bool r.2))))] [(Blk.mk Bool.false (Body.fl FloatKind.f32 b0)), (Blk.mk Bool.false (Body.fl FloatKind.f32 b1))]))
def zic (an : Nat) (bn : Nat) (b0 : List Nat) (b1 : List Nat) (x : Option ((Unit) ⊕ (Int × Bool))) : LO := (LO.two (oL x) (LO.one Ex.ret (St.mk [(4, (AV.v (TV.one (At.bool Bool.false))))] [(Blk.mk Bool.false (Body.fl FloatKind.f32 b0)), (Blk.mk Bool.false (Body.fl FloatKind.f32 b1))])) (LO.one (Ex.exit 0) (St.mk [(0, (AV.v (TV.one (At.vw 0 0 an 1)))), (1, (AV.v (TV.one (At.vw 1 0 bn 1)))), (5, (AV.v (TV.one (At.int IntKind.i64 ((tR x).getD default).1)))), (14, (AV.v (TV.one (At.bool ((tR x).getD default).2))))] [(Blk.mk Bool.false (Body.fl FloatKind.f32 b0)), (Blk.mk Bool.false (Body.fl FloatKind.f32 b1))])))
theorem zj3 (an : Nat) (bn : Nat) (b0 : List Nat) (b1 : List Nat) : ∀ x : Option ((Unit) ⊕ (Int × Bool)), x.isSome = true → (z8b an bn b0 b1) x = some (pick (zic an bn b0 b1 x))
  | none, h => by cases h
  | some (Sum.inl r), _ => rfl
  | some (Sum.inr r), _ => rfl
theorem zjp (an : Nat) (bn : Nat) (i : Int) (b0 : List Nat) (b1 : List Nat) (K : Ex → St → Option (Ex × St)) : evC (R := Ex × St) Γ2 (evFn Γ2 8 8) 57 2 fi57.nt fi57.live fi57.nl 8 (findL 4 (loopsIn fi57.code)) (St.mk [(0, (AV.v (TV.one (At.vw 0 0 an 1)))), (1, (AV.v (TV.one (At.vw 1 0 bn 1)))), (5, (AV.v (TV.one (At.int IntKind.i64 i))))] [(Blk.mk Bool.false (Body.fl FloatKind.f32 b0)), (Blk.mk Bool.false (Body.fl FloatKind.f32 b1))]) K = z62 an bn b0 b1 i (fun i' => K .normal (St.mk [(0, (AV.v (TV.one (At.vw 0 0 an 1)))), (1, (AV.v (TV.one (At.vw 1 0 bn 1)))), (5, (AV.v (TV.one (At.int IntKind.i64 i'))))] [(Blk.mk Bool.false (Body.fl FloatKind.f32 b0)), (Blk.mk Bool.false (Body.fl FloatKind.f32 b1))])) (fun _ => K Ex.ret (St.mk [(4, (AV.v (TV.one (At.bool Bool.false))))] [(Blk.mk Bool.false (Body.fl FloatKind.f32 b0)), (Blk.mk Bool.false (Body.fl FloatKind.f32 b1))])) (fun c0_ c1_ => K (Ex.exit 0) (St.mk [(0, (AV.v (TV.one (At.vw 0 0 an 1)))), (1, (AV.v (TV.one (At.vw 1 0 bn 1)))), (5, (AV.v (TV.one (At.int IntKind.i64 c0_)))), (14, (AV.v (TV.one (At.bool c1_))))] [(Blk.mk Bool.false (Body.fl FloatKind.f32 b0)), (Blk.mk Bool.false (Body.fl FloatKind.f32 b1))])) := by kernel_rfl
theorem zjf (an : Nat) (bn : Nat) (b0 : List Nat) (b1 : List Nat) : ∀ (n : Nat) (i : Int), iter 57 4 2 (evC (R := Ex × St) Γ2 (evFn Γ2 8 8) 57 2 fi57.nt fi57.live fi57.nl 8 (findL 4 (loopsIn fi57.code))) n (St.mk [(0, (AV.v (TV.one (At.vw 0 0 an 1)))), (1, (AV.v (TV.one (At.vw 1 0 bn 1)))), (5, (AV.v (TV.one (At.int IntKind.i64 i))))] [(Blk.mk Bool.false (Body.fl FloatKind.f32 b0)), (Blk.mk Bool.false (Body.fl FloatKind.f32 b1))]) (fun e st => some (e, st)) = (z8b an bn b0 b1) (z5e an bn b0 b1 n i) := by
  intro n
  induction n with
  | zero => intros; rfl
  | succ n ih =>
    intro i
    refine Eq.trans (iter_succ ..) (Eq.trans (zjp an bn i b0 b1 (nextK 57 4 2 (evC (R := Ex × St) Γ2 (evFn Γ2 8 8) 57 2 fi57.nt fi57.live fi57.nl 8 (findL 4 (loopsIn fi57.code))) n (fun e st => some (e, st)))) (Eq.trans ?_ (zh5 (z8b an bn b0 b1) rfl an bn b0 b1 i (fun i' => z5e an bn b0 b1 n i') (fun _ => some (Sum.inl ())) (fun c0_ c1_ => some (Sum.inr (c0_, c1_))))))
    exact congrArg (fun kn_ => z62 an bn b0 b1 i kn_ (fun _ => (z8b an bn b0 b1) (some (Sum.inl ()))) (fun c0_ c1_ => (z8b an bn b0 b1) (some (Sum.inr (c0_, c1_))))) (funext fun i' => ih i')
theorem z0p : LoopOne Try.prog fnTab 57 4 z12 := lp_of (Γ := Γ2) tyTab_ok (FnL.ok fnTab_ok _ _) (LpL.ok lt2_ok) (SumL.ok tb2_ok _) mixed (fi := fi57) (by kernel_rfl) (by kernel_rfl) (by
  intro lo st out hp
  obtain ⟨hs, e1, e2, e3⟩ := lpT_inv hp
  clear hp
  obtain rfl : st = (St.mk [(0, (AV.v (TV.one (At.vw 0 0 (hvN (hGet hs 0)) 1)))), (1, (AV.v (TV.one (At.vw 1 0 (hvN (hGet hs 1)) 1)))), (5, (AV.v (TV.one (At.int IntKind.i64 (hvI (hGet hs 2))))))] [(Blk.mk Bool.false (Body.fl FloatKind.f32 (hvLn (hGet hs 3)))), (Blk.mk Bool.false (Body.fl FloatKind.f32 (hvLn (hGet hs 4))))]) := e2.trans (by kernel_rfl)
  clear e2
  subst e1
  unfold zfn at e3
  injection e3 with h1 h2
  subst h2
  exact ⟨8, 8, big, Eq.trans (zjf (hvN (hGet hs 0)) (hvN (hGet hs 1)) (hvLn (hGet hs 3)) (hvLn (hGet hs 4)) big (hvI (hGet hs 2))) (zj3 (hvN (hGet hs 0)) (hvN (hGet hs 1)) (hvLn (hGet hs 3)) (hvLn (hGet hs 4)) (z5e (hvN (hGet hs 0)) (hvN (hGet hs 1)) (hvLn (hGet hs 3)) (hvLn (hGet hs 4)) big (hvI (hGet hs 2))) h1)⟩)
noncomputable def zfo (an : Nat) (q1z : Nat) (i : Int) (b0 : List Nat) (b1 : List Nat) : Bool × LO := ((z87 an q1z b0 i b1), (LO.one (Ex.exit 0) (St.mk [(0, (AV.v (TV.one (At.vw 0 0 an 3)))), (3, (AV.v (TV.one (At.sl 1 0 q1z 3)))), (4, (AV.v (TV.one (At.int IntKind.i64 (zbf an q1z b0 i b1))))), (11, (AV.v (TV.one (At.bool (zbc an q1z b0 i b1)))))] [(Blk.mk Bool.false (Body.fl FloatKind.f32 b0)), (Blk.mk Bool.true (Body.fl FloatKind.f32 (z7d an q1z b0 i b1)))])))
noncomputable def z13 : Nat → St → Option (Bool × LO) := lpT 1 (pSt [(pTm 0 (pV (pOne (pVw 0 (liN 0) 3)))), (pTm 3 (pV (pOne (pSl 1 (liN 0) 3)))), (pTm 4 (pV (pOne (pInt IntKind.i64))))] [(pBlk Bool.false (pFl FloatKind.f32)), (pBlk Bool.true (pFl FloatKind.f32))]) (fun hs => zfo (hvN (hGet hs 0)) (hvN (hGet hs 1)) (hvI (hGet hs 2)) (hvLn (hGet hs 3)) (hvLn (hGet hs 4)))
def zaf (an : Nat) (q1z : Nat) (b0 : List Nat) : Option ((Int × Bool × (List Nat))) → Option (Ex × St)
  | none => none
  | some r => some ((Ex.exit 0), (St.mk [(0, (AV.v (TV.one (At.vw 0 0 an 3)))), (3, (AV.v (TV.one (At.sl 1 0 q1z 3)))), (4, (AV.v (TV.one (At.int IntKind.i64 r.1)))), (11, (AV.v (TV.one (At.bool r.2.1))))] [(Blk.mk Bool.false (Body.fl FloatKind.f32 b0)), (Blk.mk Bool.true (Body.fl FloatKind.f32 r.2.2))]))
def ziq (an : Nat) (q1z : Nat) (b0 : List Nat) (x : Option ((Int × Bool × (List Nat)))) : LO := (LO.one (Ex.exit 0) (St.mk [(0, (AV.v (TV.one (At.vw 0 0 an 3)))), (3, (AV.v (TV.one (At.sl 1 0 q1z 3)))), (4, (AV.v (TV.one (At.int IntKind.i64 (x.getD default).1)))), (11, (AV.v (TV.one (At.bool (x.getD default).2.1))))] [(Blk.mk Bool.false (Body.fl FloatKind.f32 b0)), (Blk.mk Bool.true (Body.fl FloatKind.f32 (x.getD default).2.2))]))
theorem zj9 (an : Nat) (q1z : Nat) (b0 : List Nat) : ∀ x : Option ((Int × Bool × (List Nat))), x.isSome = true → (zaf an q1z b0) x = some (pick (ziq an q1z b0 x))
  | none, h => by cases h
  | some r, _ => rfl
theorem zj4 (an : Nat) (q1z : Nat) (i : Int) (b0 : List Nat) (b1 : List Nat) (K : Ex → St → Option (Ex × St)) : evC (R := Ex × St) Γ2 (evFn Γ2 8 8) 86 1 fi86.nt fi86.live fi86.nl 8 (findL 3 (loopsIn fi86.code)) (St.mk [(0, (AV.v (TV.one (At.vw 0 0 an 3)))), (3, (AV.v (TV.one (At.sl 1 0 q1z 3)))), (4, (AV.v (TV.one (At.int IntKind.i64 i))))] [(Blk.mk Bool.false (Body.fl FloatKind.f32 b0)), (Blk.mk Bool.true (Body.fl FloatKind.f32 b1))]) K = z63 an q1z b0 i b1 (fun i' b1' => K .normal (St.mk [(0, (AV.v (TV.one (At.vw 0 0 an 3)))), (3, (AV.v (TV.one (At.sl 1 0 q1z 3)))), (4, (AV.v (TV.one (At.int IntKind.i64 i'))))] [(Blk.mk Bool.false (Body.fl FloatKind.f32 b0)), (Blk.mk Bool.true (Body.fl FloatKind.f32 b1'))])) (fun c0_ c1_ c2_ => K (Ex.exit 0) (St.mk [(0, (AV.v (TV.one (At.vw 0 0 an 3)))), (3, (AV.v (TV.one (At.sl 1 0 q1z 3)))), (4, (AV.v (TV.one (At.int IntKind.i64 c0_)))), (11, (AV.v (TV.one (At.bool c1_))))] [(Blk.mk Bool.false (Body.fl FloatKind.f32 b0)), (Blk.mk Bool.true (Body.fl FloatKind.f32 c2_))])) := by kernel_rfl
theorem zjd (an : Nat) (q1z : Nat) (b0 : List Nat) : ∀ (n : Nat) (i : Int) (b1 : List Nat), iter 86 3 1 (evC (R := Ex × St) Γ2 (evFn Γ2 8 8) 86 1 fi86.nt fi86.live fi86.nl 8 (findL 3 (loopsIn fi86.code))) n (St.mk [(0, (AV.v (TV.one (At.vw 0 0 an 3)))), (3, (AV.v (TV.one (At.sl 1 0 q1z 3)))), (4, (AV.v (TV.one (At.int IntKind.i64 i))))] [(Blk.mk Bool.false (Body.fl FloatKind.f32 b0)), (Blk.mk Bool.true (Body.fl FloatKind.f32 b1))]) (fun e st => some (e, st)) = (zaf an q1z b0) (z4o an q1z b0 n i b1) := by
  intro n
  induction n with
  | zero => intros; rfl
  | succ n ih =>
    intro i b1
    refine Eq.trans (iter_succ ..) (Eq.trans (zj4 an q1z i b0 b1 (nextK 86 3 1 (evC (R := Ex × St) Γ2 (evFn Γ2 8 8) 86 1 fi86.nt fi86.live fi86.nl 8 (findL 3 (loopsIn fi86.code))) n (fun e st => some (e, st)))) (Eq.trans ?_ (zh8 (zaf an q1z b0) rfl an q1z b0 i b1 (fun i' b1' => z4o an q1z b0 n i' b1') (fun c0_ c1_ c2_ => some (c0_, c1_, c2_)))))
    exact congrArg (fun kn_ => z63 an q1z b0 i b1 kn_ (fun c0_ c1_ c2_ => (zaf an q1z b0) (some (c0_, c1_, c2_)))) (funext fun i' => funext fun b1' => ih i' b1')
theorem z0q : LoopOne Try.prog fnTab 86 3 z13 := lp_of (Γ := Γ2) tyTab_ok (FnL.ok fnTab_ok _ _) (LpL.ok lt2_ok) (SumL.ok tb2_ok _) mixed (fi := fi86) (by kernel_rfl) (by kernel_rfl) (by
  intro lo st out hp
  obtain ⟨hs, e1, e2, e3⟩ := lpT_inv hp
  clear hp
  obtain rfl : st = (St.mk [(0, (AV.v (TV.one (At.vw 0 0 (hvN (hGet hs 0)) 3)))), (3, (AV.v (TV.one (At.sl 1 0 (hvN (hGet hs 1)) 3)))), (4, (AV.v (TV.one (At.int IntKind.i64 (hvI (hGet hs 2))))))] [(Blk.mk Bool.false (Body.fl FloatKind.f32 (hvLn (hGet hs 3)))), (Blk.mk Bool.true (Body.fl FloatKind.f32 (hvLn (hGet hs 4))))]) := e2.trans (by kernel_rfl)
  clear e2
  subst e1
  unfold zfo at e3
  injection e3 with h1 h2
  subst h2
  exact ⟨8, 8, big, Eq.trans (zjd (hvN (hGet hs 0)) (hvN (hGet hs 1)) (hvLn (hGet hs 3)) big (hvI (hGet hs 2)) (hvLn (hGet hs 4))) (zj9 (hvN (hGet hs 0)) (hvN (hGet hs 1)) (hvLn (hGet hs 3)) (z4o (hvN (hGet hs 0)) (hvN (hGet hs 1)) (hvLn (hGet hs 3)) big (hvI (hGet hs 2)) (hvLn (hGet hs 4))) h1)⟩)
noncomputable def zez (t4 : Bool) (t5 : Nat) (t6 : Nat) (t7 : Nat) (t8 : Int) : Bool × LO := ((z55 t6 t7 t8), (LO.one (Ex.exit 0) (St.mk [(4, (AV.v (TV.one (At.bool t4)))), (5, (AV.v (TV.one (At.flt FloatKind.f64 t5)))), (6, (AV.v (TV.one (At.flt FloatKind.f64 t6)))), (7, (AV.v (TV.one (At.flt FloatKind.f64 (z3c t6 t7 t8))))), (8, (AV.v (TV.one (At.int IntKind.i64 (zab t6 t7 t8))))), (44, (AV.v (TV.one (At.bool (zag t6 t7 t8)))))] [])))
noncomputable def z0s : Nat → St → Option (Bool × LO) := lpT 0 (pSt [(pTm 4 (pV (pOne pBool))), (pTm 5 (pV (pOne (pFlt FloatKind.f64)))), (pTm 6 (pV (pOne (pFlt FloatKind.f64)))), (pTm 7 (pV (pOne (pFlt FloatKind.f64)))), (pTm 8 (pV (pOne (pInt IntKind.i64))))] []) (fun hs => zez (hvB (hGet hs 0)) (hvN (hGet hs 1)) (hvN (hGet hs 2)) (hvN (hGet hs 3)) (hvI (hGet hs 4)))
def z9s (t4 : Bool) (t5 : Nat) (t6 : Nat) : Option ((Nat × Int × Bool)) → Option (Ex × St)
  | none => none
  | some r => some ((Ex.exit 0), (St.mk [(4, (AV.v (TV.one (At.bool t4)))), (5, (AV.v (TV.one (At.flt FloatKind.f64 t5)))), (6, (AV.v (TV.one (At.flt FloatKind.f64 t6)))), (7, (AV.v (TV.one (At.flt FloatKind.f64 r.1)))), (8, (AV.v (TV.one (At.int IntKind.i64 r.2.1)))), (44, (AV.v (TV.one (At.bool r.2.2))))] []))
def zhm (t4 : Bool) (t5 : Nat) (t6 : Nat) (x : Option ((Nat × Int × Bool))) : LO := (LO.one (Ex.exit 0) (St.mk [(4, (AV.v (TV.one (At.bool t4)))), (5, (AV.v (TV.one (At.flt FloatKind.f64 t5)))), (6, (AV.v (TV.one (At.flt FloatKind.f64 t6)))), (7, (AV.v (TV.one (At.flt FloatKind.f64 (x.getD default).1)))), (8, (AV.v (TV.one (At.int IntKind.i64 (x.getD default).2.1)))), (44, (AV.v (TV.one (At.bool (x.getD default).2.2))))] []))
theorem zi0 (t4 : Bool) (t5 : Nat) (t6 : Nat) : ∀ x : Option ((Nat × Int × Bool)), x.isSome = true → (z9s t4 t5 t6) x = some (pick (zhm t4 t5 t6 x))
  | none, h => by cases h
  | some r, _ => rfl
theorem zhz (t4 : Bool) (t5 : Nat) (t6 : Nat) (t7 : Nat) (t8 : Int) (K : Ex → St → Option (Ex × St)) : evC (R := Ex × St) Γ2 (evFn Γ2 8 8) 110 0 fi110.nt fi110.live fi110.nl 8 (findL 17 (loopsIn fi110.code)) (St.mk [(4, (AV.v (TV.one (At.bool t4)))), (5, (AV.v (TV.one (At.flt FloatKind.f64 t5)))), (6, (AV.v (TV.one (At.flt FloatKind.f64 t6)))), (7, (AV.v (TV.one (At.flt FloatKind.f64 t7)))), (8, (AV.v (TV.one (At.int IntKind.i64 t8))))] []) K = z5r t6 t7 t8 (fun t7' t8' => K .normal (St.mk [(4, (AV.v (TV.one (At.bool t4)))), (5, (AV.v (TV.one (At.flt FloatKind.f64 t5)))), (6, (AV.v (TV.one (At.flt FloatKind.f64 t6)))), (7, (AV.v (TV.one (At.flt FloatKind.f64 t7')))), (8, (AV.v (TV.one (At.int IntKind.i64 t8'))))] [])) (fun c0_ c1_ c2_ => K (Ex.exit 0) (St.mk [(4, (AV.v (TV.one (At.bool t4)))), (5, (AV.v (TV.one (At.flt FloatKind.f64 t5)))), (6, (AV.v (TV.one (At.flt FloatKind.f64 t6)))), (7, (AV.v (TV.one (At.flt FloatKind.f64 c0_)))), (8, (AV.v (TV.one (At.int IntKind.i64 c1_)))), (44, (AV.v (TV.one (At.bool c2_))))] [])) := by kernel_rfl
theorem zi7 (t4 : Bool) (t5 : Nat) (t6 : Nat) : ∀ (n : Nat) (t7 : Nat) (t8 : Int), iter 110 17 0 (evC (R := Ex × St) Γ2 (evFn Γ2 8 8) 110 0 fi110.nt fi110.live fi110.nl 8 (findL 17 (loopsIn fi110.code))) n (St.mk [(4, (AV.v (TV.one (At.bool t4)))), (5, (AV.v (TV.one (At.flt FloatKind.f64 t5)))), (6, (AV.v (TV.one (At.flt FloatKind.f64 t6)))), (7, (AV.v (TV.one (At.flt FloatKind.f64 t7)))), (8, (AV.v (TV.one (At.int IntKind.i64 t8))))] []) (fun e st => some (e, st)) = (z9s t4 t5 t6) (z4n t6 n t7 t8) := by
  intro n
  induction n with
  | zero => intros; rfl
  | succ n ih =>
    intro t7 t8
    refine Eq.trans (iter_succ ..) (Eq.trans (zhz t4 t5 t6 t7 t8 (nextK 110 17 0 (evC (R := Ex × St) Γ2 (evFn Γ2 8 8) 110 0 fi110.nt fi110.live fi110.nl 8 (findL 17 (loopsIn fi110.code))) n (fun e st => some (e, st)))) (Eq.trans ?_ (zgc (z9s t4 t5 t6) rfl t6 t7 t8 (fun t7' t8' => z4n t6 n t7' t8') (fun c0_ c1_ c2_ => some (c0_, c1_, c2_)))))
    exact congrArg (fun kn_ => z5r t6 t7 t8 kn_ (fun c0_ c1_ c2_ => (z9s t4 t5 t6) (some (c0_, c1_, c2_)))) (funext fun t7' => funext fun t8' => ih t7' t8')
theorem z0l : LoopOne Try.prog fnTab 110 17 z0s := lp_of (Γ := Γ2) tyTab_ok (FnL.ok fnTab_ok _ _) (LpL.ok lt2_ok) (SumL.ok tb2_ok _) mixed (fi := fi110) (by kernel_rfl) (by kernel_rfl) (by
  intro lo st out hp
  obtain ⟨hs, e1, e2, e3⟩ := lpT_inv hp
  clear hp
  obtain rfl : st = (St.mk [(4, (AV.v (TV.one (At.bool (hvB (hGet hs 0)))))), (5, (AV.v (TV.one (At.flt FloatKind.f64 (hvN (hGet hs 1)))))), (6, (AV.v (TV.one (At.flt FloatKind.f64 (hvN (hGet hs 2)))))), (7, (AV.v (TV.one (At.flt FloatKind.f64 (hvN (hGet hs 3)))))), (8, (AV.v (TV.one (At.int IntKind.i64 (hvI (hGet hs 4))))))] []) := e2.trans (by kernel_rfl)
  clear e2
  subst e1
  unfold zez at e3
  injection e3 with h1 h2
  subst h2
  exact ⟨8, 8, big, Eq.trans (zi7 (hvB (hGet hs 0)) (hvN (hGet hs 1)) (hvN (hGet hs 2)) big (hvN (hGet hs 3)) (hvI (hGet hs 4))) (zi0 (hvB (hGet hs 0)) (hvN (hGet hs 1)) (hvN (hGet hs 2)) (z4n (hvN (hGet hs 2)) big (hvN (hGet hs 3)) (hvI (hGet hs 4))) h1)⟩)
noncomputable def tb3 : List (Nat × (List PT → Option (Bool × AV × List Blk))) := [(125, z1y), (128, z0k), (134, z11), (137, z1x), (18, z26), (44, z29), (48, z1o), (54, z2q), (61, z25), (63, z42), (66, z3o), (80, z1p), (82, z38), (84, z3n), (97, z2r), (109, z27), (121, z4i), (129, z4j), (14, z2h), (56, z3e), (83, z2j), (88, z0m), (89, z3s), (103, z2y), (105, z2i), (111, z3f), (114, z2x), (118, z1e), (122, z0u), (123, z3r), (37, z3j), (52, z22), (119, z23), (135, z4b)]
noncomputable def lt3 : List ((Nat × Nat) × (Nat → St → Option (Bool × LO))) := [((52, 3), z0x), ((57, 4), z12), ((86, 3), z13), ((110, 17), z0s)]
noncomputable def Γ3 : Ctx := ⟨tyTab, fnTab, tblSum tb3, tblLp lt3⟩
theorem tb3_ok : SumL Try.prog tb3 := SumL.cons z10 (SumL.cons z0i (SumL.cons z0r (SumL.cons z0z (SumL.cons z18 (SumL.cons z15 (SumL.cons z0y (SumL.cons z1n (SumL.cons z16 (SumL.cons z36 (SumL.cons z2o (SumL.cons z0w (SumL.cons z21 (SumL.cons z2m (SumL.cons z1m (SumL.cons z17 (SumL.cons z3x (SumL.cons z3w (SumL.cons z1h (SumL.cons z2e (SumL.cons z1f (SumL.cons z0j (SumL.cons z2t (SumL.cons z1v (SumL.cons z1g (SumL.cons z2c (SumL.cons z1u (SumL.cons z0v (SumL.cons z0n (SumL.cons z2s (SumL.cons z2l (SumL.cons z1b (SumL.cons z1a (SumL.cons z3i (SumL.nil))))))))))))))))))))))))))))))))))
theorem lt3_ok : LpL Try.prog fnTab lt3 := LpL.cons z0o (LpL.cons z0p (LpL.cons z0q (LpL.cons z0l (LpL.nil))))
noncomputable def z2v : List PT → Option (Bool × AV × List Blk)
  | [.agg [.row 1 q0u (.fl .f32 q19), .row 1 q10 (.fl .f32 q1c), .row 1 q13 (.fl .f32 q1g)]] => some ((ze8 q0u q19 q10 q1c q13 q1g), ((AV.v (TV.agg [(At.sl 0 0 (zcw q0u q19 q10 q1c q13 q1g) 1), (At.sl 1 0 (zcy q0u q19 q10 q1c q13 q1g) 1), (At.sl 2 0 (zd6 q0u q19 q10 q1c q13 q1g) 1)])), [(Blk.mk Bool.true (Body.fl FloatKind.f32 (zcp q0u q19 q10 q1c q13 q1g))), (Blk.mk Bool.true (Body.fl FloatKind.f32 (zd4 q0u q19 q10 q1c q13 q1g))), (Blk.mk Bool.true (Body.fl FloatKind.f32 (zcv q0u q19 q10 q1c q13 q1g)))]))
  | _ => none
def zh2 (q0u : Nat) (q19 : List Nat) (q10 : Nat) (q1c : List Nat) (q13 : Nat) (q1g : List Nat) : Option (Nat × Nat × Nat × (List Nat) × (List Nat) × (List Nat)) → Option (AV × List Blk)
  | some r => some ((AV.v (TV.agg [(At.sl 0 0 r.1 1), (At.sl 1 0 r.2.1 1), (At.sl 2 0 r.2.2.1 1)])), [(Blk.mk Bool.true (Body.fl FloatKind.f32 r.2.2.2.1)), (Blk.mk Bool.true (Body.fl FloatKind.f32 r.2.2.2.2.1)), (Blk.mk Bool.true (Body.fl FloatKind.f32 r.2.2.2.2.2))])
  | none => none
theorem zlu (q0u : Nat) (q19 : List Nat) (q10 : Nat) (q1c : List Nat) (q13 : Nat) (q1g : List Nat) : evFn Γ3 8 8 16 (impTs 0 [.agg [.row 1 q0u (.fl .f32 q19), .row 1 q10 (.fl .f32 q1c), .row 1 q13 (.fl .f32 q1g)]]).1 (impTs 0 [.agg [.row 1 q0u (.fl .f32 q19), .row 1 q10 (.fl .f32 q1c), .row 1 q13 (.fl .f32 q1g)]]).2 (expo (impTs 0 [.agg [.row 1 q0u (.fl .f32 q19), .row 1 q10 (.fl .f32 q1c), .row 1 q13 (.fl .f32 q1g)]]).2.length) = z9i q0u q19 q10 q1c q13 q1g (fun c0_ c1_ c2_ c3_ c4_ c5_ => some ((AV.v (TV.agg [(At.sl 0 0 c0_ 1), (At.sl 1 0 c1_ 1), (At.sl 2 0 c2_ 1)])), [(Blk.mk Bool.true (Body.fl FloatKind.f32 c3_)), (Blk.mk Bool.true (Body.fl FloatKind.f32 c4_)), (Blk.mk Bool.true (Body.fl FloatKind.f32 c5_))])) := by kernel_rfl
theorem z1w : SumOne Try.prog 16 z2v := sum_of (Γ := Γ3) (fuel := 8) (d := 8) tyTab_ok (FnL.ok fnTab_ok _ _) (LpL.ok lt3_ok) (SumL.ok tb3_ok _) mixed (by
  intro pts v news hp hc
  clear hc
  unfold z2v at hp
  split at hp
  · rename_i q0u q19 q10 q1c q13 q1g
    exact Eq.trans (Eq.trans (zlu q0u q19 q10 q1c q13 q1g) (zji (zh2 q0u q19 q10 q1c q13 q1g) rfl q0u q19 q10 q1c q13 q1g (fun c0_ c1_ c2_ c3_ c4_ c5_ => some (c0_, c1_, c2_, c3_, c4_, c5_)))) (fin_out (o := (zh2 q0u q19 q10 q1c q13 q1g)) (x := z6b q0u q19 q10 q1c q13 q1g) (d := default) (V := fun r => ((AV.v (TV.agg [(At.sl 0 0 r.1 1), (At.sl 1 0 r.2.1 1), (At.sl 2 0 r.2.2.1 1)])), [(Blk.mk Bool.true (Body.fl FloatKind.f32 r.2.2.2.1)), (Blk.mk Bool.true (Body.fl FloatKind.f32 r.2.2.2.2.1)), (Blk.mk Bool.true (Body.fl FloatKind.f32 r.2.2.2.2.2))])) (fun r => rfl) hp)
  · cases hp)
noncomputable def z2b : List PT → Option (Bool × AV × List Blk)
  | [.one (.row 1 a_n (.fl .f32 a)), .one (.row 1 b_n (.fl .f32 b))] => some ((z8l a_n a b_n b), ((AV.v (TV.one (At.bool (z84 a_n a b_n b)))), []))
  | _ => none
def zgf (a_n : Nat) (a : List Nat) (b_n : Nat) (b : List Nat) : Option (Bool) → Option (AV × List Blk)
  | some r => some ((AV.v (TV.one (At.bool r))), [])
  | none => none
theorem zle (a_n : Nat) (a : List Nat) (b_n : Nat) (b : List Nat) : evFn Γ3 8 8 57 (impTs 0 [.one (.row 1 a_n (.fl .f32 a)), .one (.row 1 b_n (.fl .f32 b))]).1 (impTs 0 [.one (.row 1 a_n (.fl .f32 a)), .one (.row 1 b_n (.fl .f32 b))]).2 (expo (impTs 0 [.one (.row 1 a_n (.fl .f32 a)), .one (.row 1 b_n (.fl .f32 b))]).2.length) = z8g a_n a b_n b (fun c0_ => some ((AV.v (TV.one (At.bool c0_))), [])) := by kernel_rfl
theorem z1j : SumOne Try.prog 57 z2b := sum_of (Γ := Γ3) (fuel := 8) (d := 8) tyTab_ok (FnL.ok fnTab_ok _ _) (LpL.ok lt3_ok) (SumL.ok tb3_ok _) mixed (by
  intro pts v news hp hc
  clear hc
  unfold z2b at hp
  split at hp
  · rename_i a_n a b_n b
    exact Eq.trans (Eq.trans (zle a_n a b_n b) (zis (zgf a_n a b_n b) rfl a_n a b_n b (fun c0_ => some c0_))) (fin_out (o := (zgf a_n a b_n b)) (x := z8v a_n a b_n b) (d := default) (V := fun r => ((AV.v (TV.one (At.bool r))), [])) (fun r => rfl) hp)
  · cases hp)
noncomputable def z2d : List PT → Option (Bool × AV × List Blk)
  | [.one (.row 3 a_n (.fl .f32 a))] => some ((zcr a_n a), ((AV.v (TV.one (At.sl 0 0 (zc9 a_n a) 3))), [(Blk.mk Bool.true (Body.fl FloatKind.f32 (zbr a_n a)))]))
  | _ => none
def zgr (a_n : Nat) (a : List Nat) : Option (Nat × (List Nat)) → Option (AV × List Blk)
  | some r => some ((AV.v (TV.one (At.sl 0 0 r.1 3))), [(Blk.mk Bool.true (Body.fl FloatKind.f32 r.2))])
  | none => none
theorem zlp (a_n : Nat) (a : List Nat) : evFn Γ3 8 8 86 (impTs 0 [.one (.row 3 a_n (.fl .f32 a))]).1 (impTs 0 [.one (.row 3 a_n (.fl .f32 a))]).2 (expo (impTs 0 [.one (.row 3 a_n (.fl .f32 a))]).2.length) = z8u a_n a (fun c0_ c1_ => some ((AV.v (TV.one (At.sl 0 0 c0_ 3))), [(Blk.mk Bool.true (Body.fl FloatKind.f32 c1_))])) := by kernel_rfl
theorem z1i : SumOne Try.prog 86 z2d := sum_of (Γ := Γ3) (fuel := 8) (d := 8) tyTab_ok (FnL.ok fnTab_ok _ _) (LpL.ok lt3_ok) (SumL.ok tb3_ok _) mixed (by
  intro pts v news hp hc
  clear hc
  unfold z2d at hp
  split at hp
  · rename_i a_n a
    exact Eq.trans (Eq.trans (zlp a_n a) (ziw (zgr a_n a) rfl a_n a (fun c0_ c1_ => some (c0_, c1_)))) (fin_out (o := (zgr a_n a)) (x := z7h a_n a) (d := default) (V := fun r => ((AV.v (TV.one (At.sl 0 0 r.1 3))), [(Blk.mk Bool.true (Body.fl FloatKind.f32 r.2))])) (fun r => rfl) hp)
  · cases hp)
noncomputable def z1t : List PT → Option (Bool × AV × List Blk)
  | [.one (.s (.flt .f64 q0t))] => some ((zcc q0t), ((AV.v (TV.one (At.flt FloatKind.f64 (z97 q0t)))), []))
  | _ => none
def zga (q0t : Nat) : Option (Nat) → Option (AV × List Blk)
  | some r => some ((AV.v (TV.one (At.flt FloatKind.f64 r))), [])
  | none => none
theorem zkg (q0t : Nat) : evFn Γ3 8 8 110 (impTs 0 [.one (.s (.flt .f64 q0t))]).1 (impTs 0 [.one (.s (.flt .f64 q0t))]).2 (expo (impTs 0 [.one (.s (.flt .f64 q0t))]).2.length) = z6t q0t (fun c0_ => some ((AV.v (TV.one (At.flt FloatKind.f64 c0_))), [])) := by kernel_rfl
theorem z14 : SumOne Try.prog 110 z1t := sum_of (Γ := Γ3) (fuel := 8) (d := 8) tyTab_ok (FnL.ok fnTab_ok _ _) (LpL.ok lt3_ok) (SumL.ok tb3_ok _) mixed (by
  intro pts v news hp hc
  clear hc
  unfold z1t at hp
  split at hp
  · rename_i q0t
    exact Eq.trans (Eq.trans (zkg q0t) (zi6 (zga q0t) rfl q0t (fun c0_ => some c0_))) (fin_out (o := (zga q0t)) (x := z6j q0t) (d := default) (V := fun r => ((AV.v (TV.one (At.flt FloatKind.f64 r))), [])) (fun r => rfl) hp)
  · cases hp)
noncomputable def z2a : List PT → Option (Bool × AV × List Blk)
  | [.one (.s (.flt .f64 q1w))] => some ((zd9 q1w), ((AV.v (TV.one (At.flt FloatKind.f64 (z3q q1w)))), []))
  | _ => none
def zgm (q1w : Nat) : Option (Nat) → Option (AV × List Blk)
  | some r => some ((AV.v (TV.one (At.flt FloatKind.f64 r))), [])
  | none => none
theorem zlk (q1w : Nat) : evFn Γ3 8 8 130 (impTs 0 [.one (.s (.flt .f64 q1w))]).1 (impTs 0 [.one (.s (.flt .f64 q1w))]).2 (expo (impTs 0 [.one (.s (.flt .f64 q1w))]).2.length) = z8p q1w (fun c0_ => some ((AV.v (TV.one (At.flt FloatKind.f64 c0_))), [])) := by kernel_rfl
theorem z1k : SumOne Try.prog 130 z2a := sum_of (Γ := Γ3) (fuel := 8) (d := 8) tyTab_ok (FnL.ok fnTab_ok _ _) (LpL.ok lt3_ok) (SumL.ok tb3_ok _) mixed (by
  intro pts v news hp hc
  clear hc
  unfold z2a at hp
  split at hp
  · rename_i q1w
    exact Eq.trans (Eq.trans (zlk q1w) (ziz (zgm q1w) rfl q1w (fun c0_ => some c0_))) (fin_out (o := (zgm q1w)) (x := z8m q1w) (d := default) (V := fun r => ((AV.v (TV.one (At.flt FloatKind.f64 r))), [])) (fun r => rfl) hp)
  · cases hp)
noncomputable def zgk (t3 : Int) (t4 : Int) (b0 : List Nat) (b1 : List Nat) (b2 : List Nat) (q1j : Nat) (q20 : Nat) (q21 : Nat) : Bool × LO := ((z7m t3 b0 b1 b2 q1j q20 q21 t4), (LO.two (z75 t3 b0 b1 b2 q1j q20 q21 t4) (LO.one Ex.ret (St.mk [(2, (AV.v (TV.one (At.bool Bool.false))))] [(Blk.mk Bool.false (Body.fl FloatKind.f32 b0)), (Blk.mk Bool.false (Body.fl FloatKind.f32 b1)), (Blk.mk Bool.false (Body.fl FloatKind.f32 b2)), (Blk.mk Bool.false (Body.cells [(At.vw 0 0 q1j 1), (At.vw 1 0 q20 1), (At.vw 2 0 q21 1)]))])) (LO.one (Ex.exit 0) (St.mk [(0, (AV.v (TV.one (At.ptr 3 0 3)))), (3, (AV.v (TV.one (At.int IntKind.i64 t3)))), (4, (AV.v (TV.one (At.int IntKind.i64 (zf3 t3 b0 b1 b2 q1j q20 q21 t4))))), (36, (AV.v (TV.one (At.bool (zev t3 b0 b1 b2 q1j q20 q21 t4)))))] [(Blk.mk Bool.false (Body.fl FloatKind.f32 b0)), (Blk.mk Bool.false (Body.fl FloatKind.f32 b1)), (Blk.mk Bool.false (Body.fl FloatKind.f32 b2)), (Blk.mk Bool.false (Body.cells [(At.vw 0 0 q1j 1), (At.vw 1 0 q20 1), (At.vw 2 0 q21 1)]))]))))
noncomputable def z3h : Nat → St → Option (Bool × LO) := lpT 4 (pSt [(pTm 0 (pV (pOne (pPtr 3 (liN 0) 3)))), (pTm 3 (pV (pOne (pInt IntKind.i64)))), (pTm 4 (pV (pOne (pInt IntKind.i64))))] [(pBlk Bool.false (pFl FloatKind.f32)), (pBlk Bool.false (pFl FloatKind.f32)), (pBlk Bool.false (pFl FloatKind.f32)), (pBlk Bool.false (pCells [(pVw 0 (liN 0) 1), (pVw 1 (liN 0) 1), (pVw 2 (liN 0) 1)]))]) (fun hs => zgk (hvI (hGet hs 0)) (hvI (hGet hs 1)) (hvLn (hGet hs 2)) (hvLn (hGet hs 3)) (hvLn (hGet hs 4)) (hvN (hGet hs 5)) (hvN (hGet hs 6)) (hvN (hGet hs 7)))
def zbv (t3 : Int) (b0 : List Nat) (b1 : List Nat) (b2 : List Nat) (q1j : Nat) (q20 : Nat) (q21 : Nat) : Option ((Unit) ⊕ (Int × Bool)) → Option (Ex × St)
  | none => none
  | some (Sum.inl r) => some (Ex.ret, (St.mk [(2, (AV.v (TV.one (At.bool Bool.false))))] [(Blk.mk Bool.false (Body.fl FloatKind.f32 b0)), (Blk.mk Bool.false (Body.fl FloatKind.f32 b1)), (Blk.mk Bool.false (Body.fl FloatKind.f32 b2)), (Blk.mk Bool.false (Body.cells [(At.vw 0 0 q1j 1), (At.vw 1 0 q20 1), (At.vw 2 0 q21 1)]))]))
  | some (Sum.inr r) => some ((Ex.exit 0), (St.mk [(0, (AV.v (TV.one (At.ptr 3 0 3)))), (3, (AV.v (TV.one (At.int IntKind.i64 t3)))), (4, (AV.v (TV.one (At.int IntKind.i64 r.1)))), (36, (AV.v (TV.one (At.bool r.2))))] [(Blk.mk Bool.false (Body.fl FloatKind.f32 b0)), (Blk.mk Bool.false (Body.fl FloatKind.f32 b1)), (Blk.mk Bool.false (Body.fl FloatKind.f32 b2)), (Blk.mk Bool.false (Body.cells [(At.vw 0 0 q1j 1), (At.vw 1 0 q20 1), (At.vw 2 0 q21 1)]))]))
def zm6 (t3 : Int) (b0 : List Nat) (b1 : List Nat) (b2 : List Nat) (q1j : Nat) (q20 : Nat) (q21 : Nat) (x : Option ((Unit) ⊕ (Int × Bool))) : LO := (LO.two (oL x) (LO.one Ex.ret (St.mk [(2, (AV.v (TV.one (At.bool Bool.false))))] [(Blk.mk Bool.false (Body.fl FloatKind.f32 b0)), (Blk.mk Bool.false (Body.fl FloatKind.f32 b1)), (Blk.mk Bool.false (Body.fl FloatKind.f32 b2)), (Blk.mk Bool.false (Body.cells [(At.vw 0 0 q1j 1), (At.vw 1 0 q20 1), (At.vw 2 0 q21 1)]))])) (LO.one (Ex.exit 0) (St.mk [(0, (AV.v (TV.one (At.ptr 3 0 3)))), (3, (AV.v (TV.one (At.int IntKind.i64 t3)))), (4, (AV.v (TV.one (At.int IntKind.i64 ((tR x).getD default).1)))), (36, (AV.v (TV.one (At.bool ((tR x).getD default).2))))] [(Blk.mk Bool.false (Body.fl FloatKind.f32 b0)), (Blk.mk Bool.false (Body.fl FloatKind.f32 b1)), (Blk.mk Bool.false (Body.fl FloatKind.f32 b2)), (Blk.mk Bool.false (Body.cells [(At.vw 0 0 q1j 1), (At.vw 1 0 q20 1), (At.vw 2 0 q21 1)]))])))
theorem zmn (t3 : Int) (b0 : List Nat) (b1 : List Nat) (b2 : List Nat) (q1j : Nat) (q20 : Nat) (q21 : Nat) : ∀ x : Option ((Unit) ⊕ (Int × Bool)), x.isSome = true → (zbv t3 b0 b1 b2 q1j q20 q21) x = some (pick (zm6 t3 b0 b1 b2 q1j q20 q21 x))
  | none, h => by cases h
  | some (Sum.inl r), _ => rfl
  | some (Sum.inr r), _ => rfl
theorem zmt (t3 : Int) (t4 : Int) (b0 : List Nat) (b1 : List Nat) (b2 : List Nat) (q1j : Nat) (q20 : Nat) (q21 : Nat) (K : Ex → St → Option (Ex × St)) : evC (R := Ex × St) Γ3 (evFn Γ3 8 8) 62 4 fi62.nt fi62.live fi62.nl 8 (findL 5 (loopsIn fi62.code)) (St.mk [(0, (AV.v (TV.one (At.ptr 3 0 3)))), (3, (AV.v (TV.one (At.int IntKind.i64 t3)))), (4, (AV.v (TV.one (At.int IntKind.i64 t4))))] [(Blk.mk Bool.false (Body.fl FloatKind.f32 b0)), (Blk.mk Bool.false (Body.fl FloatKind.f32 b1)), (Blk.mk Bool.false (Body.fl FloatKind.f32 b2)), (Blk.mk Bool.false (Body.cells [(At.vw 0 0 q1j 1), (At.vw 1 0 q20 1), (At.vw 2 0 q21 1)]))]) K = z6z t3 b0 b1 b2 q1j q20 q21 t4 (fun t4' => K .normal (St.mk [(0, (AV.v (TV.one (At.ptr 3 0 3)))), (3, (AV.v (TV.one (At.int IntKind.i64 t3)))), (4, (AV.v (TV.one (At.int IntKind.i64 t4'))))] [(Blk.mk Bool.false (Body.fl FloatKind.f32 b0)), (Blk.mk Bool.false (Body.fl FloatKind.f32 b1)), (Blk.mk Bool.false (Body.fl FloatKind.f32 b2)), (Blk.mk Bool.false (Body.cells [(At.vw 0 0 q1j 1), (At.vw 1 0 q20 1), (At.vw 2 0 q21 1)]))])) (fun _ => K Ex.ret (St.mk [(2, (AV.v (TV.one (At.bool Bool.false))))] [(Blk.mk Bool.false (Body.fl FloatKind.f32 b0)), (Blk.mk Bool.false (Body.fl FloatKind.f32 b1)), (Blk.mk Bool.false (Body.fl FloatKind.f32 b2)), (Blk.mk Bool.false (Body.cells [(At.vw 0 0 q1j 1), (At.vw 1 0 q20 1), (At.vw 2 0 q21 1)]))])) (fun c0_ c1_ => K (Ex.exit 0) (St.mk [(0, (AV.v (TV.one (At.ptr 3 0 3)))), (3, (AV.v (TV.one (At.int IntKind.i64 t3)))), (4, (AV.v (TV.one (At.int IntKind.i64 c0_)))), (36, (AV.v (TV.one (At.bool c1_))))] [(Blk.mk Bool.false (Body.fl FloatKind.f32 b0)), (Blk.mk Bool.false (Body.fl FloatKind.f32 b1)), (Blk.mk Bool.false (Body.fl FloatKind.f32 b2)), (Blk.mk Bool.false (Body.cells [(At.vw 0 0 q1j 1), (At.vw 1 0 q20 1), (At.vw 2 0 q21 1)]))])) := by kernel_rfl
theorem zmj (t3 : Int) (b0 : List Nat) (b1 : List Nat) (b2 : List Nat) (q1j : Nat) (q20 : Nat) (q21 : Nat) : ∀ (n : Nat) (t4 : Int), iter 62 5 4 (evC (R := Ex × St) Γ3 (evFn Γ3 8 8) 62 4 fi62.nt fi62.live fi62.nl 8 (findL 5 (loopsIn fi62.code))) n (St.mk [(0, (AV.v (TV.one (At.ptr 3 0 3)))), (3, (AV.v (TV.one (At.int IntKind.i64 t3)))), (4, (AV.v (TV.one (At.int IntKind.i64 t4))))] [(Blk.mk Bool.false (Body.fl FloatKind.f32 b0)), (Blk.mk Bool.false (Body.fl FloatKind.f32 b1)), (Blk.mk Bool.false (Body.fl FloatKind.f32 b2)), (Blk.mk Bool.false (Body.cells [(At.vw 0 0 q1j 1), (At.vw 1 0 q20 1), (At.vw 2 0 q21 1)]))]) (fun e st => some (e, st)) = (zbv t3 b0 b1 b2 q1j q20 q21) (z5v t3 b0 b1 b2 q1j q20 q21 n t4) := by
  intro n
  induction n with
  | zero => intros; rfl
  | succ n ih =>
    intro t4
    refine Eq.trans (iter_succ ..) (Eq.trans (zmt t3 t4 b0 b1 b2 q1j q20 q21 (nextK 62 5 4 (evC (R := Ex × St) Γ3 (evFn Γ3 8 8) 62 4 fi62.nt fi62.live fi62.nl 8 (findL 5 (loopsIn fi62.code))) n (fun e st => some (e, st)))) (Eq.trans ?_ (zk3 (zbv t3 b0 b1 b2 q1j q20 q21) rfl t3 b0 b1 b2 q1j q20 q21 t4 (fun t4' => z5v t3 b0 b1 b2 q1j q20 q21 n t4') (fun _ => some (Sum.inl ())) (fun c0_ c1_ => some (Sum.inr (c0_, c1_))))))
    exact congrArg (fun kn_ => z6z t3 b0 b1 b2 q1j q20 q21 t4 kn_ (fun _ => (zbv t3 b0 b1 b2 q1j q20 q21) (some (Sum.inl ()))) (fun c0_ c1_ => (zbv t3 b0 b1 b2 q1j q20 q21) (some (Sum.inr (c0_, c1_))))) (funext fun t4' => ih t4')
theorem z2g : LoopOne Try.prog fnTab 62 5 z3h := lp_of (Γ := Γ3) tyTab_ok (FnL.ok fnTab_ok _ _) (LpL.ok lt3_ok) (SumL.ok tb3_ok _) mixed (fi := fi62) (by kernel_rfl) (by kernel_rfl) (by
  intro lo st out hp
  obtain ⟨hs, e1, e2, e3⟩ := lpT_inv hp
  clear hp
  obtain rfl : st = (St.mk [(0, (AV.v (TV.one (At.ptr 3 0 3)))), (3, (AV.v (TV.one (At.int IntKind.i64 (hvI (hGet hs 0)))))), (4, (AV.v (TV.one (At.int IntKind.i64 (hvI (hGet hs 1))))))] [(Blk.mk Bool.false (Body.fl FloatKind.f32 (hvLn (hGet hs 2)))), (Blk.mk Bool.false (Body.fl FloatKind.f32 (hvLn (hGet hs 3)))), (Blk.mk Bool.false (Body.fl FloatKind.f32 (hvLn (hGet hs 4)))), (Blk.mk Bool.false (Body.cells [(At.vw 0 0 (hvN (hGet hs 5)) 1), (At.vw 1 0 (hvN (hGet hs 6)) 1), (At.vw 2 0 (hvN (hGet hs 7)) 1)]))]) := e2.trans (by kernel_rfl)
  clear e2
  subst e1
  unfold zgk at e3
  injection e3 with h1 h2
  subst h2
  exact ⟨8, 8, big, Eq.trans (zmj (hvI (hGet hs 0)) (hvLn (hGet hs 2)) (hvLn (hGet hs 3)) (hvLn (hGet hs 4)) (hvN (hGet hs 5)) (hvN (hGet hs 6)) (hvN (hGet hs 7)) big (hvI (hGet hs 1))) (zmn (hvI (hGet hs 0)) (hvLn (hGet hs 2)) (hvLn (hGet hs 3)) (hvLn (hGet hs 4)) (hvN (hGet hs 5)) (hvN (hGet hs 6)) (hvN (hGet hs 7)) (z5v (hvI (hGet hs 0)) (hvLn (hGet hs 2)) (hvLn (hGet hs 3)) (hvLn (hGet hs 4)) (hvN (hGet hs 5)) (hvN (hGet hs 6)) (hvN (hGet hs 7)) big (hvI (hGet hs 1))) h1)⟩)
noncomputable def zfp (an : Nat) (bn : Nat) (i : Int) (b0 : List Nat) (b1 : List Nat) : Bool × LO := ((z8e an bn b0 b1 i), (LO.two (z80 an bn b0 b1 i) (LO.one Ex.ret (St.mk [(4, (AV.v (TV.one (At.bool Bool.false))))] [(Blk.mk Bool.false (Body.fl FloatKind.f32 b0)), (Blk.mk Bool.false (Body.fl FloatKind.f32 b1))])) (LO.one (Ex.exit 0) (St.mk [(0, (AV.v (TV.one (At.vw 0 0 an 3)))), (1, (AV.v (TV.one (At.vw 1 0 bn 3)))), (5, (AV.v (TV.one (At.int IntKind.i64 (zb7 an bn b0 b1 i))))), (14, (AV.v (TV.one (At.bool (zb5 an bn b0 b1 i)))))] [(Blk.mk Bool.false (Body.fl FloatKind.f32 b0)), (Blk.mk Bool.false (Body.fl FloatKind.f32 b1))]))))
noncomputable def z19 : Nat → St → Option (Bool × LO) := lpT 2 (pSt [(pTm 0 (pV (pOne (pVw 0 (liN 0) 3)))), (pTm 1 (pV (pOne (pVw 1 (liN 0) 3)))), (pTm 5 (pV (pOne (pInt IntKind.i64))))] [(pBlk Bool.false (pFl FloatKind.f32)), (pBlk Bool.false (pFl FloatKind.f32))]) (fun hs => zfp (hvN (hGet hs 0)) (hvN (hGet hs 1)) (hvI (hGet hs 2)) (hvLn (hGet hs 3)) (hvLn (hGet hs 4)))
def z8c (an : Nat) (bn : Nat) (b0 : List Nat) (b1 : List Nat) : Option ((Unit) ⊕ (Int × Bool)) → Option (Ex × St)
  | none => none
  | some (Sum.inl r) => some (Ex.ret, (St.mk [(4, (AV.v (TV.one (At.bool Bool.false))))] [(Blk.mk Bool.false (Body.fl FloatKind.f32 b0)), (Blk.mk Bool.false (Body.fl FloatKind.f32 b1))]))
  | some (Sum.inr r) => some ((Ex.exit 0), (St.mk [(0, (AV.v (TV.one (At.vw 0 0 an 3)))), (1, (AV.v (TV.one (At.vw 1 0 bn 3)))), (5, (AV.v (TV.one (At.int IntKind.i64 r.1)))), (14, (AV.v (TV.one (At.bool r.2))))] [(Blk.mk Bool.false (Body.fl FloatKind.f32 b0)), (Blk.mk Bool.false (Body.fl FloatKind.f32 b1))]))
def zim (an : Nat) (bn : Nat) (b0 : List Nat) (b1 : List Nat) (x : Option ((Unit) ⊕ (Int × Bool))) : LO := (LO.two (oL x) (LO.one Ex.ret (St.mk [(4, (AV.v (TV.one (At.bool Bool.false))))] [(Blk.mk Bool.false (Body.fl FloatKind.f32 b0)), (Blk.mk Bool.false (Body.fl FloatKind.f32 b1))])) (LO.one (Ex.exit 0) (St.mk [(0, (AV.v (TV.one (At.vw 0 0 an 3)))), (1, (AV.v (TV.one (At.vw 1 0 bn 3)))), (5, (AV.v (TV.one (At.int IntKind.i64 ((tR x).getD default).1)))), (14, (AV.v (TV.one (At.bool ((tR x).getD default).2))))] [(Blk.mk Bool.false (Body.fl FloatKind.f32 b0)), (Blk.mk Bool.false (Body.fl FloatKind.f32 b1))])))
theorem zjh (an : Nat) (bn : Nat) (b0 : List Nat) (b1 : List Nat) : ∀ x : Option ((Unit) ⊕ (Int × Bool)), x.isSome = true → (z8c an bn b0 b1) x = some (pick (zim an bn b0 b1 x))
  | none, h => by cases h
  | some (Sum.inl r), _ => rfl
  | some (Sum.inr r), _ => rfl
theorem zj8 (an : Nat) (bn : Nat) (i : Int) (b0 : List Nat) (b1 : List Nat) (K : Ex → St → Option (Ex × St)) : evC (R := Ex × St) Γ3 (evFn Γ3 8 8) 69 2 fi69.nt fi69.live fi69.nl 8 (findL 4 (loopsIn fi69.code)) (St.mk [(0, (AV.v (TV.one (At.vw 0 0 an 3)))), (1, (AV.v (TV.one (At.vw 1 0 bn 3)))), (5, (AV.v (TV.one (At.int IntKind.i64 i))))] [(Blk.mk Bool.false (Body.fl FloatKind.f32 b0)), (Blk.mk Bool.false (Body.fl FloatKind.f32 b1))]) K = z64 an bn b0 b1 i (fun i' => K .normal (St.mk [(0, (AV.v (TV.one (At.vw 0 0 an 3)))), (1, (AV.v (TV.one (At.vw 1 0 bn 3)))), (5, (AV.v (TV.one (At.int IntKind.i64 i'))))] [(Blk.mk Bool.false (Body.fl FloatKind.f32 b0)), (Blk.mk Bool.false (Body.fl FloatKind.f32 b1))])) (fun _ => K Ex.ret (St.mk [(4, (AV.v (TV.one (At.bool Bool.false))))] [(Blk.mk Bool.false (Body.fl FloatKind.f32 b0)), (Blk.mk Bool.false (Body.fl FloatKind.f32 b1))])) (fun c0_ c1_ => K (Ex.exit 0) (St.mk [(0, (AV.v (TV.one (At.vw 0 0 an 3)))), (1, (AV.v (TV.one (At.vw 1 0 bn 3)))), (5, (AV.v (TV.one (At.int IntKind.i64 c0_)))), (14, (AV.v (TV.one (At.bool c1_))))] [(Blk.mk Bool.false (Body.fl FloatKind.f32 b0)), (Blk.mk Bool.false (Body.fl FloatKind.f32 b1))])) := by kernel_rfl
theorem zjc (an : Nat) (bn : Nat) (b0 : List Nat) (b1 : List Nat) : ∀ (n : Nat) (i : Int), iter 69 4 2 (evC (R := Ex × St) Γ3 (evFn Γ3 8 8) 69 2 fi69.nt fi69.live fi69.nl 8 (findL 4 (loopsIn fi69.code))) n (St.mk [(0, (AV.v (TV.one (At.vw 0 0 an 3)))), (1, (AV.v (TV.one (At.vw 1 0 bn 3)))), (5, (AV.v (TV.one (At.int IntKind.i64 i))))] [(Blk.mk Bool.false (Body.fl FloatKind.f32 b0)), (Blk.mk Bool.false (Body.fl FloatKind.f32 b1))]) (fun e st => some (e, st)) = (z8c an bn b0 b1) (z5d an bn b0 b1 n i) := by
  intro n
  induction n with
  | zero => intros; rfl
  | succ n ih =>
    intro i
    refine Eq.trans (iter_succ ..) (Eq.trans (zj8 an bn i b0 b1 (nextK 69 4 2 (evC (R := Ex × St) Γ3 (evFn Γ3 8 8) 69 2 fi69.nt fi69.live fi69.nl 8 (findL 4 (loopsIn fi69.code))) n (fun e st => some (e, st)))) (Eq.trans ?_ (zhe (z8c an bn b0 b1) rfl an bn b0 b1 i (fun i' => z5d an bn b0 b1 n i') (fun _ => some (Sum.inl ())) (fun c0_ c1_ => some (Sum.inr (c0_, c1_))))))
    exact congrArg (fun kn_ => z64 an bn b0 b1 i kn_ (fun _ => (z8c an bn b0 b1) (some (Sum.inl ()))) (fun c0_ c1_ => (z8c an bn b0 b1) (some (Sum.inr (c0_, c1_))))) (funext fun i' => ih i')
theorem z0t : LoopOne Try.prog fnTab 69 4 z19 := lp_of (Γ := Γ3) tyTab_ok (FnL.ok fnTab_ok _ _) (LpL.ok lt3_ok) (SumL.ok tb3_ok _) mixed (fi := fi69) (by kernel_rfl) (by kernel_rfl) (by
  intro lo st out hp
  obtain ⟨hs, e1, e2, e3⟩ := lpT_inv hp
  clear hp
  obtain rfl : st = (St.mk [(0, (AV.v (TV.one (At.vw 0 0 (hvN (hGet hs 0)) 3)))), (1, (AV.v (TV.one (At.vw 1 0 (hvN (hGet hs 1)) 3)))), (5, (AV.v (TV.one (At.int IntKind.i64 (hvI (hGet hs 2))))))] [(Blk.mk Bool.false (Body.fl FloatKind.f32 (hvLn (hGet hs 3)))), (Blk.mk Bool.false (Body.fl FloatKind.f32 (hvLn (hGet hs 4))))]) := e2.trans (by kernel_rfl)
  clear e2
  subst e1
  unfold zfp at e3
  injection e3 with h1 h2
  subst h2
  exact ⟨8, 8, big, Eq.trans (zjc (hvN (hGet hs 0)) (hvN (hGet hs 1)) (hvLn (hGet hs 3)) (hvLn (hGet hs 4)) big (hvI (hGet hs 2))) (zjh (hvN (hGet hs 0)) (hvN (hGet hs 1)) (hvLn (hGet hs 3)) (hvLn (hGet hs 4)) (z5d (hvN (hGet hs 0)) (hvN (hGet hs 1)) (hvLn (hGet hs 3)) (hvLn (hGet hs 4)) big (hvI (hGet hs 2))) h1)⟩)
noncomputable def z7p (sn : Nat) (t7 : Int) (t8 : Int) (b0 : List Nat) : Bool × LO := ((z4x sn t7 b0 t8), (LO.two (z4u sn t7 b0 t8) (LO.one Ex.ret (St.mk [(4, (AV.v (TV.one (At.int IntKind.i64 (z5m sn t7 b0 t8)))))] [(Blk.mk Bool.false (Body.fl FloatKind.f32 b0))])) (LO.one (Ex.exit 0) (St.mk [(0, (AV.v (TV.one (At.vw 0 0 sn 1)))), (1, (AV.v (TV.one (At.fn 118 [])))), (7, (AV.v (TV.one (At.int IntKind.i64 t7)))), (8, (AV.v (TV.one (At.int IntKind.i64 (z6i sn t7 b0 t8))))), (9, (AV.v (TV.one (At.bool (z6l sn t7 b0 t8)))))] [(Blk.mk Bool.false (Body.fl FloatKind.f32 b0))]))))
noncomputable def z03 : Nat → St → Option (Bool × LO) := lpT 1 (pSt [(pTm 0 (pV (pOne (pVw 0 (liN 0) 1)))), (pTm 1 (pV (pOne (pFn 118 [])))), (pTm 7 (pV (pOne (pInt IntKind.i64)))), (pTm 8 (pV (pOne (pInt IntKind.i64))))] [(pBlk Bool.false (pFl FloatKind.f32))]) (fun hs => z7p (hvN (hGet hs 0)) (hvI (hGet hs 1)) (hvI (hGet hs 2)) (hvLn (hGet hs 3)))
def z5j (sn : Nat) (t7 : Int) (b0 : List Nat) : Option ((Int) ⊕ (Int × Bool)) → Option (Ex × St)
  | none => none
  | some (Sum.inl r) => some (Ex.ret, (St.mk [(4, (AV.v (TV.one (At.int IntKind.i64 r))))] [(Blk.mk Bool.false (Body.fl FloatKind.f32 b0))]))
  | some (Sum.inr r) => some ((Ex.exit 0), (St.mk [(0, (AV.v (TV.one (At.vw 0 0 sn 1)))), (1, (AV.v (TV.one (At.fn 118 [])))), (7, (AV.v (TV.one (At.int IntKind.i64 t7)))), (8, (AV.v (TV.one (At.int IntKind.i64 r.1)))), (9, (AV.v (TV.one (At.bool r.2))))] [(Blk.mk Bool.false (Body.fl FloatKind.f32 b0))]))
def zcm (sn : Nat) (t7 : Int) (b0 : List Nat) (x : Option ((Int) ⊕ (Int × Bool))) : LO := (LO.two (oL x) (LO.one Ex.ret (St.mk [(4, (AV.v (TV.one (At.int IntKind.i64 ((tL x).getD default)))))] [(Blk.mk Bool.false (Body.fl FloatKind.f32 b0))])) (LO.one (Ex.exit 0) (St.mk [(0, (AV.v (TV.one (At.vw 0 0 sn 1)))), (1, (AV.v (TV.one (At.fn 118 [])))), (7, (AV.v (TV.one (At.int IntKind.i64 t7)))), (8, (AV.v (TV.one (At.int IntKind.i64 ((tR x).getD default).1)))), (9, (AV.v (TV.one (At.bool ((tR x).getD default).2))))] [(Blk.mk Bool.false (Body.fl FloatKind.f32 b0))])))
theorem zds (sn : Nat) (t7 : Int) (b0 : List Nat) : ∀ x : Option ((Int) ⊕ (Int × Bool)), x.isSome = true → (z5j sn t7 b0) x = some (pick (zcm sn t7 b0 x))
  | none, h => by cases h
  | some (Sum.inl r), _ => rfl
  | some (Sum.inr r), _ => rfl
theorem zdq (sn : Nat) (t7 : Int) (t8 : Int) (b0 : List Nat) (K : Ex → St → Option (Ex × St)) : evC (R := Ex × St) Γ3 (evFn Γ3 8 8) 99 1 fi99.nt fi99.live fi99.nl 8 (findL 2 (loopsIn fi99.code)) (St.mk [(0, (AV.v (TV.one (At.vw 0 0 sn 1)))), (1, (AV.v (TV.one (At.fn 118 [])))), (7, (AV.v (TV.one (At.int IntKind.i64 t7)))), (8, (AV.v (TV.one (At.int IntKind.i64 t8))))] [(Blk.mk Bool.false (Body.fl FloatKind.f32 b0))]) K = z4d sn t7 b0 t8 (fun t8' => K .normal (St.mk [(0, (AV.v (TV.one (At.vw 0 0 sn 1)))), (1, (AV.v (TV.one (At.fn 118 [])))), (7, (AV.v (TV.one (At.int IntKind.i64 t7)))), (8, (AV.v (TV.one (At.int IntKind.i64 t8'))))] [(Blk.mk Bool.false (Body.fl FloatKind.f32 b0))])) (fun c0_ => K Ex.ret (St.mk [(4, (AV.v (TV.one (At.int IntKind.i64 c0_))))] [(Blk.mk Bool.false (Body.fl FloatKind.f32 b0))])) (fun c0_ c1_ => K (Ex.exit 0) (St.mk [(0, (AV.v (TV.one (At.vw 0 0 sn 1)))), (1, (AV.v (TV.one (At.fn 118 [])))), (7, (AV.v (TV.one (At.int IntKind.i64 t7)))), (8, (AV.v (TV.one (At.int IntKind.i64 c0_)))), (9, (AV.v (TV.one (At.bool c1_))))] [(Blk.mk Bool.false (Body.fl FloatKind.f32 b0))])) := by kernel_rfl
theorem zdc (sn : Nat) (t7 : Int) (b0 : List Nat) : ∀ (n : Nat) (t8 : Int), iter 99 2 1 (evC (R := Ex × St) Γ3 (evFn Γ3 8 8) 99 1 fi99.nt fi99.live fi99.nl 8 (findL 2 (loopsIn fi99.code))) n (St.mk [(0, (AV.v (TV.one (At.vw 0 0 sn 1)))), (1, (AV.v (TV.one (At.fn 118 [])))), (7, (AV.v (TV.one (At.int IntKind.i64 t7)))), (8, (AV.v (TV.one (At.int IntKind.i64 t8))))] [(Blk.mk Bool.false (Body.fl FloatKind.f32 b0))]) (fun e st => some (e, st)) = (z5j sn t7 b0) (z1r sn t7 b0 n t8) := by
  intro n
  induction n with
  | zero => intros; rfl
  | succ n ih =>
    intro t8
    refine Eq.trans (iter_succ ..) (Eq.trans (zdq sn t7 t8 b0 (nextK 99 2 1 (evC (R := Ex × St) Γ3 (evFn Γ3 8 8) 99 1 fi99.nt fi99.live fi99.nl 8 (findL 2 (loopsIn fi99.code))) n (fun e st => some (e, st)))) (Eq.trans ?_ (zbh (z5j sn t7 b0) rfl sn t7 b0 t8 (fun t8' => z1r sn t7 b0 n t8') (fun c0_ => some (Sum.inl c0_)) (fun c0_ c1_ => some (Sum.inr (c0_, c1_))))))
    exact congrArg (fun kn_ => z4d sn t7 b0 t8 kn_ (fun c0_ => (z5j sn t7 b0) (some (Sum.inl c0_))) (fun c0_ c1_ => (z5j sn t7 b0) (some (Sum.inr (c0_, c1_))))) (funext fun t8' => ih t8')
theorem z02 : LoopOne Try.prog fnTab 99 2 z03 := lp_of (Γ := Γ3) tyTab_ok (FnL.ok fnTab_ok _ _) (LpL.ok lt3_ok) (SumL.ok tb3_ok _) mixed (fi := fi99) (by kernel_rfl) (by kernel_rfl) (by
  intro lo st out hp
  obtain ⟨hs, e1, e2, e3⟩ := lpT_inv hp
  clear hp
  obtain rfl : st = (St.mk [(0, (AV.v (TV.one (At.vw 0 0 (hvN (hGet hs 0)) 1)))), (1, (AV.v (TV.one (At.fn 118 [])))), (7, (AV.v (TV.one (At.int IntKind.i64 (hvI (hGet hs 1)))))), (8, (AV.v (TV.one (At.int IntKind.i64 (hvI (hGet hs 2))))))] [(Blk.mk Bool.false (Body.fl FloatKind.f32 (hvLn (hGet hs 3))))]) := e2.trans (by kernel_rfl)
  clear e2
  subst e1
  unfold z7p at e3
  injection e3 with h1 h2
  subst h2
  exact ⟨8, 8, big, Eq.trans (zdc (hvN (hGet hs 0)) (hvI (hGet hs 1)) (hvLn (hGet hs 3)) big (hvI (hGet hs 2))) (zds (hvN (hGet hs 0)) (hvI (hGet hs 1)) (hvLn (hGet hs 3)) (z1r (hvN (hGet hs 0)) (hvI (hGet hs 1)) (hvLn (hGet hs 3)) big (hvI (hGet hs 2))) h1)⟩)
noncomputable def z7c (sn : Nat) (t7 : Int) (t8 : Int) (b0 : List Nat) : Bool × LO := ((z4r sn t7 b0 t8), (LO.two (z4p sn t7 b0 t8) (LO.one Ex.ret (St.mk [(4, (AV.v (TV.one (At.int IntKind.i64 (z5l sn t7 b0 t8)))))] [(Blk.mk Bool.false (Body.fl FloatKind.f32 b0))])) (LO.one (Ex.exit 0) (St.mk [(0, (AV.v (TV.one (At.vw 0 0 sn 1)))), (1, (AV.v (TV.one (At.fn 122 [])))), (7, (AV.v (TV.one (At.int IntKind.i64 t7)))), (8, (AV.v (TV.one (At.int IntKind.i64 (z6f sn t7 b0 t8))))), (9, (AV.v (TV.one (At.bool (z6e sn t7 b0 t8)))))] [(Blk.mk Bool.false (Body.fl FloatKind.f32 b0))]))))
noncomputable def z01 : Nat → St → Option (Bool × LO) := lpT 1 (pSt [(pTm 0 (pV (pOne (pVw 0 (liN 0) 1)))), (pTm 1 (pV (pOne (pFn 122 [])))), (pTm 7 (pV (pOne (pInt IntKind.i64)))), (pTm 8 (pV (pOne (pInt IntKind.i64))))] [(pBlk Bool.false (pFl FloatKind.f32))]) (fun hs => z7c (hvN (hGet hs 0)) (hvI (hGet hs 1)) (hvI (hGet hs 2)) (hvLn (hGet hs 3)))
def z5b (sn : Nat) (t7 : Int) (b0 : List Nat) : Option ((Int) ⊕ (Int × Bool)) → Option (Ex × St)
  | none => none
  | some (Sum.inl r) => some (Ex.ret, (St.mk [(4, (AV.v (TV.one (At.int IntKind.i64 r))))] [(Blk.mk Bool.false (Body.fl FloatKind.f32 b0))]))
  | some (Sum.inr r) => some ((Ex.exit 0), (St.mk [(0, (AV.v (TV.one (At.vw 0 0 sn 1)))), (1, (AV.v (TV.one (At.fn 122 [])))), (7, (AV.v (TV.one (At.int IntKind.i64 t7)))), (8, (AV.v (TV.one (At.int IntKind.i64 r.1)))), (9, (AV.v (TV.one (At.bool r.2))))] [(Blk.mk Bool.false (Body.fl FloatKind.f32 b0))]))
def zbs (sn : Nat) (t7 : Int) (b0 : List Nat) (x : Option ((Int) ⊕ (Int × Bool))) : LO := (LO.two (oL x) (LO.one Ex.ret (St.mk [(4, (AV.v (TV.one (At.int IntKind.i64 ((tL x).getD default)))))] [(Blk.mk Bool.false (Body.fl FloatKind.f32 b0))])) (LO.one (Ex.exit 0) (St.mk [(0, (AV.v (TV.one (At.vw 0 0 sn 1)))), (1, (AV.v (TV.one (At.fn 122 [])))), (7, (AV.v (TV.one (At.int IntKind.i64 t7)))), (8, (AV.v (TV.one (At.int IntKind.i64 ((tR x).getD default).1)))), (9, (AV.v (TV.one (At.bool ((tR x).getD default).2))))] [(Blk.mk Bool.false (Body.fl FloatKind.f32 b0))])))
theorem zcf (sn : Nat) (t7 : Int) (b0 : List Nat) : ∀ x : Option ((Int) ⊕ (Int × Bool)), x.isSome = true → (z5b sn t7 b0) x = some (pick (zbs sn t7 b0 x))
  | none, h => by cases h
  | some (Sum.inl r), _ => rfl
  | some (Sum.inr r), _ => rfl
theorem zcg (sn : Nat) (t7 : Int) (t8 : Int) (b0 : List Nat) (K : Ex → St → Option (Ex × St)) : evC (R := Ex × St) Γ3 (evFn Γ3 8 8) 99 1 fi99.nt fi99.live fi99.nl 8 (findL 2 (loopsIn fi99.code)) (St.mk [(0, (AV.v (TV.one (At.vw 0 0 sn 1)))), (1, (AV.v (TV.one (At.fn 122 [])))), (7, (AV.v (TV.one (At.int IntKind.i64 t7)))), (8, (AV.v (TV.one (At.int IntKind.i64 t8))))] [(Blk.mk Bool.false (Body.fl FloatKind.f32 b0))]) K = z45 sn t7 b0 t8 (fun t8' => K .normal (St.mk [(0, (AV.v (TV.one (At.vw 0 0 sn 1)))), (1, (AV.v (TV.one (At.fn 122 [])))), (7, (AV.v (TV.one (At.int IntKind.i64 t7)))), (8, (AV.v (TV.one (At.int IntKind.i64 t8'))))] [(Blk.mk Bool.false (Body.fl FloatKind.f32 b0))])) (fun c0_ => K Ex.ret (St.mk [(4, (AV.v (TV.one (At.int IntKind.i64 c0_))))] [(Blk.mk Bool.false (Body.fl FloatKind.f32 b0))])) (fun c0_ c1_ => K (Ex.exit 0) (St.mk [(0, (AV.v (TV.one (At.vw 0 0 sn 1)))), (1, (AV.v (TV.one (At.fn 122 [])))), (7, (AV.v (TV.one (At.int IntKind.i64 t7)))), (8, (AV.v (TV.one (At.int IntKind.i64 c0_)))), (9, (AV.v (TV.one (At.bool c1_))))] [(Blk.mk Bool.false (Body.fl FloatKind.f32 b0))])) := by kernel_rfl
theorem zci (sn : Nat) (t7 : Int) (b0 : List Nat) : ∀ (n : Nat) (t8 : Int), iter 99 2 1 (evC (R := Ex × St) Γ3 (evFn Γ3 8 8) 99 1 fi99.nt fi99.live fi99.nl 8 (findL 2 (loopsIn fi99.code))) n (St.mk [(0, (AV.v (TV.one (At.vw 0 0 sn 1)))), (1, (AV.v (TV.one (At.fn 122 [])))), (7, (AV.v (TV.one (At.int IntKind.i64 t7)))), (8, (AV.v (TV.one (At.int IntKind.i64 t8))))] [(Blk.mk Bool.false (Body.fl FloatKind.f32 b0))]) (fun e st => some (e, st)) = (z5b sn t7 b0) (z1l sn t7 b0 n t8) := by
  intro n
  induction n with
  | zero => intros; rfl
  | succ n ih =>
    intro t8
    refine Eq.trans (iter_succ ..) (Eq.trans (zcg sn t7 t8 b0 (nextK 99 2 1 (evC (R := Ex × St) Γ3 (evFn Γ3 8 8) 99 1 fi99.nt fi99.live fi99.nl 8 (findL 2 (loopsIn fi99.code))) n (fun e st => some (e, st)))) (Eq.trans ?_ (zay (z5b sn t7 b0) rfl sn t7 b0 t8 (fun t8' => z1l sn t7 b0 n t8') (fun c0_ => some (Sum.inl c0_)) (fun c0_ c1_ => some (Sum.inr (c0_, c1_))))))
    exact congrArg (fun kn_ => z45 sn t7 b0 t8 kn_ (fun c0_ => (z5b sn t7 b0) (some (Sum.inl c0_))) (fun c0_ c1_ => (z5b sn t7 b0) (some (Sum.inr (c0_, c1_))))) (funext fun t8' => ih t8')
theorem z00 : LoopOne Try.prog fnTab 99 2 z01 := lp_of (Γ := Γ3) tyTab_ok (FnL.ok fnTab_ok _ _) (LpL.ok lt3_ok) (SumL.ok tb3_ok _) mixed (fi := fi99) (by kernel_rfl) (by kernel_rfl) (by
  intro lo st out hp
  obtain ⟨hs, e1, e2, e3⟩ := lpT_inv hp
  clear hp
  obtain rfl : st = (St.mk [(0, (AV.v (TV.one (At.vw 0 0 (hvN (hGet hs 0)) 1)))), (1, (AV.v (TV.one (At.fn 122 [])))), (7, (AV.v (TV.one (At.int IntKind.i64 (hvI (hGet hs 1)))))), (8, (AV.v (TV.one (At.int IntKind.i64 (hvI (hGet hs 2))))))] [(Blk.mk Bool.false (Body.fl FloatKind.f32 (hvLn (hGet hs 3))))]) := e2.trans (by kernel_rfl)
  clear e2
  subst e1
  unfold z7c at e3
  injection e3 with h1 h2
  subst h2
  exact ⟨8, 8, big, Eq.trans (zci (hvN (hGet hs 0)) (hvI (hGet hs 1)) (hvLn (hGet hs 3)) big (hvI (hGet hs 2))) (zcf (hvN (hGet hs 0)) (hvI (hGet hs 1)) (hvLn (hGet hs 3)) (z1l (hvN (hGet hs 0)) (hvI (hGet hs 1)) (hvLn (hGet hs 3)) big (hvI (hGet hs 2))) h1)⟩)
noncomputable def tb4 : List (Nat × (List PT → Option (Bool × AV × List Blk))) := [(125, z1y), (128, z0k), (134, z11), (137, z1x), (18, z26), (44, z29), (48, z1o), (54, z2q), (61, z25), (63, z42), (66, z3o), (80, z1p), (82, z38), (84, z3n), (97, z2r), (109, z27), (121, z4i), (129, z4j), (14, z2h), (56, z3e), (83, z2j), (88, z0m), (89, z3s), (103, z2y), (105, z2i), (111, z3f), (114, z2x), (118, z1e), (122, z0u), (123, z3r), (37, z3j), (52, z22), (119, z23), (135, z4b), (16, z2v), (57, z2b), (86, z2d), (110, z1t), (130, z2a)]
noncomputable def lt4 : List ((Nat × Nat) × (Nat → St → Option (Bool × LO))) := [((52, 3), z0x), ((57, 4), z12), ((86, 3), z13), ((110, 17), z0s), ((62, 5), z3h), ((69, 4), z19), ((99, 2), z03), ((99, 2), z01)]
noncomputable def Γ4 : Ctx := ⟨tyTab, fnTab, tblSum tb4, tblLp lt4⟩
theorem tb4_ok : SumL Try.prog tb4 := SumL.cons z10 (SumL.cons z0i (SumL.cons z0r (SumL.cons z0z (SumL.cons z18 (SumL.cons z15 (SumL.cons z0y (SumL.cons z1n (SumL.cons z16 (SumL.cons z36 (SumL.cons z2o (SumL.cons z0w (SumL.cons z21 (SumL.cons z2m (SumL.cons z1m (SumL.cons z17 (SumL.cons z3x (SumL.cons z3w (SumL.cons z1h (SumL.cons z2e (SumL.cons z1f (SumL.cons z0j (SumL.cons z2t (SumL.cons z1v (SumL.cons z1g (SumL.cons z2c (SumL.cons z1u (SumL.cons z0v (SumL.cons z0n (SumL.cons z2s (SumL.cons z2l (SumL.cons z1b (SumL.cons z1a (SumL.cons z3i (SumL.cons z1w (SumL.cons z1j (SumL.cons z1i (SumL.cons z14 (SumL.cons z1k (SumL.nil)))))))))))))))))))))))))))))))))))))))
theorem lt4_ok : LpL Try.prog fnTab lt4 := LpL.cons z0o (LpL.cons z0p (LpL.cons z0q (LpL.cons z0l (LpL.cons z2g (LpL.cons z0t (LpL.cons z02 (LpL.cons z00 (LpL.nil))))))))
noncomputable def z34 : List PT → Option (Bool × AV × List Blk)
  | [.agg [.row 1 q0u (.fl .f32 q19), .row 1 q10 (.fl .f32 q1c), .row 1 q13 (.fl .f32 q1g)], .agg [.row 1 q27 (.fl .f32 q2c), .row 1 q29 (.fl .f32 q2i), .row 1 q2a (.fl .f32 q2j)]] => some ((ze2 q0u q19 q10 q1c q13 q1g q27 q2c q29 q2i q2a q2j), ((AV.v (TV.one (At.bool (zcu q0u q19 q10 q1c q13 q1g q27 q2c q29 q2i q2a q2j)))), []))
  | _ => none
def zgw (q0u : Nat) (q19 : List Nat) (q10 : Nat) (q1c : List Nat) (q13 : Nat) (q1g : List Nat) (q27 : Nat) (q2c : List Nat) (q29 : Nat) (q2i : List Nat) (q2a : Nat) (q2j : List Nat) : Option (Bool) → Option (AV × List Blk)
  | some r => some ((AV.v (TV.one (At.bool r))), [])
  | none => none
theorem zm8 (q0u : Nat) (q19 : List Nat) (q10 : Nat) (q1c : List Nat) (q13 : Nat) (q1g : List Nat) (q27 : Nat) (q2c : List Nat) (q29 : Nat) (q2i : List Nat) (q2a : Nat) (q2j : List Nat) : evFn Γ4 8 8 19 (impTs 0 [.agg [.row 1 q0u (.fl .f32 q19), .row 1 q10 (.fl .f32 q1c), .row 1 q13 (.fl .f32 q1g)], .agg [.row 1 q27 (.fl .f32 q2c), .row 1 q29 (.fl .f32 q2i), .row 1 q2a (.fl .f32 q2j)]]).1 (impTs 0 [.agg [.row 1 q0u (.fl .f32 q19), .row 1 q10 (.fl .f32 q1c), .row 1 q13 (.fl .f32 q1g)], .agg [.row 1 q27 (.fl .f32 q2c), .row 1 q29 (.fl .f32 q2i), .row 1 q2a (.fl .f32 q2j)]]).2 (expo (impTs 0 [.agg [.row 1 q0u (.fl .f32 q19), .row 1 q10 (.fl .f32 q1c), .row 1 q13 (.fl .f32 q1g)], .agg [.row 1 q27 (.fl .f32 q2c), .row 1 q29 (.fl .f32 q2i), .row 1 q2a (.fl .f32 q2j)]]).2.length) = z9k q0u q19 q10 q1c q13 q1g q27 q2c q29 q2i q2a q2j (fun c0_ => some ((AV.v (TV.one (At.bool c0_))), [])) := by kernel_rfl
theorem z28 : SumOne Try.prog 19 z34 := sum_of (Γ := Γ4) (fuel := 8) (d := 8) tyTab_ok (FnL.ok fnTab_ok _ _) (LpL.ok lt4_ok) (SumL.ok tb4_ok _) mixed (by
  intro pts v news hp hc
  clear hc
  unfold z34 at hp
  split at hp
  · rename_i q0u q19 q10 q1c q13 q1g q27 q2c q29 q2i q2a q2j
    exact Eq.trans (Eq.trans (zm8 q0u q19 q10 q1c q13 q1g q27 q2c q29 q2i q2a q2j) (zjk (zgw q0u q19 q10 q1c q13 q1g q27 q2c q29 q2i q2a q2j) rfl q0u q19 q10 q1c q13 q1g q27 q2c q29 q2i q2a q2j (fun c0_ => some c0_))) (fin_out (o := (zgw q0u q19 q10 q1c q13 q1g q27 q2c q29 q2i q2a q2j)) (x := z9m q0u q19 q10 q1c q13 q1g q27 q2c q29 q2i q2a q2j) (d := default) (V := fun r => ((AV.v (TV.one (At.bool r))), [])) (fun r => rfl) hp)
  · cases hp)
noncomputable def z3v : List PT → Option (Bool × AV × List Blk)
  | [.agg [.row 1 q0e (.fl .f32 q0h), .row 1 q0g (.fl .f32 q0l), .row 1 q0f (.fl .f32 q0k), .row 3 q0n (.fl .f32 q0y), .s (.int .i64 q1b), .s (.flt .f32 q1l), .s (.flt .f32 q1k)]] => some ((z9b q0e q0h q0g q0l q0f q0k q0n q0y q1b q1l q1k), ((AV.v (TV.agg [(At.sl 0 0 (z48 q0e q0h q0g q0l q0f q0k q0n q0y q1b q1l q1k) 1), (At.sl 1 0 (z47 q0e q0h q0g q0l q0f q0k q0n q0y q1b q1l q1k) 1), (At.sl 2 0 (z4a q0e q0h q0g q0l q0f q0k q0n q0y q1b q1l q1k) 1), (At.sl 3 0 (z46 q0e q0h q0g q0l q0f q0k q0n q0y q1b q1l q1k) 3), (At.int IntKind.i64 q1b), (At.flt FloatKind.f32 q1l), (At.flt FloatKind.f32 q1k)])), [(Blk.mk Bool.true (Body.fl FloatKind.f32 (z5f q0e q0h q0g q0l q0f q0k q0n q0y q1b q1l q1k))), (Blk.mk Bool.true (Body.fl FloatKind.f32 (z5h q0e q0h q0g q0l q0f q0k q0n q0y q1b q1l q1k))), (Blk.mk Bool.true (Body.fl FloatKind.f32 (z5g q0e q0h q0g q0l q0f q0k q0n q0y q1b q1l q1k))), (Blk.mk Bool.true (Body.fl FloatKind.f32 (z5i q0e q0h q0g q0l q0f q0k q0n q0y q1b q1l q1k)))]))
  | _ => none
def zij (q0e : Nat) (q0h : List Nat) (q0g : Nat) (q0l : List Nat) (q0f : Nat) (q0k : List Nat) (q0n : Nat) (q0y : List Nat) (q1b : Int) (q1l : Nat) (q1k : Nat) : Option (Nat × Nat × Nat × Nat × (List Nat) × (List Nat) × (List Nat) × (List Nat)) → Option (AV × List Blk)
  | some r => some ((AV.v (TV.agg [(At.sl 0 0 r.1 1), (At.sl 1 0 r.2.1 1), (At.sl 2 0 r.2.2.1 1), (At.sl 3 0 r.2.2.2.1 3), (At.int IntKind.i64 q1b), (At.flt FloatKind.f32 q1l), (At.flt FloatKind.f32 q1k)])), [(Blk.mk Bool.true (Body.fl FloatKind.f32 r.2.2.2.2.1)), (Blk.mk Bool.true (Body.fl FloatKind.f32 r.2.2.2.2.2.1)), (Blk.mk Bool.true (Body.fl FloatKind.f32 r.2.2.2.2.2.2.1)), (Blk.mk Bool.true (Body.fl FloatKind.f32 r.2.2.2.2.2.2.2))])
  | none => none
theorem znc (q0e : Nat) (q0h : List Nat) (q0g : Nat) (q0l : List Nat) (q0f : Nat) (q0k : List Nat) (q0n : Nat) (q0y : List Nat) (q1b : Int) (q1l : Nat) (q1k : Nat) : evFn Γ4 8 8 39 (impTs 0 [.agg [.row 1 q0e (.fl .f32 q0h), .row 1 q0g (.fl .f32 q0l), .row 1 q0f (.fl .f32 q0k), .row 3 q0n (.fl .f32 q0y), .s (.int .i64 q1b), .s (.flt .f32 q1l), .s (.flt .f32 q1k)]]).1 (impTs 0 [.agg [.row 1 q0e (.fl .f32 q0h), .row 1 q0g (.fl .f32 q0l), .row 1 q0f (.fl .f32 q0k), .row 3 q0n (.fl .f32 q0y), .s (.int .i64 q1b), .s (.flt .f32 q1l), .s (.flt .f32 q1k)]]).2 (expo (impTs 0 [.agg [.row 1 q0e (.fl .f32 q0h), .row 1 q0g (.fl .f32 q0l), .row 1 q0f (.fl .f32 q0k), .row 3 q0n (.fl .f32 q0y), .s (.int .i64 q1b), .s (.flt .f32 q1l), .s (.flt .f32 q1k)]]).2.length) = zar q0e q0h q0g q0l q0f q0k q0n q0y q1b q1l q1k (fun c0_ c1_ c2_ c3_ c4_ c5_ c6_ c7_ => some ((AV.v (TV.agg [(At.sl 0 0 c0_ 1), (At.sl 1 0 c1_ 1), (At.sl 2 0 c2_ 1), (At.sl 3 0 c3_ 3), (At.int IntKind.i64 q1b), (At.flt FloatKind.f32 q1l), (At.flt FloatKind.f32 q1k)])), [(Blk.mk Bool.true (Body.fl FloatKind.f32 c4_)), (Blk.mk Bool.true (Body.fl FloatKind.f32 c5_)), (Blk.mk Bool.true (Body.fl FloatKind.f32 c6_)), (Blk.mk Bool.true (Body.fl FloatKind.f32 c7_))])) := by kernel_rfl
theorem z33 : SumOne Try.prog 39 z3v := sum_of (Γ := Γ4) (fuel := 8) (d := 8) tyTab_ok (FnL.ok fnTab_ok _ _) (LpL.ok lt4_ok) (SumL.ok tb4_ok _) mixed (by
  intro pts v news hp hc
  clear hc
  unfold z3v at hp
  split at hp
  · rename_i q0e q0h q0g q0l q0f q0k q0n q0y q1b q1l q1k
    exact Eq.trans (Eq.trans (znc q0e q0h q0g q0l q0f q0k q0n q0y q1b q1l q1k) (zki (zij q0e q0h q0g q0l q0f q0k q0n q0y q1b q1l q1k) rfl q0e q0h q0g q0l q0f q0k q0n q0y q1b q1l q1k (fun c0_ c1_ c2_ c3_ c4_ c5_ c6_ c7_ => some (c0_, c1_, c2_, c3_, c4_, c5_, c6_, c7_)))) (fin_out (o := (zij q0e q0h q0g q0l q0f q0k q0n q0y q1b q1l q1k)) (x := z68 q0e q0h q0g q0l q0f q0k q0n q0y q1b q1l q1k) (d := default) (V := fun r => ((AV.v (TV.agg [(At.sl 0 0 r.1 1), (At.sl 1 0 r.2.1 1), (At.sl 2 0 r.2.2.1 1), (At.sl 3 0 r.2.2.2.1 3), (At.int IntKind.i64 q1b), (At.flt FloatKind.f32 q1l), (At.flt FloatKind.f32 q1k)])), [(Blk.mk Bool.true (Body.fl FloatKind.f32 r.2.2.2.2.1)), (Blk.mk Bool.true (Body.fl FloatKind.f32 r.2.2.2.2.2.1)), (Blk.mk Bool.true (Body.fl FloatKind.f32 r.2.2.2.2.2.2.1)), (Blk.mk Bool.true (Body.fl FloatKind.f32 r.2.2.2.2.2.2.2))])) (fun r => rfl) hp)
  · cases hp)
noncomputable def z4g : List PT → Option (Bool × AV × List Blk)
  | [.ptr [.row 1 q0z (.fl .f32 q1a), .row 1 q16 (.fl .f32 q1f), .row 1 q17 (.fl .f32 q1e)]] => some ((zg3 q0z q1a q16 q1f q17 q1e), ((AV.v (TV.one (At.bool (zfq q0z q1a q16 q1f q17 q1e)))), []))
  | _ => none
def zkp (q0z : Nat) (q1a : List Nat) (q16 : Nat) (q1f : List Nat) (q17 : Nat) (q1e : List Nat) : Option (Bool) → Option (AV × List Blk)
  | some r => some ((AV.v (TV.one (At.bool r))), [])
  | none => none
theorem znn (q0z : Nat) (q1a : List Nat) (q16 : Nat) (q1f : List Nat) (q17 : Nat) (q1e : List Nat) : evFn Γ4 8 8 62 (impTs 0 [.ptr [.row 1 q0z (.fl .f32 q1a), .row 1 q16 (.fl .f32 q1f), .row 1 q17 (.fl .f32 q1e)]]).1 (impTs 0 [.ptr [.row 1 q0z (.fl .f32 q1a), .row 1 q16 (.fl .f32 q1f), .row 1 q17 (.fl .f32 q1e)]]).2 (expo (impTs 0 [.ptr [.row 1 q0z (.fl .f32 q1a), .row 1 q16 (.fl .f32 q1f), .row 1 q17 (.fl .f32 q1e)]]).2.length) = zdp q0z q1a q16 q1f q17 q1e (fun c0_ => some ((AV.v (TV.one (At.bool c0_))), [])) := by kernel_rfl
theorem z3t : SumOne Try.prog 62 z4g := sum_of (Γ := Γ4) (fuel := 8) (d := 8) tyTab_ok (FnL.ok fnTab_ok _ _) (LpL.ok lt4_ok) (SumL.ok tb4_ok _) mixed (by
  intro pts v news hp hc
  clear hc
  unfold z4g at hp
  split at hp
  · rename_i q0z q1a q16 q1f q17 q1e
    exact Eq.trans (Eq.trans (znn q0z q1a q16 q1f q17 q1e) (zm9 (zkp q0z q1a q16 q1f q17 q1e) rfl q0z q1a q16 q1f q17 q1e (fun c0_ => some c0_))) (fin_out (o := (zkp q0z q1a q16 q1f q17 q1e)) (x := zdl q0z q1a q16 q1f q17 q1e) (d := default) (V := fun r => ((AV.v (TV.one (At.bool r))), [])) (fun r => rfl) hp)
  · cases hp)
noncomputable def z2k : List PT → Option (Bool × AV × List Blk)
  | [.one (.row 3 a_n (.fl .f32 a)), .one (.row 3 b_n (.fl .f32 b))] => some ((zcx a_n a b_n b), ((AV.v (TV.one (At.bool (zc3 a_n a b_n b)))), []))
  | _ => none
def zgn (a_n : Nat) (a : List Nat) (b_n : Nat) (b : List Nat) : Option (Bool) → Option (AV × List Blk)
  | some r => some ((AV.v (TV.one (At.bool r))), [])
  | none => none
theorem zl0 (a_n : Nat) (a : List Nat) (b_n : Nat) (b : List Nat) : evFn Γ4 8 8 69 (impTs 0 [.one (.row 3 a_n (.fl .f32 a)), .one (.row 3 b_n (.fl .f32 b))]).1 (impTs 0 [.one (.row 3 a_n (.fl .f32 a)), .one (.row 3 b_n (.fl .f32 b))]).2 (expo (impTs 0 [.one (.row 3 a_n (.fl .f32 a)), .one (.row 3 b_n (.fl .f32 b))]).2.length) = z8i a_n a b_n b (fun c0_ => some ((AV.v (TV.one (At.bool c0_))), [])) := by kernel_rfl
theorem z1q : SumOne Try.prog 69 z2k := sum_of (Γ := Γ4) (fuel := 8) (d := 8) tyTab_ok (FnL.ok fnTab_ok _ _) (LpL.ok lt4_ok) (SumL.ok tb4_ok _) mixed (by
  intro pts v news hp hc
  clear hc
  unfold z2k at hp
  split at hp
  · rename_i a_n a b_n b
    exact Eq.trans (Eq.trans (zl0 a_n a b_n b) (zie (zgn a_n a b_n b) rfl a_n a b_n b (fun c0_ => some c0_))) (fin_out (o := (zgn a_n a b_n b)) (x := z91 a_n a b_n b) (d := default) (V := fun r => ((AV.v (TV.one (At.bool r))), [])) (fun r => rfl) hp)
  · cases hp)
noncomputable def z3u : List PT → Option (Bool × AV × List Blk)
  | [.one (.s (.flt .f32 x))] => some ((zff x), ((AV.v (TV.one (At.flt FloatKind.f32 (z8a x)))), []))
  | _ => none
def zil (x : Nat) : Option (Nat) → Option (AV × List Blk)
  | some r => some ((AV.v (TV.one (At.flt FloatKind.f32 r))), [])
  | none => none
theorem znb (x : Nat) : evFn Γ4 8 8 85 (impTs 0 [.one (.s (.flt .f32 x))]).1 (impTs 0 [.one (.s (.flt .f32 x))]).2 (expo (impTs 0 [.one (.s (.flt .f32 x))]).2.length) = zas x (fun c0_ => some ((AV.v (TV.one (At.flt FloatKind.f32 c0_))), [])) := by kernel_rfl
theorem z32 : SumOne Try.prog 85 z3u := sum_of (Γ := Γ4) (fuel := 8) (d := 8) tyTab_ok (FnL.ok fnTab_ok _ _) (LpL.ok lt4_ok) (SumL.ok tb4_ok _) mixed (by
  intro pts v news hp hc
  clear hc
  unfold z3u at hp
  split at hp
  · rename_i x
    exact Eq.trans (Eq.trans (znb x) (zkd (zil x) rfl x (fun c0_ => some c0_))) (fin_out (o := (zil x)) (x := z9f x) (d := default) (V := fun r => ((AV.v (TV.one (At.flt FloatKind.f32 r))), [])) (fun r => rfl) hp)
  · cases hp)
noncomputable def z0d : List PT → Option (Bool × AV × List Blk)
  | [.one (.row 1 s_n (.fl .f32 s)), .fn 118 []] => some ((z69 s_n s), ((AV.v (TV.one (At.int IntKind.i64 (z67 s_n s)))), []))
  | _ => none
def z93 (s_n : Nat) (s : List Nat) : Option (Int) → Option (AV × List Blk)
  | some r => some ((AV.v (TV.one (At.int IntKind.i64 r))), [])
  | none => none
theorem zef (s_n : Nat) (s : List Nat) : evFn Γ4 8 8 99 (impTs 0 [.one (.row 1 s_n (.fl .f32 s)), .fn 118 []]).1 (impTs 0 [.one (.row 1 s_n (.fl .f32 s)), .fn 118 []]).2 (expo (impTs 0 [.one (.row 1 s_n (.fl .f32 s)), .fn 118 []]).2.length) = z57 s_n s (fun c0_ => some ((AV.v (TV.one (At.int IntKind.i64 c0_))), [])) := by kernel_rfl
theorem z0b : SumOne Try.prog 99 z0d := sum_of (Γ := Γ4) (fuel := 8) (d := 8) tyTab_ok (FnL.ok fnTab_ok _ _) (LpL.ok lt4_ok) (SumL.ok tb4_ok _) mixed (by
  intro pts v news hp hc
  clear hc
  unfold z0d at hp
  split at hp
  · rename_i s_n s
    exact Eq.trans (Eq.trans (zef s_n s) (zco (z93 s_n s) rfl s_n s (fun c0_ => some c0_))) (fin_out (o := (z93 s_n s)) (x := z56 s_n s) (d := default) (V := fun r => ((AV.v (TV.one (At.int IntKind.i64 r))), [])) (fun r => rfl) hp)
  · cases hp)
noncomputable def z08 : List PT → Option (Bool × AV × List Blk)
  | [.one (.row 1 s_n (.fl .f32 s)), .fn 122 []] => some ((z61 s_n s), ((AV.v (TV.one (At.int IntKind.i64 (z5w s_n s)))), []))
  | _ => none
def z85 (s_n : Nat) (s : List Nat) : Option (Int) → Option (AV × List Blk)
  | some r => some ((AV.v (TV.one (At.int IntKind.i64 r))), [])
  | none => none
theorem zdw (s_n : Nat) (s : List Nat) : evFn Γ4 8 8 99 (impTs 0 [.one (.row 1 s_n (.fl .f32 s)), .fn 122 []]).1 (impTs 0 [.one (.row 1 s_n (.fl .f32 s)), .fn 122 []]).2 (expo (impTs 0 [.one (.row 1 s_n (.fl .f32 s)), .fn 122 []]).2.length) = z50 s_n s (fun c0_ => some ((AV.v (TV.one (At.int IntKind.i64 c0_))), [])) := by kernel_rfl
theorem z06 : SumOne Try.prog 99 z08 := sum_of (Γ := Γ4) (fuel := 8) (d := 8) tyTab_ok (FnL.ok fnTab_ok _ _) (LpL.ok lt4_ok) (SumL.ok tb4_ok _) mixed (by
  intro pts v news hp hc
  clear hc
  unfold z08 at hp
  split at hp
  · rename_i s_n s
    exact Eq.trans (Eq.trans (zdw s_n s) (zbt (z85 s_n s) rfl s_n s (fun c0_ => some c0_))) (fin_out (o := (z85 s_n s)) (x := z54 s_n s) (d := default) (V := fun r => ((AV.v (TV.one (At.int IntKind.i64 r))), [])) (fun r => rfl) hp)
  · cases hp)
noncomputable def z7s (sn : Nat) (t7 : Int) (t8 : Int) (b0 : List Nat) : Bool × LO := ((z51 sn t7 b0 t8), (LO.two (z4w sn t7 b0 t8) (LO.one Ex.ret (St.mk [(4, (AV.v (TV.one (At.int IntKind.i64 (z5q sn t7 b0 t8)))))] [(Blk.mk Bool.false (Body.fl FloatKind.f32 b0))])) (LO.one (Ex.exit 0) (St.mk [(0, (AV.v (TV.one (At.vw 0 0 sn 1)))), (1, (AV.v (TV.one (At.fn 119 [])))), (7, (AV.v (TV.one (At.int IntKind.i64 t7)))), (8, (AV.v (TV.one (At.int IntKind.i64 (z6p sn t7 b0 t8))))), (9, (AV.v (TV.one (At.bool (z6m sn t7 b0 t8)))))] [(Blk.mk Bool.false (Body.fl FloatKind.f32 b0))]))))
noncomputable def z09 : Nat → St → Option (Bool × LO) := lpT 1 (pSt [(pTm 0 (pV (pOne (pVw 0 (liN 0) 1)))), (pTm 1 (pV (pOne (pFn 119 [])))), (pTm 7 (pV (pOne (pInt IntKind.i64)))), (pTm 8 (pV (pOne (pInt IntKind.i64))))] [(pBlk Bool.false (pFl FloatKind.f32))]) (fun hs => z7s (hvN (hGet hs 0)) (hvI (hGet hs 1)) (hvI (hGet hs 2)) (hvLn (hGet hs 3)))
def z5k (sn : Nat) (t7 : Int) (b0 : List Nat) : Option ((Int) ⊕ (Int × Bool)) → Option (Ex × St)
  | none => none
  | some (Sum.inl r) => some (Ex.ret, (St.mk [(4, (AV.v (TV.one (At.int IntKind.i64 r))))] [(Blk.mk Bool.false (Body.fl FloatKind.f32 b0))]))
  | some (Sum.inr r) => some ((Ex.exit 0), (St.mk [(0, (AV.v (TV.one (At.vw 0 0 sn 1)))), (1, (AV.v (TV.one (At.fn 119 [])))), (7, (AV.v (TV.one (At.int IntKind.i64 t7)))), (8, (AV.v (TV.one (At.int IntKind.i64 r.1)))), (9, (AV.v (TV.one (At.bool r.2))))] [(Blk.mk Bool.false (Body.fl FloatKind.f32 b0))]))
def zdj (sn : Nat) (t7 : Int) (b0 : List Nat) (x : Option ((Int) ⊕ (Int × Bool))) : LO := (LO.two (oL x) (LO.one Ex.ret (St.mk [(4, (AV.v (TV.one (At.int IntKind.i64 ((tL x).getD default)))))] [(Blk.mk Bool.false (Body.fl FloatKind.f32 b0))])) (LO.one (Ex.exit 0) (St.mk [(0, (AV.v (TV.one (At.vw 0 0 sn 1)))), (1, (AV.v (TV.one (At.fn 119 [])))), (7, (AV.v (TV.one (At.int IntKind.i64 t7)))), (8, (AV.v (TV.one (At.int IntKind.i64 ((tR x).getD default).1)))), (9, (AV.v (TV.one (At.bool ((tR x).getD default).2))))] [(Blk.mk Bool.false (Body.fl FloatKind.f32 b0))])))
theorem zdy (sn : Nat) (t7 : Int) (b0 : List Nat) : ∀ x : Option ((Int) ⊕ (Int × Bool)), x.isSome = true → (z5k sn t7 b0) x = some (pick (zdj sn t7 b0 x))
  | none, h => by cases h
  | some (Sum.inl r), _ => rfl
  | some (Sum.inr r), _ => rfl
theorem zdz (sn : Nat) (t7 : Int) (t8 : Int) (b0 : List Nat) (K : Ex → St → Option (Ex × St)) : evC (R := Ex × St) Γ4 (evFn Γ4 8 8) 99 1 fi99.nt fi99.live fi99.nl 8 (findL 2 (loopsIn fi99.code)) (St.mk [(0, (AV.v (TV.one (At.vw 0 0 sn 1)))), (1, (AV.v (TV.one (At.fn 119 [])))), (7, (AV.v (TV.one (At.int IntKind.i64 t7)))), (8, (AV.v (TV.one (At.int IntKind.i64 t8))))] [(Blk.mk Bool.false (Body.fl FloatKind.f32 b0))]) K = z4f sn t7 b0 t8 (fun t8' => K .normal (St.mk [(0, (AV.v (TV.one (At.vw 0 0 sn 1)))), (1, (AV.v (TV.one (At.fn 119 [])))), (7, (AV.v (TV.one (At.int IntKind.i64 t7)))), (8, (AV.v (TV.one (At.int IntKind.i64 t8'))))] [(Blk.mk Bool.false (Body.fl FloatKind.f32 b0))])) (fun c0_ => K Ex.ret (St.mk [(4, (AV.v (TV.one (At.int IntKind.i64 c0_))))] [(Blk.mk Bool.false (Body.fl FloatKind.f32 b0))])) (fun c0_ c1_ => K (Ex.exit 0) (St.mk [(0, (AV.v (TV.one (At.vw 0 0 sn 1)))), (1, (AV.v (TV.one (At.fn 119 [])))), (7, (AV.v (TV.one (At.int IntKind.i64 t7)))), (8, (AV.v (TV.one (At.int IntKind.i64 c0_)))), (9, (AV.v (TV.one (At.bool c1_))))] [(Blk.mk Bool.false (Body.fl FloatKind.f32 b0))])) := by kernel_rfl
theorem zdv (sn : Nat) (t7 : Int) (b0 : List Nat) : ∀ (n : Nat) (t8 : Int), iter 99 2 1 (evC (R := Ex × St) Γ4 (evFn Γ4 8 8) 99 1 fi99.nt fi99.live fi99.nl 8 (findL 2 (loopsIn fi99.code))) n (St.mk [(0, (AV.v (TV.one (At.vw 0 0 sn 1)))), (1, (AV.v (TV.one (At.fn 119 [])))), (7, (AV.v (TV.one (At.int IntKind.i64 t7)))), (8, (AV.v (TV.one (At.int IntKind.i64 t8))))] [(Blk.mk Bool.false (Body.fl FloatKind.f32 b0))]) (fun e st => some (e, st)) = (z5k sn t7 b0) (z20 sn t7 b0 n t8) := by
  intro n
  induction n with
  | zero => intros; rfl
  | succ n ih =>
    intro t8
    refine Eq.trans (iter_succ ..) (Eq.trans (zdz sn t7 t8 b0 (nextK 99 2 1 (evC (R := Ex × St) Γ4 (evFn Γ4 8 8) 99 1 fi99.nt fi99.live fi99.nl 8 (findL 2 (loopsIn fi99.code))) n (fun e st => some (e, st)))) (Eq.trans ?_ (zbw (z5k sn t7 b0) rfl sn t7 b0 t8 (fun t8' => z20 sn t7 b0 n t8') (fun c0_ => some (Sum.inl c0_)) (fun c0_ c1_ => some (Sum.inr (c0_, c1_))))))
    exact congrArg (fun kn_ => z4f sn t7 b0 t8 kn_ (fun c0_ => (z5k sn t7 b0) (some (Sum.inl c0_))) (fun c0_ c1_ => (z5k sn t7 b0) (some (Sum.inr (c0_, c1_))))) (funext fun t8' => ih t8')
theorem z07 : LoopOne Try.prog fnTab 99 2 z09 := lp_of (Γ := Γ4) tyTab_ok (FnL.ok fnTab_ok _ _) (LpL.ok lt4_ok) (SumL.ok tb4_ok _) mixed (fi := fi99) (by kernel_rfl) (by kernel_rfl) (by
  intro lo st out hp
  obtain ⟨hs, e1, e2, e3⟩ := lpT_inv hp
  clear hp
  obtain rfl : st = (St.mk [(0, (AV.v (TV.one (At.vw 0 0 (hvN (hGet hs 0)) 1)))), (1, (AV.v (TV.one (At.fn 119 [])))), (7, (AV.v (TV.one (At.int IntKind.i64 (hvI (hGet hs 1)))))), (8, (AV.v (TV.one (At.int IntKind.i64 (hvI (hGet hs 2))))))] [(Blk.mk Bool.false (Body.fl FloatKind.f32 (hvLn (hGet hs 3))))]) := e2.trans (by kernel_rfl)
  clear e2
  subst e1
  unfold z7s at e3
  injection e3 with h1 h2
  subst h2
  exact ⟨8, 8, big, Eq.trans (zdv (hvN (hGet hs 0)) (hvI (hGet hs 1)) (hvLn (hGet hs 3)) big (hvI (hGet hs 2))) (zdy (hvN (hGet hs 0)) (hvI (hGet hs 1)) (hvLn (hGet hs 3)) (z20 (hvN (hGet hs 0)) (hvI (hGet hs 1)) (hvLn (hGet hs 3)) big (hvI (hGet hs 2))) h1)⟩)
noncomputable def tb5 : List (Nat × (List PT → Option (Bool × AV × List Blk))) := [(125, z1y), (128, z0k), (134, z11), (137, z1x), (18, z26), (44, z29), (48, z1o), (54, z2q), (61, z25), (63, z42), (66, z3o), (80, z1p), (82, z38), (84, z3n), (97, z2r), (109, z27), (121, z4i), (129, z4j), (14, z2h), (56, z3e), (83, z2j), (88, z0m), (89, z3s), (103, z2y), (105, z2i), (111, z3f), (114, z2x), (118, z1e), (122, z0u), (123, z3r), (37, z3j), (52, z22), (119, z23), (135, z4b), (16, z2v), (57, z2b), (86, z2d), (110, z1t), (130, z2a), (19, z34), (39, z3v), (62, z4g), (69, z2k), (85, z3u), (99, z0d), (99, z08)]
noncomputable def lt5 : List ((Nat × Nat) × (Nat → St → Option (Bool × LO))) := [((52, 3), z0x), ((57, 4), z12), ((86, 3), z13), ((110, 17), z0s), ((62, 5), z3h), ((69, 4), z19), ((99, 2), z03), ((99, 2), z01), ((99, 2), z09)]
noncomputable def Γ5 : Ctx := ⟨tyTab, fnTab, tblSum tb5, tblLp lt5⟩
theorem tb5_ok : SumL Try.prog tb5 := SumL.cons z10 (SumL.cons z0i (SumL.cons z0r (SumL.cons z0z (SumL.cons z18 (SumL.cons z15 (SumL.cons z0y (SumL.cons z1n (SumL.cons z16 (SumL.cons z36 (SumL.cons z2o (SumL.cons z0w (SumL.cons z21 (SumL.cons z2m (SumL.cons z1m (SumL.cons z17 (SumL.cons z3x (SumL.cons z3w (SumL.cons z1h (SumL.cons z2e (SumL.cons z1f (SumL.cons z0j (SumL.cons z2t (SumL.cons z1v (SumL.cons z1g (SumL.cons z2c (SumL.cons z1u (SumL.cons z0v (SumL.cons z0n (SumL.cons z2s (SumL.cons z2l (SumL.cons z1b (SumL.cons z1a (SumL.cons z3i (SumL.cons z1w (SumL.cons z1j (SumL.cons z1i (SumL.cons z14 (SumL.cons z1k (SumL.cons z28 (SumL.cons z33 (SumL.cons z3t (SumL.cons z1q (SumL.cons z32 (SumL.cons z0b (SumL.cons z06 (SumL.nil))))))))))))))))))))))))))))))))))))))))))))))
theorem lt5_ok : LpL Try.prog fnTab lt5 := LpL.cons z0o (LpL.cons z0p (LpL.cons z0q (LpL.cons z0l (LpL.cons z2g (LpL.cons z0t (LpL.cons z02 (LpL.cons z00 (LpL.cons z07 (LpL.nil)))))))))
noncomputable def z40 : List PT → Option (Bool × AV × List Blk)
  | [.agg [.row 1 q0e (.fl .f32 q0h), .row 1 q0g (.fl .f32 q0l), .row 1 q0f (.fl .f32 q0k), .row 3 q0n (.fl .f32 q0y), .s (.int .i64 q1b), .s (.flt .f32 q1l), .s (.flt .f32 q1k)], .agg [.row 1 q1m (.fl .f32 q1t), .row 1 q1q (.fl .f32 q1v), .row 1 q1p (.fl .f32 q1u), .row 3 q24 (.fl .f32 q28), .s (.int .i64 q2m), .s (.flt .f32 q2r), .s (.flt .f32 q2q)]] => some ((zdm q0e q0h q0g q0l q0f q0k q0n q0y q1b q1l q1k q1m q1t q1q q1v q1p q1u q24 q28 q2m q2r q2q), ((AV.v (TV.one (At.bool (zca q0e q0h q0g q0l q0f q0k q0n q0y q1b q1l q1k q1m q1t q1q q1v q1p q1u q24 q28 q2m q2r q2q)))), []))
  | _ => none
def zj1 (q0e : Nat) (q0h : List Nat) (q0g : Nat) (q0l : List Nat) (q0f : Nat) (q0k : List Nat) (q0n : Nat) (q0y : List Nat) (q1b : Int) (q1l : Nat) (q1k : Nat) (q1m : Nat) (q1t : List Nat) (q1q : Nat) (q1v : List Nat) (q1p : Nat) (q1u : List Nat) (q24 : Nat) (q28 : List Nat) (q2m : Int) (q2r : Nat) (q2q : Nat) : Option (Bool) → Option (AV × List Blk)
  | some r => some ((AV.v (TV.one (At.bool r))), [])
  | none => none
theorem zn0 (q0e : Nat) (q0h : List Nat) (q0g : Nat) (q0l : List Nat) (q0f : Nat) (q0k : List Nat) (q0n : Nat) (q0y : List Nat) (q1b : Int) (q1l : Nat) (q1k : Nat) (q1m : Nat) (q1t : List Nat) (q1q : Nat) (q1v : List Nat) (q1p : Nat) (q1u : List Nat) (q24 : Nat) (q28 : List Nat) (q2m : Int) (q2r : Nat) (q2q : Nat) : evFn Γ5 8 8 30 (impTs 0 [.agg [.row 1 q0e (.fl .f32 q0h), .row 1 q0g (.fl .f32 q0l), .row 1 q0f (.fl .f32 q0k), .row 3 q0n (.fl .f32 q0y), .s (.int .i64 q1b), .s (.flt .f32 q1l), .s (.flt .f32 q1k)], .agg [.row 1 q1m (.fl .f32 q1t), .row 1 q1q (.fl .f32 q1v), .row 1 q1p (.fl .f32 q1u), .row 3 q24 (.fl .f32 q28), .s (.int .i64 q2m), .s (.flt .f32 q2r), .s (.flt .f32 q2q)]]).1 (impTs 0 [.agg [.row 1 q0e (.fl .f32 q0h), .row 1 q0g (.fl .f32 q0l), .row 1 q0f (.fl .f32 q0k), .row 3 q0n (.fl .f32 q0y), .s (.int .i64 q1b), .s (.flt .f32 q1l), .s (.flt .f32 q1k)], .agg [.row 1 q1m (.fl .f32 q1t), .row 1 q1q (.fl .f32 q1v), .row 1 q1p (.fl .f32 q1u), .row 3 q24 (.fl .f32 q28), .s (.int .i64 q2m), .s (.flt .f32 q2r), .s (.flt .f32 q2q)]]).2 (expo (impTs 0 [.agg [.row 1 q0e (.fl .f32 q0h), .row 1 q0g (.fl .f32 q0l), .row 1 q0f (.fl .f32 q0k), .row 3 q0n (.fl .f32 q0y), .s (.int .i64 q1b), .s (.flt .f32 q1l), .s (.flt .f32 q1k)], .agg [.row 1 q1m (.fl .f32 q1t), .row 1 q1q (.fl .f32 q1v), .row 1 q1p (.fl .f32 q1u), .row 3 q24 (.fl .f32 q28), .s (.int .i64 q2m), .s (.flt .f32 q2r), .s (.flt .f32 q2q)]]).2.length) = zal q0e q0h q0g q0l q0f q0k q0n q0y q1b q1l q1k q1m q1t q1q q1v q1p q1u q24 q28 q2m q2r q2q (fun c0_ => some ((AV.v (TV.one (At.bool c0_))), [])) := by kernel_rfl
theorem z3b : SumOne Try.prog 30 z40 := sum_of (Γ := Γ5) (fuel := 8) (d := 8) tyTab_ok (FnL.ok fnTab_ok _ _) (LpL.ok lt5_ok) (SumL.ok tb5_ok _) mixed (by
  intro pts v news hp hc
  clear hc
  unfold z40 at hp
  split at hp
  · rename_i q0e q0h q0g q0l q0f q0k q0n q0y q1b q1l q1k q1m q1t q1q q1v q1p q1u q24 q28 q2m q2r q2q
    exact Eq.trans (Eq.trans (zn0 q0e q0h q0g q0l q0f q0k q0n q0y q1b q1l q1k q1m q1t q1q q1v q1p q1u q24 q28 q2m q2r q2q) (zkc (zj1 q0e q0h q0g q0l q0f q0k q0n q0y q1b q1l q1k q1m q1t q1q q1v q1p q1u q24 q28 q2m q2r q2q) rfl q0e q0h q0g q0l q0f q0k q0n q0y q1b q1l q1k q1m q1t q1q q1v q1p q1u q24 q28 q2m q2r q2q (fun c0_ => some c0_))) (fin_out (o := (zj1 q0e q0h q0g q0l q0f q0k q0n q0y q1b q1l q1k q1m q1t q1q q1v q1p q1u q24 q28 q2m q2r q2q)) (x := zak q0e q0h q0g q0l q0f q0k q0n q0y q1b q1l q1k q1m q1t q1q q1v q1p q1u q24 q28 q2m q2r q2q) (d := default) (V := fun r => ((AV.v (TV.one (At.bool r))), [])) (fun r => rfl) hp)
  · cases hp)
noncomputable def z0h : List PT → Option (Bool × AV × List Blk)
  | [.one (.row 1 s_n (.fl .f32 s)), .fn 119 []] => some ((z6d s_n s), ((AV.v (TV.one (At.int IntKind.i64 (z6a s_n s)))), []))
  | _ => none
def z95 (s_n : Nat) (s : List Nat) : Option (Int) → Option (AV × List Blk)
  | some r => some ((AV.v (TV.one (At.int IntKind.i64 r))), [])
  | none => none
theorem zek (s_n : Nat) (s : List Nat) : evFn Γ5 8 8 99 (impTs 0 [.one (.row 1 s_n (.fl .f32 s)), .fn 119 []]).1 (impTs 0 [.one (.row 1 s_n (.fl .f32 s)), .fn 119 []]).2 (expo (impTs 0 [.one (.row 1 s_n (.fl .f32 s)), .fn 119 []]).2.length) = z5a s_n s (fun c0_ => some ((AV.v (TV.one (At.int IntKind.i64 c0_))), [])) := by kernel_rfl
theorem z0g : SumOne Try.prog 99 z0h := sum_of (Γ := Γ5) (fuel := 8) (d := 8) tyTab_ok (FnL.ok fnTab_ok _ _) (LpL.ok lt5_ok) (SumL.ok tb5_ok _) mixed (by
  intro pts v news hp hc
  clear hc
  unfold z0h at hp
  split at hp
  · rename_i s_n s
    exact Eq.trans (Eq.trans (zek s_n s) (zdh (z95 s_n s) rfl s_n s (fun c0_ => some c0_))) (fin_out (o := (z95 s_n s)) (x := z59 s_n s) (d := default) (V := fun r => ((AV.v (TV.one (At.int IntKind.i64 r))), [])) (fun r => rfl) hp)
  · cases hp)
noncomputable def zgz (q2t : Bool) (z : Nat) (u : Nat) (p : Nat) (k : Nat) : Bool × LO := ((z7w u p k), (LO.one (Ex.exit 0) (St.mk [(4, (AV.v (TV.one (At.bool q2t)))), (5, (AV.v (TV.one (At.flt FloatKind.f64 z)))), (6, (AV.v (TV.one (At.flt FloatKind.f64 u)))), (7, (AV.v (TV.one (At.flt FloatKind.f64 (z6y u p k))))), (8, (AV.v (TV.one (At.flt FloatKind.f64 (zfi u p k))))), (25, (AV.v (TV.one (At.bool (zfj u p k)))))] [])))
noncomputable def z43 : Nat → St → Option (Bool × LO) := lpT 0 (pSt [(pTm 4 (pV (pOne pBool))), (pTm 5 (pV (pOne (pFlt FloatKind.f64)))), (pTm 6 (pV (pOne (pFlt FloatKind.f64)))), (pTm 7 (pV (pOne (pFlt FloatKind.f64)))), (pTm 8 (pV (pOne (pFlt FloatKind.f64))))] []) (fun hs => zgz (hvB (hGet hs 0)) (hvN (hGet hs 1)) (hvN (hGet hs 2)) (hvN (hGet hs 3)) (hvN (hGet hs 4)))
def zfc (q2t : Bool) (z : Nat) (u : Nat) : Option ((Nat × Nat × Bool)) → Option (Ex × St)
  | none => none
  | some r => some ((Ex.exit 0), (St.mk [(4, (AV.v (TV.one (At.bool q2t)))), (5, (AV.v (TV.one (At.flt FloatKind.f64 z)))), (6, (AV.v (TV.one (At.flt FloatKind.f64 u)))), (7, (AV.v (TV.one (At.flt FloatKind.f64 r.1)))), (8, (AV.v (TV.one (At.flt FloatKind.f64 r.2.1)))), (25, (AV.v (TV.one (At.bool r.2.2))))] []))
def zmh (q2t : Bool) (z : Nat) (u : Nat) (x : Option ((Nat × Nat × Bool))) : LO := (LO.one (Ex.exit 0) (St.mk [(4, (AV.v (TV.one (At.bool q2t)))), (5, (AV.v (TV.one (At.flt FloatKind.f64 z)))), (6, (AV.v (TV.one (At.flt FloatKind.f64 u)))), (7, (AV.v (TV.one (At.flt FloatKind.f64 (x.getD default).1)))), (8, (AV.v (TV.one (At.flt FloatKind.f64 (x.getD default).2.1)))), (25, (AV.v (TV.one (At.bool (x.getD default).2.2))))] []))
theorem zn8 (q2t : Bool) (z : Nat) (u : Nat) : ∀ x : Option ((Nat × Nat × Bool)), x.isSome = true → (zfc q2t z u) x = some (pick (zmh q2t z u x))
  | none, h => by cases h
  | some r, _ => rfl
theorem zn6 (q2t : Bool) (z : Nat) (u : Nat) (p : Nat) (k : Nat) (K : Ex → St → Option (Ex × St)) : evC (R := Ex × St) Γ5 (evFn Γ5 8 8) 124 0 fi124.nt fi124.live fi124.nl 8 (findL 9 (loopsIn fi124.code)) (St.mk [(4, (AV.v (TV.one (At.bool q2t)))), (5, (AV.v (TV.one (At.flt FloatKind.f64 z)))), (6, (AV.v (TV.one (At.flt FloatKind.f64 u)))), (7, (AV.v (TV.one (At.flt FloatKind.f64 p)))), (8, (AV.v (TV.one (At.flt FloatKind.f64 k))))] []) K = z79 u p k (fun p' k' => K .normal (St.mk [(4, (AV.v (TV.one (At.bool q2t)))), (5, (AV.v (TV.one (At.flt FloatKind.f64 z)))), (6, (AV.v (TV.one (At.flt FloatKind.f64 u)))), (7, (AV.v (TV.one (At.flt FloatKind.f64 p')))), (8, (AV.v (TV.one (At.flt FloatKind.f64 k'))))] [])) (fun c0_ c1_ c2_ => K (Ex.exit 0) (St.mk [(4, (AV.v (TV.one (At.bool q2t)))), (5, (AV.v (TV.one (At.flt FloatKind.f64 z)))), (6, (AV.v (TV.one (At.flt FloatKind.f64 u)))), (7, (AV.v (TV.one (At.flt FloatKind.f64 c0_)))), (8, (AV.v (TV.one (At.flt FloatKind.f64 c1_)))), (25, (AV.v (TV.one (At.bool c2_))))] [])) := by kernel_rfl
theorem zna (q2t : Bool) (z : Nat) (u : Nat) : ∀ (n : Nat) (p : Nat) (k : Nat), iter 124 9 0 (evC (R := Ex × St) Γ5 (evFn Γ5 8 8) 124 0 fi124.nt fi124.live fi124.nl 8 (findL 9 (loopsIn fi124.code))) n (St.mk [(4, (AV.v (TV.one (At.bool q2t)))), (5, (AV.v (TV.one (At.flt FloatKind.f64 z)))), (6, (AV.v (TV.one (At.flt FloatKind.f64 u)))), (7, (AV.v (TV.one (At.flt FloatKind.f64 p)))), (8, (AV.v (TV.one (At.flt FloatKind.f64 k))))] []) (fun e st => some (e, st)) = (zfc q2t z u) (z5y u n p k) := by
  intro n
  induction n with
  | zero => intros; rfl
  | succ n ih =>
    intro p k
    refine Eq.trans (iter_succ ..) (Eq.trans (zn6 q2t z u p k (nextK 124 9 0 (evC (R := Ex × St) Γ5 (evFn Γ5 8 8) 124 0 fi124.nt fi124.live fi124.nl 8 (findL 9 (loopsIn fi124.code))) n (fun e st => some (e, st)))) (Eq.trans ?_ (zkl (zfc q2t z u) rfl u p k (fun p' k' => z5y u n p' k') (fun c0_ c1_ c2_ => some (c0_, c1_, c2_)))))
    exact congrArg (fun kn_ => z79 u p k kn_ (fun c0_ c1_ c2_ => (zfc q2t z u) (some (c0_, c1_, c2_)))) (funext fun p' => funext fun k' => ih p' k')
theorem z3a : LoopOne Try.prog fnTab 124 9 z43 := lp_of (Γ := Γ5) tyTab_ok (FnL.ok fnTab_ok _ _) (LpL.ok lt5_ok) (SumL.ok tb5_ok _) mixed (fi := fi124) (by kernel_rfl) (by kernel_rfl) (by
  intro lo st out hp
  obtain ⟨hs, e1, e2, e3⟩ := lpT_inv hp
  clear hp
  obtain rfl : st = (St.mk [(4, (AV.v (TV.one (At.bool (hvB (hGet hs 0)))))), (5, (AV.v (TV.one (At.flt FloatKind.f64 (hvN (hGet hs 1)))))), (6, (AV.v (TV.one (At.flt FloatKind.f64 (hvN (hGet hs 2)))))), (7, (AV.v (TV.one (At.flt FloatKind.f64 (hvN (hGet hs 3)))))), (8, (AV.v (TV.one (At.flt FloatKind.f64 (hvN (hGet hs 4))))))] []) := e2.trans (by kernel_rfl)
  clear e2
  subst e1
  unfold zgz at e3
  injection e3 with h1 h2
  subst h2
  exact ⟨8, 8, big, Eq.trans (zna (hvB (hGet hs 0)) (hvN (hGet hs 1)) (hvN (hGet hs 2)) big (hvN (hGet hs 3)) (hvN (hGet hs 4))) (zn8 (hvB (hGet hs 0)) (hvN (hGet hs 1)) (hvN (hGet hs 2)) (z5y (hvN (hGet hs 2)) big (hvN (hGet hs 3)) (hvN (hGet hs 4))) h1)⟩)
noncomputable def tb6 : List (Nat × (List PT → Option (Bool × AV × List Blk))) := [(125, z1y), (128, z0k), (134, z11), (137, z1x), (18, z26), (44, z29), (48, z1o), (54, z2q), (61, z25), (63, z42), (66, z3o), (80, z1p), (82, z38), (84, z3n), (97, z2r), (109, z27), (121, z4i), (129, z4j), (14, z2h), (56, z3e), (83, z2j), (88, z0m), (89, z3s), (103, z2y), (105, z2i), (111, z3f), (114, z2x), (118, z1e), (122, z0u), (123, z3r), (37, z3j), (52, z22), (119, z23), (135, z4b), (16, z2v), (57, z2b), (86, z2d), (110, z1t), (130, z2a), (19, z34), (39, z3v), (62, z4g), (69, z2k), (85, z3u), (99, z0d), (99, z08), (30, z40), (99, z0h)]
noncomputable def lt6 : List ((Nat × Nat) × (Nat → St → Option (Bool × LO))) := [((52, 3), z0x), ((57, 4), z12), ((86, 3), z13), ((110, 17), z0s), ((62, 5), z3h), ((69, 4), z19), ((99, 2), z03), ((99, 2), z01), ((99, 2), z09), ((124, 9), z43)]
noncomputable def Γ6 : Ctx := ⟨tyTab, fnTab, tblSum tb6, tblLp lt6⟩
theorem tb6_ok : SumL Try.prog tb6 := SumL.cons z10 (SumL.cons z0i (SumL.cons z0r (SumL.cons z0z (SumL.cons z18 (SumL.cons z15 (SumL.cons z0y (SumL.cons z1n (SumL.cons z16 (SumL.cons z36 (SumL.cons z2o (SumL.cons z0w (SumL.cons z21 (SumL.cons z2m (SumL.cons z1m (SumL.cons z17 (SumL.cons z3x (SumL.cons z3w (SumL.cons z1h (SumL.cons z2e (SumL.cons z1f (SumL.cons z0j (SumL.cons z2t (SumL.cons z1v (SumL.cons z1g (SumL.cons z2c (SumL.cons z1u (SumL.cons z0v (SumL.cons z0n (SumL.cons z2s (SumL.cons z2l (SumL.cons z1b (SumL.cons z1a (SumL.cons z3i (SumL.cons z1w (SumL.cons z1j (SumL.cons z1i (SumL.cons z14 (SumL.cons z1k (SumL.cons z28 (SumL.cons z33 (SumL.cons z3t (SumL.cons z1q (SumL.cons z32 (SumL.cons z0b (SumL.cons z06 (SumL.cons z3b (SumL.cons z0g (SumL.nil))))))))))))))))))))))))))))))))))))))))))))))))
theorem lt6_ok : LpL Try.prog fnTab lt6 := LpL.cons z0o (LpL.cons z0p (LpL.cons z0q (LpL.cons z0l (LpL.cons z2g (LpL.cons z0t (LpL.cons z02 (LpL.cons z00 (LpL.cons z07 (LpL.cons z3a (LpL.nil))))))))))
noncomputable def z0c : List PT → Option (Bool × AV × List Blk)
  | [.one (.row 1 s_n (.fl .f32 s)), .fn 118 []] => some ((z5x s_n s), ((AV.v (TV.one (At.bool (z5t s_n s)))), []))
  | _ => none
def z83 (s_n : Nat) (s : List Nat) : Option (Bool) → Option (AV × List Blk)
  | some r => some ((AV.v (TV.one (At.bool r))), [])
  | none => none
theorem zdg (s_n : Nat) (s : List Nat) : evFn Γ6 8 8 117 (impTs 0 [.one (.row 1 s_n (.fl .f32 s)), .fn 118 []]).1 (impTs 0 [.one (.row 1 s_n (.fl .f32 s)), .fn 118 []]).2 (expo (impTs 0 [.one (.row 1 s_n (.fl .f32 s)), .fn 118 []]).2.length) = z4y s_n s (fun c0_ => some ((AV.v (TV.one (At.bool c0_))), [])) := by kernel_rfl
theorem z0a : SumOne Try.prog 117 z0c := sum_of (Γ := Γ6) (fuel := 8) (d := 8) tyTab_ok (FnL.ok fnTab_ok _ _) (LpL.ok lt6_ok) (SumL.ok tb6_ok _) mixed (by
  intro pts v news hp hc
  clear hc
  unfold z0c at hp
  split at hp
  · rename_i s_n s
    exact Eq.trans (Eq.trans (zdg s_n s) (zba (z83 s_n s) rfl s_n s (fun c0_ => some c0_))) (fin_out (o := (z83 s_n s)) (x := z4v s_n s) (d := default) (V := fun r => ((AV.v (TV.one (At.bool r))), [])) (fun r => rfl) hp)
  · cases hp)
noncomputable def z0f : List PT → Option (Bool × AV × List Blk)
  | [.one (.row 1 s_n (.fl .f32 s)), .fn 119 []] => some ((z60 s_n s), ((AV.v (TV.one (At.bool (z5u s_n s)))), []))
  | _ => none
def z86 (s_n : Nat) (s : List Nat) : Option (Bool) → Option (AV × List Blk)
  | some r => some ((AV.v (TV.one (At.bool r))), [])
  | none => none
theorem zdx (s_n : Nat) (s : List Nat) : evFn Γ6 8 8 117 (impTs 0 [.one (.row 1 s_n (.fl .f32 s)), .fn 119 []]).1 (impTs 0 [.one (.row 1 s_n (.fl .f32 s)), .fn 119 []]).2 (expo (impTs 0 [.one (.row 1 s_n (.fl .f32 s)), .fn 119 []]).2.length) = z52 s_n s (fun c0_ => some ((AV.v (TV.one (At.bool c0_))), [])) := by kernel_rfl
theorem z0e : SumOne Try.prog 117 z0f := sum_of (Γ := Γ6) (fuel := 8) (d := 8) tyTab_ok (FnL.ok fnTab_ok _ _) (LpL.ok lt6_ok) (SumL.ok tb6_ok _) mixed (by
  intro pts v news hp hc
  clear hc
  unfold z0f at hp
  split at hp
  · rename_i s_n s
    exact Eq.trans (Eq.trans (zdx s_n s) (zbu (z86 s_n s) rfl s_n s (fun c0_ => some c0_))) (fin_out (o := (z86 s_n s)) (x := z53 s_n s) (d := default) (V := fun r => ((AV.v (TV.one (At.bool r))), [])) (fun r => rfl) hp)
  · cases hp)
noncomputable def z05 : List PT → Option (Bool × AV × List Blk)
  | [.one (.row 1 s_n (.fl .f32 s)), .fn 122 []] => some ((z5p s_n s), ((AV.v (TV.one (At.bool (z5n s_n s)))), []))
  | _ => none
def z7r (s_n : Nat) (s : List Nat) : Option (Bool) → Option (AV × List Blk)
  | some r => some ((AV.v (TV.one (At.bool r))), [])
  | none => none
theorem zce (s_n : Nat) (s : List Nat) : evFn Γ6 8 8 117 (impTs 0 [.one (.row 1 s_n (.fl .f32 s)), .fn 122 []]).1 (impTs 0 [.one (.row 1 s_n (.fl .f32 s)), .fn 122 []]).2 (expo (impTs 0 [.one (.row 1 s_n (.fl .f32 s)), .fn 122 []]).2.length) = z4q s_n s (fun c0_ => some ((AV.v (TV.one (At.bool c0_))), [])) := by kernel_rfl
theorem z04 : SumOne Try.prog 117 z05 := sum_of (Γ := Γ6) (fuel := 8) (d := 8) tyTab_ok (FnL.ok fnTab_ok _ _) (LpL.ok lt6_ok) (SumL.ok tb6_ok _) mixed (by
  intro pts v news hp hc
  clear hc
  unfold z05 at hp
  split at hp
  · rename_i s_n s
    exact Eq.trans (Eq.trans (zce s_n s) (zb1 (z7r s_n s) rfl s_n s (fun c0_ => some c0_))) (fin_out (o := (z7r s_n s)) (x := z4s s_n s) (d := default) (V := fun r => ((AV.v (TV.one (At.bool r))), [])) (fun r => rfl) hp)
  · cases hp)
noncomputable def z4m : List PT → Option (Bool × AV × List Blk)
  | [.one (.s (.flt .f64 q1w))] => some ((zg8 q1w), ((AV.v (TV.one (At.flt FloatKind.f64 (zf7 q1w)))), []))
  | _ => none
def zls (q1w : Nat) : Option (Nat) → Option (AV × List Blk)
  | some r => some ((AV.v (TV.one (At.flt FloatKind.f64 r))), [])
  | none => none
theorem znq (q1w : Nat) : evFn Γ6 8 8 124 (impTs 0 [.one (.s (.flt .f64 q1w))]).1 (impTs 0 [.one (.s (.flt .f64 q1w))]).2 (expo (impTs 0 [.one (.s (.flt .f64 q1w))]).2.length) = zej q1w (fun c0_ => some ((AV.v (TV.one (At.flt FloatKind.f64 c0_))), [])) := by kernel_rfl
theorem z4e : SumOne Try.prog 124 z4m := sum_of (Γ := Γ6) (fuel := 8) (d := 8) tyTab_ok (FnL.ok fnTab_ok _ _) (LpL.ok lt6_ok) (SumL.ok tb6_ok _) mixed (by
  intro pts v news hp hc
  clear hc
  unfold z4m at hp
  split at hp
  · rename_i q1w
    exact Eq.trans (Eq.trans (znq q1w) (zmw (zls q1w) rfl q1w (fun c0_ => some c0_))) (fin_out (o := (zls q1w)) (x := zeh q1w) (d := default) (V := fun r => ((AV.v (TV.one (At.flt FloatKind.f64 r))), [])) (fun r => rfl) hp)
  · cases hp)
noncomputable def zgl (t4 : Nat) (t57 : Int) (t58 : Int) (b0 : List Nat) (b1 : List Nat) (b2 : List Nat) (b3 : List Nat) (q2f : Nat) (q2h : Nat) (q2g : Nat) (q1y : Nat) (q2p : Int) (q2o : Nat) (q1s : Nat) : Bool × LO := ((z88 t57 b3 q1y q1s t4 t58), (LO.two (z7u t57 b3 q1y q1s t4 t58) (LO.one Ex.ret (St.mk [(2, (AV.v (TV.one (At.bool Bool.false))))] [(Blk.mk Bool.false (Body.fl FloatKind.f32 b0)), (Blk.mk Bool.false (Body.fl FloatKind.f32 b1)), (Blk.mk Bool.false (Body.fl FloatKind.f32 b2)), (Blk.mk Bool.false (Body.fl FloatKind.f32 b3)), (Blk.mk Bool.false (Body.cells [(At.vw 0 0 q2f 1), (At.vw 1 0 q2h 1), (At.vw 2 0 q2g 1), (At.vw 3 0 q1y 3), (At.int IntKind.i64 q2p), (At.flt FloatKind.f32 q2o), (At.flt FloatKind.f32 q1s)]))])) (LO.one (Ex.exit 0) (St.mk [(0, (AV.v (TV.one (At.ptr 4 0 7)))), (4, (AV.v (TV.one (At.flt FloatKind.f32 (zey t57 b3 q1y q1s t4 t58))))), (57, (AV.v (TV.one (At.int IntKind.i64 t57)))), (58, (AV.v (TV.one (At.int IntKind.i64 (zex t57 b3 q1y q1s t4 t58))))), (59, (AV.v (TV.one (At.bool (zf5 t57 b3 q1y q1s t4 t58)))))] [(Blk.mk Bool.false (Body.fl FloatKind.f32 b0)), (Blk.mk Bool.false (Body.fl FloatKind.f32 b1)), (Blk.mk Bool.false (Body.fl FloatKind.f32 b2)), (Blk.mk Bool.false (Body.fl FloatKind.f32 b3)), (Blk.mk Bool.false (Body.cells [(At.vw 0 0 q2f 1), (At.vw 1 0 q2h 1), (At.vw 2 0 q2g 1), (At.vw 3 0 q1y 3), (At.int IntKind.i64 q2p), (At.flt FloatKind.f32 q2o), (At.flt FloatKind.f32 q1s)]))]))))
noncomputable def z3y : Nat → St → Option (Bool × LO) := lpT 5 (pSt [(pTm 0 (pV (pOne (pPtr 4 (liN 0) 7)))), (pTm 4 (pV (pOne (pFlt FloatKind.f32)))), (pTm 57 (pV (pOne (pInt IntKind.i64)))), (pTm 58 (pV (pOne (pInt IntKind.i64))))] [(pBlk Bool.false (pFl FloatKind.f32)), (pBlk Bool.false (pFl FloatKind.f32)), (pBlk Bool.false (pFl FloatKind.f32)), (pBlk Bool.false (pFl FloatKind.f32)), (pBlk Bool.false (pCells [(pVw 0 (liN 0) 1), (pVw 1 (liN 0) 1), (pVw 2 (liN 0) 1), (pVw 3 (liN 0) 3), (pInt IntKind.i64), (pFlt FloatKind.f32), (pFlt FloatKind.f32)]))]) (fun hs => zgl (hvN (hGet hs 0)) (hvI (hGet hs 1)) (hvI (hGet hs 2)) (hvLn (hGet hs 3)) (hvLn (hGet hs 4)) (hvLn (hGet hs 5)) (hvLn (hGet hs 6)) (hvN (hGet hs 7)) (hvN (hGet hs 8)) (hvN (hGet hs 9)) (hvN (hGet hs 10)) (hvI (hGet hs 11)) (hvN (hGet hs 12)) (hvN (hGet hs 13)))
def zbz (t57 : Int) (b0 : List Nat) (b1 : List Nat) (b2 : List Nat) (b3 : List Nat) (q2f : Nat) (q2h : Nat) (q2g : Nat) (q1y : Nat) (q2p : Int) (q2o : Nat) (q1s : Nat) : Option ((Unit) ⊕ (Nat × Int × Bool)) → Option (Ex × St)
  | none => none
  | some (Sum.inl r) => some (Ex.ret, (St.mk [(2, (AV.v (TV.one (At.bool Bool.false))))] [(Blk.mk Bool.false (Body.fl FloatKind.f32 b0)), (Blk.mk Bool.false (Body.fl FloatKind.f32 b1)), (Blk.mk Bool.false (Body.fl FloatKind.f32 b2)), (Blk.mk Bool.false (Body.fl FloatKind.f32 b3)), (Blk.mk Bool.false (Body.cells [(At.vw 0 0 q2f 1), (At.vw 1 0 q2h 1), (At.vw 2 0 q2g 1), (At.vw 3 0 q1y 3), (At.int IntKind.i64 q2p), (At.flt FloatKind.f32 q2o), (At.flt FloatKind.f32 q1s)]))]))
  | some (Sum.inr r) => some ((Ex.exit 0), (St.mk [(0, (AV.v (TV.one (At.ptr 4 0 7)))), (4, (AV.v (TV.one (At.flt FloatKind.f32 r.1)))), (57, (AV.v (TV.one (At.int IntKind.i64 t57)))), (58, (AV.v (TV.one (At.int IntKind.i64 r.2.1)))), (59, (AV.v (TV.one (At.bool r.2.2))))] [(Blk.mk Bool.false (Body.fl FloatKind.f32 b0)), (Blk.mk Bool.false (Body.fl FloatKind.f32 b1)), (Blk.mk Bool.false (Body.fl FloatKind.f32 b2)), (Blk.mk Bool.false (Body.fl FloatKind.f32 b3)), (Blk.mk Bool.false (Body.cells [(At.vw 0 0 q2f 1), (At.vw 1 0 q2h 1), (At.vw 2 0 q2g 1), (At.vw 3 0 q1y 3), (At.int IntKind.i64 q2p), (At.flt FloatKind.f32 q2o), (At.flt FloatKind.f32 q1s)]))]))
def zm4 (t57 : Int) (b0 : List Nat) (b1 : List Nat) (b2 : List Nat) (b3 : List Nat) (q2f : Nat) (q2h : Nat) (q2g : Nat) (q1y : Nat) (q2p : Int) (q2o : Nat) (q1s : Nat) (x : Option ((Unit) ⊕ (Nat × Int × Bool))) : LO := (LO.two (oL x) (LO.one Ex.ret (St.mk [(2, (AV.v (TV.one (At.bool Bool.false))))] [(Blk.mk Bool.false (Body.fl FloatKind.f32 b0)), (Blk.mk Bool.false (Body.fl FloatKind.f32 b1)), (Blk.mk Bool.false (Body.fl FloatKind.f32 b2)), (Blk.mk Bool.false (Body.fl FloatKind.f32 b3)), (Blk.mk Bool.false (Body.cells [(At.vw 0 0 q2f 1), (At.vw 1 0 q2h 1), (At.vw 2 0 q2g 1), (At.vw 3 0 q1y 3), (At.int IntKind.i64 q2p), (At.flt FloatKind.f32 q2o), (At.flt FloatKind.f32 q1s)]))])) (LO.one (Ex.exit 0) (St.mk [(0, (AV.v (TV.one (At.ptr 4 0 7)))), (4, (AV.v (TV.one (At.flt FloatKind.f32 ((tR x).getD default).1)))), (57, (AV.v (TV.one (At.int IntKind.i64 t57)))), (58, (AV.v (TV.one (At.int IntKind.i64 ((tR x).getD default).2.1)))), (59, (AV.v (TV.one (At.bool ((tR x).getD default).2.2))))] [(Blk.mk Bool.false (Body.fl FloatKind.f32 b0)), (Blk.mk Bool.false (Body.fl FloatKind.f32 b1)), (Blk.mk Bool.false (Body.fl FloatKind.f32 b2)), (Blk.mk Bool.false (Body.fl FloatKind.f32 b3)), (Blk.mk Bool.false (Body.cells [(At.vw 0 0 q2f 1), (At.vw 1 0 q2h 1), (At.vw 2 0 q2g 1), (At.vw 3 0 q1y 3), (At.int IntKind.i64 q2p), (At.flt FloatKind.f32 q2o), (At.flt FloatKind.f32 q1s)]))])))
theorem zmv (t57 : Int) (b0 : List Nat) (b1 : List Nat) (b2 : List Nat) (b3 : List Nat) (q2f : Nat) (q2h : Nat) (q2g : Nat) (q1y : Nat) (q2p : Int) (q2o : Nat) (q1s : Nat) : ∀ x : Option ((Unit) ⊕ (Nat × Int × Bool)), x.isSome = true → (zbz t57 b0 b1 b2 b3 q2f q2h q2g q1y q2p q2o q1s) x = some (pick (zm4 t57 b0 b1 b2 b3 q2f q2h q2g q1y q2p q2o q1s x))
  | none, h => by cases h
  | some (Sum.inl r), _ => rfl
  | some (Sum.inr r), _ => rfl
theorem zmg (t4 : Nat) (t57 : Int) (t58 : Int) (b0 : List Nat) (b1 : List Nat) (b2 : List Nat) (b3 : List Nat) (q2f : Nat) (q2h : Nat) (q2g : Nat) (q1y : Nat) (q2p : Int) (q2o : Nat) (q1s : Nat) (K : Ex → St → Option (Ex × St)) : evC (R := Ex × St) Γ6 (evFn Γ6 8 8) 91 5 fi91.nt fi91.live fi91.nl 8 (findL 6 (loopsIn fi91.code)) (St.mk [(0, (AV.v (TV.one (At.ptr 4 0 7)))), (4, (AV.v (TV.one (At.flt FloatKind.f32 t4)))), (57, (AV.v (TV.one (At.int IntKind.i64 t57)))), (58, (AV.v (TV.one (At.int IntKind.i64 t58))))] [(Blk.mk Bool.false (Body.fl FloatKind.f32 b0)), (Blk.mk Bool.false (Body.fl FloatKind.f32 b1)), (Blk.mk Bool.false (Body.fl FloatKind.f32 b2)), (Blk.mk Bool.false (Body.fl FloatKind.f32 b3)), (Blk.mk Bool.false (Body.cells [(At.vw 0 0 q2f 1), (At.vw 1 0 q2h 1), (At.vw 2 0 q2g 1), (At.vw 3 0 q1y 3), (At.int IntKind.i64 q2p), (At.flt FloatKind.f32 q2o), (At.flt FloatKind.f32 q1s)]))]) K = z70 t57 b3 q1y q1s t4 t58 (fun t4' t58' => K .normal (St.mk [(0, (AV.v (TV.one (At.ptr 4 0 7)))), (4, (AV.v (TV.one (At.flt FloatKind.f32 t4')))), (57, (AV.v (TV.one (At.int IntKind.i64 t57)))), (58, (AV.v (TV.one (At.int IntKind.i64 t58'))))] [(Blk.mk Bool.false (Body.fl FloatKind.f32 b0)), (Blk.mk Bool.false (Body.fl FloatKind.f32 b1)), (Blk.mk Bool.false (Body.fl FloatKind.f32 b2)), (Blk.mk Bool.false (Body.fl FloatKind.f32 b3)), (Blk.mk Bool.false (Body.cells [(At.vw 0 0 q2f 1), (At.vw 1 0 q2h 1), (At.vw 2 0 q2g 1), (At.vw 3 0 q1y 3), (At.int IntKind.i64 q2p), (At.flt FloatKind.f32 q2o), (At.flt FloatKind.f32 q1s)]))])) (fun _ => K Ex.ret (St.mk [(2, (AV.v (TV.one (At.bool Bool.false))))] [(Blk.mk Bool.false (Body.fl FloatKind.f32 b0)), (Blk.mk Bool.false (Body.fl FloatKind.f32 b1)), (Blk.mk Bool.false (Body.fl FloatKind.f32 b2)), (Blk.mk Bool.false (Body.fl FloatKind.f32 b3)), (Blk.mk Bool.false (Body.cells [(At.vw 0 0 q2f 1), (At.vw 1 0 q2h 1), (At.vw 2 0 q2g 1), (At.vw 3 0 q1y 3), (At.int IntKind.i64 q2p), (At.flt FloatKind.f32 q2o), (At.flt FloatKind.f32 q1s)]))])) (fun c0_ c1_ c2_ => K (Ex.exit 0) (St.mk [(0, (AV.v (TV.one (At.ptr 4 0 7)))), (4, (AV.v (TV.one (At.flt FloatKind.f32 c0_)))), (57, (AV.v (TV.one (At.int IntKind.i64 t57)))), (58, (AV.v (TV.one (At.int IntKind.i64 c1_)))), (59, (AV.v (TV.one (At.bool c2_))))] [(Blk.mk Bool.false (Body.fl FloatKind.f32 b0)), (Blk.mk Bool.false (Body.fl FloatKind.f32 b1)), (Blk.mk Bool.false (Body.fl FloatKind.f32 b2)), (Blk.mk Bool.false (Body.fl FloatKind.f32 b3)), (Blk.mk Bool.false (Body.cells [(At.vw 0 0 q2f 1), (At.vw 1 0 q2h 1), (At.vw 2 0 q2g 1), (At.vw 3 0 q1y 3), (At.int IntKind.i64 q2p), (At.flt FloatKind.f32 q2o), (At.flt FloatKind.f32 q1s)]))])) := by kernel_rfl
theorem zmf (t57 : Int) (b0 : List Nat) (b1 : List Nat) (b2 : List Nat) (b3 : List Nat) (q2f : Nat) (q2h : Nat) (q2g : Nat) (q1y : Nat) (q2p : Int) (q2o : Nat) (q1s : Nat) : ∀ (n : Nat) (t4 : Nat) (t58 : Int), iter 91 6 5 (evC (R := Ex × St) Γ6 (evFn Γ6 8 8) 91 5 fi91.nt fi91.live fi91.nl 8 (findL 6 (loopsIn fi91.code))) n (St.mk [(0, (AV.v (TV.one (At.ptr 4 0 7)))), (4, (AV.v (TV.one (At.flt FloatKind.f32 t4)))), (57, (AV.v (TV.one (At.int IntKind.i64 t57)))), (58, (AV.v (TV.one (At.int IntKind.i64 t58))))] [(Blk.mk Bool.false (Body.fl FloatKind.f32 b0)), (Blk.mk Bool.false (Body.fl FloatKind.f32 b1)), (Blk.mk Bool.false (Body.fl FloatKind.f32 b2)), (Blk.mk Bool.false (Body.fl FloatKind.f32 b3)), (Blk.mk Bool.false (Body.cells [(At.vw 0 0 q2f 1), (At.vw 1 0 q2h 1), (At.vw 2 0 q2g 1), (At.vw 3 0 q1y 3), (At.int IntKind.i64 q2p), (At.flt FloatKind.f32 q2o), (At.flt FloatKind.f32 q1s)]))]) (fun e st => some (e, st)) = (zbz t57 b0 b1 b2 b3 q2f q2h q2g q1y q2p q2o q1s) (z58 t57 b3 q1y q1s n t4 t58) := by
  intro n
  induction n with
  | zero => intros; rfl
  | succ n ih =>
    intro t4 t58
    refine Eq.trans (iter_succ ..) (Eq.trans (zmg t4 t57 t58 b0 b1 b2 b3 q2f q2h q2g q1y q2p q2o q1s (nextK 91 6 5 (evC (R := Ex × St) Γ6 (evFn Γ6 8 8) 91 5 fi91.nt fi91.live fi91.nl 8 (findL 6 (loopsIn fi91.code))) n (fun e st => some (e, st)))) (Eq.trans ?_ (zk7 (zbz t57 b0 b1 b2 b3 q2f q2h q2g q1y q2p q2o q1s) rfl t57 b3 q1y q1s t4 t58 (fun t4' t58' => z58 t57 b3 q1y q1s n t4' t58') (fun _ => some (Sum.inl ())) (fun c0_ c1_ c2_ => some (Sum.inr (c0_, c1_, c2_))))))
    exact congrArg (fun kn_ => z70 t57 b3 q1y q1s t4 t58 kn_ (fun _ => (zbz t57 b0 b1 b2 b3 q2f q2h q2g q1y q2p q2o q1s) (some (Sum.inl ()))) (fun c0_ c1_ c2_ => (zbz t57 b0 b1 b2 b3 q2f q2h q2g q1y q2p q2o q1s) (some (Sum.inr (c0_, c1_, c2_))))) (funext fun t4' => funext fun t58' => ih t4' t58')
theorem z35 : LoopOne Try.prog fnTab 91 6 z3y := lp_of (Γ := Γ6) tyTab_ok (FnL.ok fnTab_ok _ _) (LpL.ok lt6_ok) (SumL.ok tb6_ok _) mixed (fi := fi91) (by kernel_rfl) (by kernel_rfl) (by
  intro lo st out hp
  obtain ⟨hs, e1, e2, e3⟩ := lpT_inv hp
  clear hp
  obtain rfl : st = (St.mk [(0, (AV.v (TV.one (At.ptr 4 0 7)))), (4, (AV.v (TV.one (At.flt FloatKind.f32 (hvN (hGet hs 0)))))), (57, (AV.v (TV.one (At.int IntKind.i64 (hvI (hGet hs 1)))))), (58, (AV.v (TV.one (At.int IntKind.i64 (hvI (hGet hs 2))))))] [(Blk.mk Bool.false (Body.fl FloatKind.f32 (hvLn (hGet hs 3)))), (Blk.mk Bool.false (Body.fl FloatKind.f32 (hvLn (hGet hs 4)))), (Blk.mk Bool.false (Body.fl FloatKind.f32 (hvLn (hGet hs 5)))), (Blk.mk Bool.false (Body.fl FloatKind.f32 (hvLn (hGet hs 6)))), (Blk.mk Bool.false (Body.cells [(At.vw 0 0 (hvN (hGet hs 7)) 1), (At.vw 1 0 (hvN (hGet hs 8)) 1), (At.vw 2 0 (hvN (hGet hs 9)) 1), (At.vw 3 0 (hvN (hGet hs 10)) 3), (At.int IntKind.i64 (hvI (hGet hs 11))), (At.flt FloatKind.f32 (hvN (hGet hs 12))), (At.flt FloatKind.f32 (hvN (hGet hs 13)))]))]) := e2.trans (by kernel_rfl)
  clear e2
  subst e1
  unfold zgl at e3
  injection e3 with h1 h2
  subst h2
  exact ⟨8, 8, big, Eq.trans (zmf (hvI (hGet hs 1)) (hvLn (hGet hs 3)) (hvLn (hGet hs 4)) (hvLn (hGet hs 5)) (hvLn (hGet hs 6)) (hvN (hGet hs 7)) (hvN (hGet hs 8)) (hvN (hGet hs 9)) (hvN (hGet hs 10)) (hvI (hGet hs 11)) (hvN (hGet hs 12)) (hvN (hGet hs 13)) big (hvN (hGet hs 0)) (hvI (hGet hs 2))) (zmv (hvI (hGet hs 1)) (hvLn (hGet hs 3)) (hvLn (hGet hs 4)) (hvLn (hGet hs 5)) (hvLn (hGet hs 6)) (hvN (hGet hs 7)) (hvN (hGet hs 8)) (hvN (hGet hs 9)) (hvN (hGet hs 10)) (hvI (hGet hs 11)) (hvN (hGet hs 12)) (hvN (hGet hs 13)) (z58 (hvI (hGet hs 1)) (hvLn (hGet hs 6)) (hvN (hGet hs 10)) (hvN (hGet hs 13)) big (hvN (hGet hs 0)) (hvI (hGet hs 2))) h1)⟩)
noncomputable def tb7 : List (Nat × (List PT → Option (Bool × AV × List Blk))) := [(125, z1y), (128, z0k), (134, z11), (137, z1x), (18, z26), (44, z29), (48, z1o), (54, z2q), (61, z25), (63, z42), (66, z3o), (80, z1p), (82, z38), (84, z3n), (97, z2r), (109, z27), (121, z4i), (129, z4j), (14, z2h), (56, z3e), (83, z2j), (88, z0m), (89, z3s), (103, z2y), (105, z2i), (111, z3f), (114, z2x), (118, z1e), (122, z0u), (123, z3r), (37, z3j), (52, z22), (119, z23), (135, z4b), (16, z2v), (57, z2b), (86, z2d), (110, z1t), (130, z2a), (19, z34), (39, z3v), (62, z4g), (69, z2k), (85, z3u), (99, z0d), (99, z08), (30, z40), (99, z0h), (117, z0c), (117, z0f), (117, z05), (124, z4m)]
noncomputable def lt7 : List ((Nat × Nat) × (Nat → St → Option (Bool × LO))) := [((52, 3), z0x), ((57, 4), z12), ((86, 3), z13), ((110, 17), z0s), ((62, 5), z3h), ((69, 4), z19), ((99, 2), z03), ((99, 2), z01), ((99, 2), z09), ((124, 9), z43), ((91, 6), z3y)]
noncomputable def Γ7 : Ctx := ⟨tyTab, fnTab, tblSum tb7, tblLp lt7⟩
theorem tb7_ok : SumL Try.prog tb7 := SumL.cons z10 (SumL.cons z0i (SumL.cons z0r (SumL.cons z0z (SumL.cons z18 (SumL.cons z15 (SumL.cons z0y (SumL.cons z1n (SumL.cons z16 (SumL.cons z36 (SumL.cons z2o (SumL.cons z0w (SumL.cons z21 (SumL.cons z2m (SumL.cons z1m (SumL.cons z17 (SumL.cons z3x (SumL.cons z3w (SumL.cons z1h (SumL.cons z2e (SumL.cons z1f (SumL.cons z0j (SumL.cons z2t (SumL.cons z1v (SumL.cons z1g (SumL.cons z2c (SumL.cons z1u (SumL.cons z0v (SumL.cons z0n (SumL.cons z2s (SumL.cons z2l (SumL.cons z1b (SumL.cons z1a (SumL.cons z3i (SumL.cons z1w (SumL.cons z1j (SumL.cons z1i (SumL.cons z14 (SumL.cons z1k (SumL.cons z28 (SumL.cons z33 (SumL.cons z3t (SumL.cons z1q (SumL.cons z32 (SumL.cons z0b (SumL.cons z06 (SumL.cons z3b (SumL.cons z0g (SumL.cons z0a (SumL.cons z0e (SumL.cons z04 (SumL.cons z4e (SumL.nil))))))))))))))))))))))))))))))))))))))))))))))))))))
theorem lt7_ok : LpL Try.prog fnTab lt7 := LpL.cons z0o (LpL.cons z0p (LpL.cons z0q (LpL.cons z0l (LpL.cons z2g (LpL.cons z0t (LpL.cons z02 (LpL.cons z00 (LpL.cons z07 (LpL.cons z3a (LpL.cons z35 (LpL.nil)))))))))))
noncomputable def z4k : List PT → Option (Bool × AV × List Blk)
  | [.ptr [.row 1 q0m (.fl .f32 q0s), .row 1 q0p (.fl .f32 q0w), .row 1 q0q (.fl .f32 q0v), .row 3 q0x (.fl .f32 q15), .s (.int .i64 q1d), .s (.flt .f32 q1i), .s (.flt .f32 q1h)]] => some ((zg0 q0m q0s q0p q0w q0q q0v q0x q15 q1d q1i q1h), ((AV.v (TV.one (At.bool (zfs q0m q0s q0p q0w q0q q0v q0x q15 q1d q1i q1h)))), []))
  | _ => none
def zkf (q0m : Nat) (q0s : List Nat) (q0p : Nat) (q0w : List Nat) (q0q : Nat) (q0v : List Nat) (q0x : Nat) (q15 : List Nat) (q1d : Int) (q1i : Nat) (q1h : Nat) : Option (Bool) → Option (AV × List Blk)
  | some r => some ((AV.v (TV.one (At.bool r))), [])
  | none => none
theorem zno (q0m : Nat) (q0s : List Nat) (q0p : Nat) (q0w : List Nat) (q0q : Nat) (q0v : List Nat) (q0x : Nat) (q15 : List Nat) (q1d : Int) (q1i : Nat) (q1h : Nat) : evFn Γ7 8 8 91 (impTs 0 [.ptr [.row 1 q0m (.fl .f32 q0s), .row 1 q0p (.fl .f32 q0w), .row 1 q0q (.fl .f32 q0v), .row 3 q0x (.fl .f32 q15), .s (.int .i64 q1d), .s (.flt .f32 q1i), .s (.flt .f32 q1h)]]).1 (impTs 0 [.ptr [.row 1 q0m (.fl .f32 q0s), .row 1 q0p (.fl .f32 q0w), .row 1 q0q (.fl .f32 q0v), .row 3 q0x (.fl .f32 q15), .s (.int .i64 q1d), .s (.flt .f32 q1i), .s (.flt .f32 q1h)]]).2 (expo (impTs 0 [.ptr [.row 1 q0m (.fl .f32 q0s), .row 1 q0p (.fl .f32 q0w), .row 1 q0q (.fl .f32 q0v), .row 3 q0x (.fl .f32 q15), .s (.int .i64 q1d), .s (.flt .f32 q1i), .s (.flt .f32 q1h)]]).2.length) = zdt q0m q0s q0p q0w q0q q0v q0x q15 q1d q1i q1h (fun c0_ => some ((AV.v (TV.one (At.bool c0_))), [])) := by kernel_rfl
theorem z49 : SumOne Try.prog 91 z4k := sum_of (Γ := Γ7) (fuel := 8) (d := 8) tyTab_ok (FnL.ok fnTab_ok _ _) (LpL.ok lt7_ok) (SumL.ok tb7_ok _) mixed (by
  intro pts v news hp hc
  clear hc
  unfold z4k at hp
  split at hp
  · rename_i q0m q0s q0p q0w q0q q0v q0x q15 q1d q1i q1h
    exact Eq.trans (Eq.trans (zno q0m q0s q0p q0w q0q q0v q0x q15 q1d q1i q1h) (zly (zkf q0m q0s q0p q0w q0q q0v q0x q15 q1d q1i q1h) rfl q0m q0s q0p q0w q0q q0v q0x q15 q1d q1i q1h (fun c0_ => some c0_))) (fin_out (o := (zkf q0m q0s q0p q0w q0q q0v q0x q15 q1d q1i q1h)) (x := zdi q0m q0s q0p q0w q0q q0v q0x q15 q1d q1i q1h) (d := default) (V := fun r => ((AV.v (TV.one (At.bool r))), [])) (fun r => rfl) hp)
  · cases hp)
noncomputable def z3l : List PT → Option (Bool × AV × List Blk)
  | [.one (.row 1 q1n (.fl .f32 q25))] => some ((ze5 q1n q25), ((AV.v (TV.one (At.bool (zd1 q1n q25)))), []))
  | _ => none
def zhb (q1n : Nat) (q25 : List Nat) : Option (Bool) → Option (AV × List Blk)
  | some r => some ((AV.v (TV.one (At.bool r))), [])
  | none => none
theorem zlz (q1n : Nat) (q25 : List Nat) : evFn Γ7 8 8 95 (impTs 0 [.one (.row 1 q1n (.fl .f32 q25))]).1 (impTs 0 [.one (.row 1 q1n (.fl .f32 q25))]).2 (expo (impTs 0 [.one (.row 1 q1n (.fl .f32 q25))]).2.length) = z9p q1n q25 (fun c0_ => some ((AV.v (TV.one (At.bool c0_))), [])) := by kernel_rfl
theorem z30 : SumOne Try.prog 95 z3l := sum_of (Γ := Γ7) (fuel := 8) (d := 8) tyTab_ok (FnL.ok fnTab_ok _ _) (LpL.ok lt7_ok) (SumL.ok tb7_ok _) mixed (by
  intro pts v news hp hc
  clear hc
  unfold z3l at hp
  split at hp
  · rename_i q1n q25
    exact Eq.trans (Eq.trans (zlz q1n q25) (zjn (zhb q1n q25) rfl q1n q25 (fun c0_ => some c0_))) (fin_out (o := (zhb q1n q25)) (x := z9n q1n q25) (d := default) (V := fun r => ((AV.v (TV.one (At.bool r))), [])) (fun r => rfl) hp)
  · cases hp)
noncomputable def z3z : List PT → Option (Bool × AV × List Blk)
  | [.one (.row 1 q1n (.fl .f32 q25))] => some ((zet q1n q25), ((AV.v (TV.one (At.bool (ze3 q1n q25)))), []))
  | _ => none
def zhp (q1n : Nat) (q25 : List Nat) : Option (Bool) → Option (AV × List Blk)
  | some r => some ((AV.v (TV.one (At.bool r))), [])
  | none => none
theorem zmm (q1n : Nat) (q25 : List Nat) : evFn Γ7 8 8 96 (impTs 0 [.one (.row 1 q1n (.fl .f32 q25))]).1 (impTs 0 [.one (.row 1 q1n (.fl .f32 q25))]).2 (expo (impTs 0 [.one (.row 1 q1n (.fl .f32 q25))]).2.length) = za4 q1n q25 (fun c0_ => some ((AV.v (TV.one (At.bool c0_))), [])) := by kernel_rfl
theorem z3d : SumOne Try.prog 96 z3z := sum_of (Γ := Γ7) (fuel := 8) (d := 8) tyTab_ok (FnL.ok fnTab_ok _ _) (LpL.ok lt7_ok) (SumL.ok tb7_ok _) mixed (by
  intro pts v news hp hc
  clear hc
  unfold z3z at hp
  split at hp
  · rename_i q1n q25
    exact Eq.trans (Eq.trans (zmm q1n q25) (zk9 (zhp q1n q25) rfl q1n q25 (fun c0_ => some c0_))) (fin_out (o := (zhp q1n q25)) (x := za3 q1n q25) (d := default) (V := fun r => ((AV.v (TV.one (At.bool r))), [])) (fun r => rfl) hp)
  · cases hp)
noncomputable def z2w : List PT → Option (Bool × AV × List Blk)
  | [.one (.row 1 q1n (.fl .f32 q25))] => some ((z9t q1n q25), ((AV.v (TV.one (At.bool (z96 q1n q25)))), []))
  | _ => none
def zg9 (q1n : Nat) (q25 : List Nat) : Option (Bool) → Option (AV × List Blk)
  | some r => some ((AV.v (TV.one (At.bool r))), [])
  | none => none
theorem zke (q1n : Nat) (q25 : List Nat) : evFn Γ7 8 8 112 (impTs 0 [.one (.row 1 q1n (.fl .f32 q25))]).1 (impTs 0 [.one (.row 1 q1n (.fl .f32 q25))]).2 (expo (impTs 0 [.one (.row 1 q1n (.fl .f32 q25))]).2.length) = z7y q1n q25 (fun c0_ => some ((AV.v (TV.one (At.bool c0_))), [])) := by kernel_rfl
theorem z24 : SumOne Try.prog 112 z2w := sum_of (Γ := Γ7) (fuel := 8) (d := 8) tyTab_ok (FnL.ok fnTab_ok _ _) (LpL.ok lt7_ok) (SumL.ok tb7_ok _) mixed (by
  intro pts v news hp hc
  clear hc
  unfold z2w at hp
  split at hp
  · rename_i q1n q25
    exact Eq.trans (Eq.trans (zke q1n q25) (zi5 (zg9 q1n q25) rfl q1n q25 (fun c0_ => some c0_))) (fin_out (o := (zg9 q1n q25)) (x := z76 q1n q25) (d := default) (V := fun r => ((AV.v (TV.one (At.bool r))), [])) (fun r => rfl) hp)
  · cases hp)
noncomputable def z3m : List PT → Option (Bool × AV × List Blk)
  | [.one (.s (.flt .f32 x))] => some ((zec x), ((AV.v (TV.one (At.flt FloatKind.f32 (zd2 x)))), []))
  | _ => none
def zh7 (x : Nat) : Option (Nat) → Option (AV × List Blk)
  | some r => some ((AV.v (TV.one (At.flt FloatKind.f32 r))), [])
  | none => none
theorem zm3 (x : Nat) : evFn Γ7 8 8 113 (impTs 0 [.one (.s (.flt .f32 x))]).1 (impTs 0 [.one (.s (.flt .f32 x))]).2 (expo (impTs 0 [.one (.s (.flt .f32 x))]).2.length) = z9c x (fun c0_ => some ((AV.v (TV.one (At.flt FloatKind.f32 c0_))), [])) := by kernel_rfl
theorem z31 : SumOne Try.prog 113 z3m := sum_of (Γ := Γ7) (fuel := 8) (d := 8) tyTab_ok (FnL.ok fnTab_ok _ _) (LpL.ok lt7_ok) (SumL.ok tb7_ok _) mixed (by
  intro pts v news hp hc
  clear hc
  unfold z3m at hp
  split at hp
  · rename_i x
    exact Eq.trans (Eq.trans (zm3 x) (zjr (zh7 x) rfl x (fun c0_ => some c0_))) (fin_out (o := (zh7 x)) (x := z9h x) (d := default) (V := fun r => ((AV.v (TV.one (At.flt FloatKind.f32 r))), [])) (fun r => rfl) hp)
  · cases hp)
noncomputable def tb8 : List (Nat × (List PT → Option (Bool × AV × List Blk))) := [(125, z1y), (128, z0k), (134, z11), (137, z1x), (18, z26), (44, z29), (48, z1o), (54, z2q), (61, z25), (63, z42), (66, z3o), (80, z1p), (82, z38), (84, z3n), (97, z2r), (109, z27), (121, z4i), (129, z4j), (14, z2h), (56, z3e), (83, z2j), (88, z0m), (89, z3s), (103, z2y), (105, z2i), (111, z3f), (114, z2x), (118, z1e), (122, z0u), (123, z3r), (37, z3j), (52, z22), (119, z23), (135, z4b), (16, z2v), (57, z2b), (86, z2d), (110, z1t), (130, z2a), (19, z34), (39, z3v), (62, z4g), (69, z2k), (85, z3u), (99, z0d), (99, z08), (30, z40), (99, z0h), (117, z0c), (117, z0f), (117, z05), (124, z4m), (91, z4k), (95, z3l), (96, z3z), (112, z2w), (113, z3m)]
noncomputable def lt8 : List ((Nat × Nat) × (Nat → St → Option (Bool × LO))) := [((52, 3), z0x), ((57, 4), z12), ((86, 3), z13), ((110, 17), z0s), ((62, 5), z3h), ((69, 4), z19), ((99, 2), z03), ((99, 2), z01), ((99, 2), z09), ((124, 9), z43), ((91, 6), z3y)]
noncomputable def Γ8 : Ctx := ⟨tyTab, fnTab, tblSum tb8, tblLp lt8⟩
theorem tb8_ok : SumL Try.prog tb8 := SumL.cons z10 (SumL.cons z0i (SumL.cons z0r (SumL.cons z0z (SumL.cons z18 (SumL.cons z15 (SumL.cons z0y (SumL.cons z1n (SumL.cons z16 (SumL.cons z36 (SumL.cons z2o (SumL.cons z0w (SumL.cons z21 (SumL.cons z2m (SumL.cons z1m (SumL.cons z17 (SumL.cons z3x (SumL.cons z3w (SumL.cons z1h (SumL.cons z2e (SumL.cons z1f (SumL.cons z0j (SumL.cons z2t (SumL.cons z1v (SumL.cons z1g (SumL.cons z2c (SumL.cons z1u (SumL.cons z0v (SumL.cons z0n (SumL.cons z2s (SumL.cons z2l (SumL.cons z1b (SumL.cons z1a (SumL.cons z3i (SumL.cons z1w (SumL.cons z1j (SumL.cons z1i (SumL.cons z14 (SumL.cons z1k (SumL.cons z28 (SumL.cons z33 (SumL.cons z3t (SumL.cons z1q (SumL.cons z32 (SumL.cons z0b (SumL.cons z06 (SumL.cons z3b (SumL.cons z0g (SumL.cons z0a (SumL.cons z0e (SumL.cons z04 (SumL.cons z4e (SumL.cons z49 (SumL.cons z30 (SumL.cons z3d (SumL.cons z24 (SumL.cons z31 (SumL.nil)))))))))))))))))))))))))))))))))))))))))))))))))))))))))
theorem lt8_ok : LpL Try.prog fnTab lt8 := LpL.cons z0o (LpL.cons z0p (LpL.cons z0q (LpL.cons z0l (LpL.cons z2g (LpL.cons z0t (LpL.cons z02 (LpL.cons z00 (LpL.cons z07 (LpL.cons z3a (LpL.cons z35 (LpL.nil)))))))))))
noncomputable def z3g : List PT → Option (Bool × AV × List Blk)
  | [.ptr [.row 1 q04 (.fl .f32 q07), .row 1 q06 (.fl .f32 q0a), .row 1 q05 (.fl .f32 q09), .row 3 q0d (.fl .f32 q0i), .s (.int .i64 q0r), .s (.flt .f32 q18), .s (.flt .f32 q14)], .one (.s (.int .i64 i))] => some ((zcq q04 q07 q06 q0a q05 q09 q0d q0i q0r q18 q14 i), ((AV.v (TV.one (At.bool (zcb q04 q07 q06 q0a q05 q09 q0d q0i q0r q18 q14 i)))), []))
  | _ => none
def zgg (q04 : Nat) (q07 : List Nat) (q06 : Nat) (q0a : List Nat) (q05 : Nat) (q09 : List Nat) (q0d : Nat) (q0i : List Nat) (q0r : Int) (q18 : Nat) (q14 : Nat) (i : Int) : Option (Bool) → Option (AV × List Blk)
  | some r => some ((AV.v (TV.one (At.bool r))), [])
  | none => none
theorem zl2 (q04 : Nat) (q07 : List Nat) (q06 : Nat) (q0a : List Nat) (q05 : Nat) (q09 : List Nat) (q0d : Nat) (q0i : List Nat) (q0r : Int) (q18 : Nat) (q14 : Nat) (i : Int) : evFn Γ8 8 8 81 (impTs 0 [.ptr [.row 1 q04 (.fl .f32 q07), .row 1 q06 (.fl .f32 q0a), .row 1 q05 (.fl .f32 q09), .row 3 q0d (.fl .f32 q0i), .s (.int .i64 q0r), .s (.flt .f32 q18), .s (.flt .f32 q14)], .one (.s (.int .i64 i))]).1 (impTs 0 [.ptr [.row 1 q04 (.fl .f32 q07), .row 1 q06 (.fl .f32 q0a), .row 1 q05 (.fl .f32 q09), .row 3 q0d (.fl .f32 q0i), .s (.int .i64 q0r), .s (.flt .f32 q18), .s (.flt .f32 q14)], .one (.s (.int .i64 i))]).2 (expo (impTs 0 [.ptr [.row 1 q04 (.fl .f32 q07), .row 1 q06 (.fl .f32 q0a), .row 1 q05 (.fl .f32 q09), .row 3 q0d (.fl .f32 q0i), .s (.int .i64 q0r), .s (.flt .f32 q18), .s (.flt .f32 q14)], .one (.s (.int .i64 i))]).2.length) = z90 q04 q07 q06 q0a q05 q09 q0d q0i q0r q18 q14 i (fun c0_ => some ((AV.v (TV.one (At.bool c0_))), [])) := by kernel_rfl
theorem z2u : SumOne Try.prog 81 z3g := sum_of (Γ := Γ8) (fuel := 8) (d := 8) tyTab_ok (FnL.ok fnTab_ok _ _) (LpL.ok lt8_ok) (SumL.ok tb8_ok _) mixed (by
  intro pts v news hp hc
  clear hc
  unfold z3g at hp
  split at hp
  · rename_i q04 q07 q06 q0a q05 q09 q0d q0i q0r q18 q14 i
    exact Eq.trans (Eq.trans (zl2 q04 q07 q06 q0a q05 q09 q0d q0i q0r q18 q14 i) (zik (zgg q04 q07 q06 q0a q05 q09 q0d q0i q0r q18 q14 i) rfl q04 q07 q06 q0a q05 q09 q0d q0i q0r q18 q14 i (fun c0_ => some c0_))) (fin_out (o := (zgg q04 q07 q06 q0a q05 q09 q0d q0i q0r q18 q14 i)) (x := z8h q04 q07 q06 q0a q05 q09 q0d q0i q0r q18 q14 i) (d := default) (V := fun r => ((AV.v (TV.one (At.bool r))), [])) (fun r => rfl) hp)
  · cases hp)
noncomputable def z1s : List PT → Option (Bool × AV × List Blk)
  | [.agg [.row 1 q04 (.fl .f32 q07), .row 1 q06 (.fl .f32 q0a), .row 1 q05 (.fl .f32 q09), .row 3 q0d (.fl .f32 q0i), .s (.int .i64 q0r), .s (.flt .f32 q18), .s (.flt .f32 q14)], .one (.s (.int .i64 i)), .one (.s (.flt .f32 q1o))] => some ((za1 q04 q07 q06 q0a q05 q09 q0d q0i q0r q18 q14 i q1o), ((AV.v (TV.one (At.flt FloatKind.f32 (z6x q04 q07 q06 q0a q05 q09 q0d q0i q0r q18 q14 i q1o)))), []))
  | _ => none
def zfw (q04 : Nat) (q07 : List Nat) (q06 : Nat) (q0a : List Nat) (q05 : Nat) (q09 : List Nat) (q0d : Nat) (q0i : List Nat) (q0r : Int) (q18 : Nat) (q14 : Nat) (i : Int) (q1o : Nat) : Option (Nat) → Option (AV × List Blk)
  | some r => some ((AV.v (TV.one (At.flt FloatKind.f32 r))), [])
  | none => none
theorem ziu (q04 : Nat) (q07 : List Nat) (q06 : Nat) (q0a : List Nat) (q05 : Nat) (q09 : List Nat) (q0d : Nat) (q0i : List Nat) (q0r : Int) (q18 : Nat) (q14 : Nat) (i : Int) (q1o : Nat) : evFn Γ8 8 8 90 (impTs 0 [.agg [.row 1 q04 (.fl .f32 q07), .row 1 q06 (.fl .f32 q0a), .row 1 q05 (.fl .f32 q09), .row 3 q0d (.fl .f32 q0i), .s (.int .i64 q0r), .s (.flt .f32 q18), .s (.flt .f32 q14)], .one (.s (.int .i64 i)), .one (.s (.flt .f32 q1o))]).1 (impTs 0 [.agg [.row 1 q04 (.fl .f32 q07), .row 1 q06 (.fl .f32 q0a), .row 1 q05 (.fl .f32 q09), .row 3 q0d (.fl .f32 q0i), .s (.int .i64 q0r), .s (.flt .f32 q18), .s (.flt .f32 q14)], .one (.s (.int .i64 i)), .one (.s (.flt .f32 q1o))]).2 (expo (impTs 0 [.agg [.row 1 q04 (.fl .f32 q07), .row 1 q06 (.fl .f32 q0a), .row 1 q05 (.fl .f32 q09), .row 3 q0d (.fl .f32 q0i), .s (.int .i64 q0r), .s (.flt .f32 q18), .s (.flt .f32 q14)], .one (.s (.int .i64 i)), .one (.s (.flt .f32 q1o))]).2.length) = z73 q04 q07 q06 q0a q05 q09 q0d q0i q0r q18 q14 i q1o (fun c0_ => some ((AV.v (TV.one (At.flt FloatKind.f32 c0_))), [])) := by kernel_rfl
theorem z1d : SumOne Try.prog 90 z1s := sum_of (Γ := Γ8) (fuel := 8) (d := 8) tyTab_ok (FnL.ok fnTab_ok _ _) (LpL.ok lt8_ok) (SumL.ok tb8_ok _) mixed (by
  intro pts v news hp hc
  clear hc
  unfold z1s at hp
  split at hp
  · rename_i q04 q07 q06 q0a q05 q09 q0d q0i q0r q18 q14 i q1o
    exact Eq.trans (Eq.trans (ziu q04 q07 q06 q0a q05 q09 q0d q0i q0r q18 q14 i q1o) (zgv (zfw q04 q07 q06 q0a q05 q09 q0d q0i q0r q18 q14 i q1o) rfl q04 q07 q06 q0a q05 q09 q0d q0i q0r q18 q14 i q1o (fun c0_ => some c0_))) (fin_out (o := (zfw q04 q07 q06 q0a q05 q09 q0d q0i q0r q18 q14 i q1o)) (x := z72 q04 q07 q06 q0a q05 q09 q0d q0i q0r q18 q14 i q1o) (d := default) (V := fun r => ((AV.v (TV.one (At.flt FloatKind.f32 r))), [])) (fun r => rfl) hp)
  · cases hp)
noncomputable def tb9 : List (Nat × (List PT → Option (Bool × AV × List Blk))) := [(125, z1y), (128, z0k), (134, z11), (137, z1x), (18, z26), (44, z29), (48, z1o), (54, z2q), (61, z25), (63, z42), (66, z3o), (80, z1p), (82, z38), (84, z3n), (97, z2r), (109, z27), (121, z4i), (129, z4j), (14, z2h), (56, z3e), (83, z2j), (88, z0m), (89, z3s), (103, z2y), (105, z2i), (111, z3f), (114, z2x), (118, z1e), (122, z0u), (123, z3r), (37, z3j), (52, z22), (119, z23), (135, z4b), (16, z2v), (57, z2b), (86, z2d), (110, z1t), (130, z2a), (19, z34), (39, z3v), (62, z4g), (69, z2k), (85, z3u), (99, z0d), (99, z08), (30, z40), (99, z0h), (117, z0c), (117, z0f), (117, z05), (124, z4m), (91, z4k), (95, z3l), (96, z3z), (112, z2w), (113, z3m), (81, z3g), (90, z1s)]
noncomputable def lt9 : List ((Nat × Nat) × (Nat → St → Option (Bool × LO))) := [((52, 3), z0x), ((57, 4), z12), ((86, 3), z13), ((110, 17), z0s), ((62, 5), z3h), ((69, 4), z19), ((99, 2), z03), ((99, 2), z01), ((99, 2), z09), ((124, 9), z43), ((91, 6), z3y)]
noncomputable def Γ9 : Ctx := ⟨tyTab, fnTab, tblSum tb9, tblLp lt9⟩
theorem tb9_ok : SumL Try.prog tb9 := SumL.cons z10 (SumL.cons z0i (SumL.cons z0r (SumL.cons z0z (SumL.cons z18 (SumL.cons z15 (SumL.cons z0y (SumL.cons z1n (SumL.cons z16 (SumL.cons z36 (SumL.cons z2o (SumL.cons z0w (SumL.cons z21 (SumL.cons z2m (SumL.cons z1m (SumL.cons z17 (SumL.cons z3x (SumL.cons z3w (SumL.cons z1h (SumL.cons z2e (SumL.cons z1f (SumL.cons z0j (SumL.cons z2t (SumL.cons z1v (SumL.cons z1g (SumL.cons z2c (SumL.cons z1u (SumL.cons z0v (SumL.cons z0n (SumL.cons z2s (SumL.cons z2l (SumL.cons z1b (SumL.cons z1a (SumL.cons z3i (SumL.cons z1w (SumL.cons z1j (SumL.cons z1i (SumL.cons z14 (SumL.cons z1k (SumL.cons z28 (SumL.cons z33 (SumL.cons z3t (SumL.cons z1q (SumL.cons z32 (SumL.cons z0b (SumL.cons z06 (SumL.cons z3b (SumL.cons z0g (SumL.cons z0a (SumL.cons z0e (SumL.cons z04 (SumL.cons z4e (SumL.cons z49 (SumL.cons z30 (SumL.cons z3d (SumL.cons z24 (SumL.cons z31 (SumL.cons z2u (SumL.cons z1d (SumL.nil)))))))))))))))))))))))))))))))))))))))))))))))))))))))))))
theorem lt9_ok : LpL Try.prog fnTab lt9 := LpL.cons z0o (LpL.cons z0p (LpL.cons z0q (LpL.cons z0l (LpL.cons z2g (LpL.cons z0t (LpL.cons z02 (LpL.cons z00 (LpL.cons z07 (LpL.cons z3a (LpL.cons z35 (LpL.nil)))))))))))
noncomputable def z3p : List PT → Option (Bool × AV × List Blk)
  | [.agg [.row 1 q04 (.fl .f32 q07), .row 1 q06 (.fl .f32 q0a), .row 1 q05 (.fl .f32 q09), .row 3 q0d (.fl .f32 q0i), .s (.int .i64 q0r), .s (.flt .f32 q18), .s (.flt .f32 q14)], .one (.s (.int .i64 i)), .one (.s (.flt .f32 q1o))] => some ((zd3 q04 q07 q06 q0a q05 q09 q0d q0i q0r q18 q14 i q1o), ((AV.tup [(TV.one (At.flt FloatKind.f32 (z9u q04 q07 q06 q0a q05 q09 q0d q0i q0r q18 q14 i q1o))), (TV.one (At.bool (zc2 q04 q07 q06 q0a q05 q09 q0d q0i q0r q18 q14 i q1o)))]), []))
  | _ => none
def zgh (q04 : Nat) (q07 : List Nat) (q06 : Nat) (q0a : List Nat) (q05 : Nat) (q09 : List Nat) (q0d : Nat) (q0i : List Nat) (q0r : Int) (q18 : Nat) (q14 : Nat) (i : Int) (q1o : Nat) : Option (Nat × Bool) → Option (AV × List Blk)
  | some r => some ((AV.tup [(TV.one (At.flt FloatKind.f32 r.1)), (TV.one (At.bool r.2))]), [])
  | none => none
theorem zl4 (q04 : Nat) (q07 : List Nat) (q06 : Nat) (q0a : List Nat) (q05 : Nat) (q09 : List Nat) (q0d : Nat) (q0i : List Nat) (q0r : Int) (q18 : Nat) (q14 : Nat) (i : Int) (q1o : Nat) : evFn Γ9 8 8 38 (impTs 0 [.agg [.row 1 q04 (.fl .f32 q07), .row 1 q06 (.fl .f32 q0a), .row 1 q05 (.fl .f32 q09), .row 3 q0d (.fl .f32 q0i), .s (.int .i64 q0r), .s (.flt .f32 q18), .s (.flt .f32 q14)], .one (.s (.int .i64 i)), .one (.s (.flt .f32 q1o))]).1 (impTs 0 [.agg [.row 1 q04 (.fl .f32 q07), .row 1 q06 (.fl .f32 q0a), .row 1 q05 (.fl .f32 q09), .row 3 q0d (.fl .f32 q0i), .s (.int .i64 q0r), .s (.flt .f32 q18), .s (.flt .f32 q14)], .one (.s (.int .i64 i)), .one (.s (.flt .f32 q1o))]).2 (expo (impTs 0 [.agg [.row 1 q04 (.fl .f32 q07), .row 1 q06 (.fl .f32 q0a), .row 1 q05 (.fl .f32 q09), .row 3 q0d (.fl .f32 q0i), .s (.int .i64 q0r), .s (.flt .f32 q18), .s (.flt .f32 q14)], .one (.s (.int .i64 i)), .one (.s (.flt .f32 q1o))]).2.length) = z8f q04 q07 q06 q0a q05 q09 q0d q0i q0r q18 q14 i q1o (fun c0_ c1_ => some ((AV.tup [(TV.one (At.flt FloatKind.f32 c0_)), (TV.one (At.bool c1_))]), [])) := by kernel_rfl
theorem z37 : SumOne Try.prog 38 z3p := sum_of (Γ := Γ9) (fuel := 8) (d := 8) tyTab_ok (FnL.ok fnTab_ok _ _) (LpL.ok lt9_ok) (SumL.ok tb9_ok _) mixed (by
  intro pts v news hp hc
  clear hc
  unfold z3p at hp
  split at hp
  · rename_i q04 q07 q06 q0a q05 q09 q0d q0i q0r q18 q14 i q1o
    exact Eq.trans (Eq.trans (zl4 q04 q07 q06 q0a q05 q09 q0d q0i q0r q18 q14 i q1o) (zin (zgh q04 q07 q06 q0a q05 q09 q0d q0i q0r q18 q14 i q1o) rfl q04 q07 q06 q0a q05 q09 q0d q0i q0r q18 q14 i q1o (fun c0_ c1_ => some (c0_, c1_)))) (fin_out (o := (zgh q04 q07 q06 q0a q05 q09 q0d q0i q0r q18 q14 i q1o)) (x := z7j q04 q07 q06 q0a q05 q09 q0d q0i q0r q18 q14 i q1o) (d := default) (V := fun r => ((AV.tup [(TV.one (At.flt FloatKind.f32 r.1)), (TV.one (At.bool r.2))]), [])) (fun r => rfl) hp)
  · cases hp)
noncomputable def zf2 (q2e : Nat) (t43 : Int) (t44 : Int) (b0 : List Nat) (b1 : List Nat) (b2 : List Nat) (q1j : Nat) (q20 : Nat) (q21 : Nat) : Bool × LO := ((z6o q2e t43 b0 q1j t44), (LO.two (z6h q2e t43 b0 q1j t44) (LO.one Ex.ret (St.mk [(2, (AV.v (TV.one (At.bool Bool.false))))] [(Blk.mk Bool.false (Body.fl FloatKind.f32 b0)), (Blk.mk Bool.false (Body.fl FloatKind.f32 b1)), (Blk.mk Bool.false (Body.fl FloatKind.f32 b2))])) (LO.one (Ex.exit 0) (St.mk [(1, (AV.v (TV.one (At.ptr 3 0 3)))), (42, (AV.v (TV.one (At.vw 0 0 q2e 1)))), (43, (AV.v (TV.one (At.int IntKind.i64 t43)))), (44, (AV.v (TV.one (At.int IntKind.i64 (zai q2e t43 b0 q1j t44))))), (45, (AV.v (TV.one (At.bool (zac q2e t43 b0 q1j t44)))))] [(Blk.mk Bool.false (Body.fl FloatKind.f32 b0)), (Blk.mk Bool.false (Body.fl FloatKind.f32 b1)), (Blk.mk Bool.false (Body.fl FloatKind.f32 b2)), (Blk.mk Bool.true (Body.cells [(At.vw 0 0 q1j 1), (At.vw 1 0 q20 1), (At.vw 2 0 q21 1)]))]))))
noncomputable def z1z : Nat → St → Option (Bool × LO) := lpT 3 (pSt [(pTm 1 (pV (pOne (pPtr 3 (liN 0) 3)))), (pTm 42 (pV (pOne (pVw 0 (liN 0) 1)))), (pTm 43 (pV (pOne (pInt IntKind.i64)))), (pTm 44 (pV (pOne (pInt IntKind.i64))))] [(pBlk Bool.false (pFl FloatKind.f32)), (pBlk Bool.false (pFl FloatKind.f32)), (pBlk Bool.false (pFl FloatKind.f32)), (pBlk Bool.true (pCells [(pVw 0 (liN 0) 1), (pVw 1 (liN 0) 1), (pVw 2 (liN 0) 1)]))]) (fun hs => zf2 (hvN (hGet hs 0)) (hvI (hGet hs 1)) (hvI (hGet hs 2)) (hvLn (hGet hs 3)) (hvLn (hGet hs 4)) (hvLn (hGet hs 5)) (hvN (hGet hs 6)) (hvN (hGet hs 7)) (hvN (hGet hs 8)))
def z7q (q2e : Nat) (t43 : Int) (b0 : List Nat) (b1 : List Nat) (b2 : List Nat) (q1j : Nat) (q20 : Nat) (q21 : Nat) : Option ((Unit) ⊕ (Int × Bool)) → Option (Ex × St)
  | none => none
  | some (Sum.inl r) => some (Ex.ret, (St.mk [(2, (AV.v (TV.one (At.bool Bool.false))))] [(Blk.mk Bool.false (Body.fl FloatKind.f32 b0)), (Blk.mk Bool.false (Body.fl FloatKind.f32 b1)), (Blk.mk Bool.false (Body.fl FloatKind.f32 b2))]))
  | some (Sum.inr r) => some ((Ex.exit 0), (St.mk [(1, (AV.v (TV.one (At.ptr 3 0 3)))), (42, (AV.v (TV.one (At.vw 0 0 q2e 1)))), (43, (AV.v (TV.one (At.int IntKind.i64 t43)))), (44, (AV.v (TV.one (At.int IntKind.i64 r.1)))), (45, (AV.v (TV.one (At.bool r.2))))] [(Blk.mk Bool.false (Body.fl FloatKind.f32 b0)), (Blk.mk Bool.false (Body.fl FloatKind.f32 b1)), (Blk.mk Bool.false (Body.fl FloatKind.f32 b2)), (Blk.mk Bool.true (Body.cells [(At.vw 0 0 q1j 1), (At.vw 1 0 q20 1), (At.vw 2 0 q21 1)]))]))
def zhl (q2e : Nat) (t43 : Int) (b0 : List Nat) (b1 : List Nat) (b2 : List Nat) (q1j : Nat) (q20 : Nat) (q21 : Nat) (x : Option ((Unit) ⊕ (Int × Bool))) : LO := (LO.two (oL x) (LO.one Ex.ret (St.mk [(2, (AV.v (TV.one (At.bool Bool.false))))] [(Blk.mk Bool.false (Body.fl FloatKind.f32 b0)), (Blk.mk Bool.false (Body.fl FloatKind.f32 b1)), (Blk.mk Bool.false (Body.fl FloatKind.f32 b2))])) (LO.one (Ex.exit 0) (St.mk [(1, (AV.v (TV.one (At.ptr 3 0 3)))), (42, (AV.v (TV.one (At.vw 0 0 q2e 1)))), (43, (AV.v (TV.one (At.int IntKind.i64 t43)))), (44, (AV.v (TV.one (At.int IntKind.i64 ((tR x).getD default).1)))), (45, (AV.v (TV.one (At.bool ((tR x).getD default).2))))] [(Blk.mk Bool.false (Body.fl FloatKind.f32 b0)), (Blk.mk Bool.false (Body.fl FloatKind.f32 b1)), (Blk.mk Bool.false (Body.fl FloatKind.f32 b2)), (Blk.mk Bool.true (Body.cells [(At.vw 0 0 q1j 1), (At.vw 1 0 q20 1), (At.vw 2 0 q21 1)]))])))
theorem zia (q2e : Nat) (t43 : Int) (b0 : List Nat) (b1 : List Nat) (b2 : List Nat) (q1j : Nat) (q20 : Nat) (q21 : Nat) : ∀ x : Option ((Unit) ⊕ (Int × Bool)), x.isSome = true → (z7q q2e t43 b0 b1 b2 q1j q20 q21) x = some (pick (zhl q2e t43 b0 b1 b2 q1j q20 q21 x))
  | none, h => by cases h
  | some (Sum.inl r), _ => rfl
  | some (Sum.inr r), _ => rfl
theorem zi2 (q2e : Nat) (t43 : Int) (t44 : Int) (b0 : List Nat) (b1 : List Nat) (b2 : List Nat) (q1j : Nat) (q20 : Nat) (q21 : Nat) (K : Ex → St → Option (Ex × St)) : evC (R := Ex × St) Γ9 (evFn Γ9 8 8) 53 3 fi53.nt fi53.live fi53.nl 8 (findL 5 (loopsIn fi53.code)) (St.mk [(1, (AV.v (TV.one (At.ptr 3 0 3)))), (42, (AV.v (TV.one (At.vw 0 0 q2e 1)))), (43, (AV.v (TV.one (At.int IntKind.i64 t43)))), (44, (AV.v (TV.one (At.int IntKind.i64 t44))))] [(Blk.mk Bool.false (Body.fl FloatKind.f32 b0)), (Blk.mk Bool.false (Body.fl FloatKind.f32 b1)), (Blk.mk Bool.false (Body.fl FloatKind.f32 b2)), (Blk.mk Bool.true (Body.cells [(At.vw 0 0 q1j 1), (At.vw 1 0 q20 1), (At.vw 2 0 q21 1)]))]) K = z5s q2e t43 b0 q1j t44 (fun t44' => K .normal (St.mk [(1, (AV.v (TV.one (At.ptr 3 0 3)))), (42, (AV.v (TV.one (At.vw 0 0 q2e 1)))), (43, (AV.v (TV.one (At.int IntKind.i64 t43)))), (44, (AV.v (TV.one (At.int IntKind.i64 t44'))))] [(Blk.mk Bool.false (Body.fl FloatKind.f32 b0)), (Blk.mk Bool.false (Body.fl FloatKind.f32 b1)), (Blk.mk Bool.false (Body.fl FloatKind.f32 b2)), (Blk.mk Bool.true (Body.cells [(At.vw 0 0 q1j 1), (At.vw 1 0 q20 1), (At.vw 2 0 q21 1)]))])) (fun _ => K Ex.ret (St.mk [(2, (AV.v (TV.one (At.bool Bool.false))))] [(Blk.mk Bool.false (Body.fl FloatKind.f32 b0)), (Blk.mk Bool.false (Body.fl FloatKind.f32 b1)), (Blk.mk Bool.false (Body.fl FloatKind.f32 b2))])) (fun c0_ c1_ => K (Ex.exit 0) (St.mk [(1, (AV.v (TV.one (At.ptr 3 0 3)))), (42, (AV.v (TV.one (At.vw 0 0 q2e 1)))), (43, (AV.v (TV.one (At.int IntKind.i64 t43)))), (44, (AV.v (TV.one (At.int IntKind.i64 c0_)))), (45, (AV.v (TV.one (At.bool c1_))))] [(Blk.mk Bool.false (Body.fl FloatKind.f32 b0)), (Blk.mk Bool.false (Body.fl FloatKind.f32 b1)), (Blk.mk Bool.false (Body.fl FloatKind.f32 b2)), (Blk.mk Bool.true (Body.cells [(At.vw 0 0 q1j 1), (At.vw 1 0 q20 1), (At.vw 2 0 q21 1)]))])) := by kernel_rfl
theorem zi4 (q2e : Nat) (t43 : Int) (b0 : List Nat) (b1 : List Nat) (b2 : List Nat) (q1j : Nat) (q20 : Nat) (q21 : Nat) : ∀ (n : Nat) (t44 : Int), iter 53 5 3 (evC (R := Ex × St) Γ9 (evFn Γ9 8 8) 53 3 fi53.nt fi53.live fi53.nl 8 (findL 5 (loopsIn fi53.code))) n (St.mk [(1, (AV.v (TV.one (At.ptr 3 0 3)))), (42, (AV.v (TV.one (At.vw 0 0 q2e 1)))), (43, (AV.v (TV.one (At.int IntKind.i64 t43)))), (44, (AV.v (TV.one (At.int IntKind.i64 t44))))] [(Blk.mk Bool.false (Body.fl FloatKind.f32 b0)), (Blk.mk Bool.false (Body.fl FloatKind.f32 b1)), (Blk.mk Bool.false (Body.fl FloatKind.f32 b2)), (Blk.mk Bool.true (Body.cells [(At.vw 0 0 q1j 1), (At.vw 1 0 q20 1), (At.vw 2 0 q21 1)]))]) (fun e st => some (e, st)) = (z7q q2e t43 b0 b1 b2 q1j q20 q21) (z4t q2e t43 b0 q1j n t44) := by
  intro n
  induction n with
  | zero => intros; rfl
  | succ n ih =>
    intro t44
    refine Eq.trans (iter_succ ..) (Eq.trans (zi2 q2e t43 t44 b0 b1 b2 q1j q20 q21 (nextK 53 5 3 (evC (R := Ex × St) Γ9 (evFn Γ9 8 8) 53 3 fi53.nt fi53.live fi53.nl 8 (findL 5 (loopsIn fi53.code))) n (fun e st => some (e, st)))) (Eq.trans ?_ (zge (z7q q2e t43 b0 b1 b2 q1j q20 q21) rfl q2e t43 b0 q1j t44 (fun t44' => z4t q2e t43 b0 q1j n t44') (fun _ => some (Sum.inl ())) (fun c0_ c1_ => some (Sum.inr (c0_, c1_))))))
    exact congrArg (fun kn_ => z5s q2e t43 b0 q1j t44 kn_ (fun _ => (z7q q2e t43 b0 b1 b2 q1j q20 q21) (some (Sum.inl ()))) (fun c0_ c1_ => (z7q q2e t43 b0 b1 b2 q1j q20 q21) (some (Sum.inr (c0_, c1_))))) (funext fun t44' => ih t44')
theorem z1c : LoopOne Try.prog fnTab 53 5 z1z := lp_of (Γ := Γ9) tyTab_ok (FnL.ok fnTab_ok _ _) (LpL.ok lt9_ok) (SumL.ok tb9_ok _) mixed (fi := fi53) (by kernel_rfl) (by kernel_rfl) (by
  intro lo st out hp
  obtain ⟨hs, e1, e2, e3⟩ := lpT_inv hp
  clear hp
  obtain rfl : st = (St.mk [(1, (AV.v (TV.one (At.ptr 3 0 3)))), (42, (AV.v (TV.one (At.vw 0 0 (hvN (hGet hs 0)) 1)))), (43, (AV.v (TV.one (At.int IntKind.i64 (hvI (hGet hs 1)))))), (44, (AV.v (TV.one (At.int IntKind.i64 (hvI (hGet hs 2))))))] [(Blk.mk Bool.false (Body.fl FloatKind.f32 (hvLn (hGet hs 3)))), (Blk.mk Bool.false (Body.fl FloatKind.f32 (hvLn (hGet hs 4)))), (Blk.mk Bool.false (Body.fl FloatKind.f32 (hvLn (hGet hs 5)))), (Blk.mk Bool.true (Body.cells [(At.vw 0 0 (hvN (hGet hs 6)) 1), (At.vw 1 0 (hvN (hGet hs 7)) 1), (At.vw 2 0 (hvN (hGet hs 8)) 1)]))]) := e2.trans (by kernel_rfl)
  clear e2
  subst e1
  unfold zf2 at e3
  injection e3 with h1 h2
  subst h2
  exact ⟨8, 8, big, Eq.trans (zi4 (hvN (hGet hs 0)) (hvI (hGet hs 1)) (hvLn (hGet hs 3)) (hvLn (hGet hs 4)) (hvLn (hGet hs 5)) (hvN (hGet hs 6)) (hvN (hGet hs 7)) (hvN (hGet hs 8)) big (hvI (hGet hs 2))) (zia (hvN (hGet hs 0)) (hvI (hGet hs 1)) (hvLn (hGet hs 3)) (hvLn (hGet hs 4)) (hvLn (hGet hs 5)) (hvN (hGet hs 6)) (hvN (hGet hs 7)) (hvN (hGet hs 8)) (z4t (hvN (hGet hs 0)) (hvI (hGet hs 1)) (hvLn (hGet hs 3)) (hvN (hGet hs 6)) big (hvI (hGet hs 2))) h1)⟩)
noncomputable def tb10 : List (Nat × (List PT → Option (Bool × AV × List Blk))) := [(125, z1y), (128, z0k), (134, z11), (137, z1x), (18, z26), (44, z29), (48, z1o), (54, z2q), (61, z25), (63, z42), (66, z3o), (80, z1p), (82, z38), (84, z3n), (97, z2r), (109, z27), (121, z4i), (129, z4j), (14, z2h), (56, z3e), (83, z2j), (88, z0m), (89, z3s), (103, z2y), (105, z2i), (111, z3f), (114, z2x), (118, z1e), (122, z0u), (123, z3r), (37, z3j), (52, z22), (119, z23), (135, z4b), (16, z2v), (57, z2b), (86, z2d), (110, z1t), (130, z2a), (19, z34), (39, z3v), (62, z4g), (69, z2k), (85, z3u), (99, z0d), (99, z08), (30, z40), (99, z0h), (117, z0c), (117, z0f), (117, z05), (124, z4m), (91, z4k), (95, z3l), (96, z3z), (112, z2w), (113, z3m), (81, z3g), (90, z1s), (38, z3p)]
noncomputable def lt10 : List ((Nat × Nat) × (Nat → St → Option (Bool × LO))) := [((52, 3), z0x), ((57, 4), z12), ((86, 3), z13), ((110, 17), z0s), ((62, 5), z3h), ((69, 4), z19), ((99, 2), z03), ((99, 2), z01), ((99, 2), z09), ((124, 9), z43), ((91, 6), z3y), ((53, 5), z1z)]
noncomputable def Γ10 : Ctx := ⟨tyTab, fnTab, tblSum tb10, tblLp lt10⟩
theorem tb10_ok : SumL Try.prog tb10 := SumL.cons z10 (SumL.cons z0i (SumL.cons z0r (SumL.cons z0z (SumL.cons z18 (SumL.cons z15 (SumL.cons z0y (SumL.cons z1n (SumL.cons z16 (SumL.cons z36 (SumL.cons z2o (SumL.cons z0w (SumL.cons z21 (SumL.cons z2m (SumL.cons z1m (SumL.cons z17 (SumL.cons z3x (SumL.cons z3w (SumL.cons z1h (SumL.cons z2e (SumL.cons z1f (SumL.cons z0j (SumL.cons z2t (SumL.cons z1v (SumL.cons z1g (SumL.cons z2c (SumL.cons z1u (SumL.cons z0v (SumL.cons z0n (SumL.cons z2s (SumL.cons z2l (SumL.cons z1b (SumL.cons z1a (SumL.cons z3i (SumL.cons z1w (SumL.cons z1j (SumL.cons z1i (SumL.cons z14 (SumL.cons z1k (SumL.cons z28 (SumL.cons z33 (SumL.cons z3t (SumL.cons z1q (SumL.cons z32 (SumL.cons z0b (SumL.cons z06 (SumL.cons z3b (SumL.cons z0g (SumL.cons z0a (SumL.cons z0e (SumL.cons z04 (SumL.cons z4e (SumL.cons z49 (SumL.cons z30 (SumL.cons z3d (SumL.cons z24 (SumL.cons z31 (SumL.cons z2u (SumL.cons z1d (SumL.cons z37 (SumL.nil))))))))))))))))))))))))))))))))))))))))))))))))))))))))))))
theorem lt10_ok : LpL Try.prog fnTab lt10 := LpL.cons z0o (LpL.cons z0p (LpL.cons z0q (LpL.cons z0l (LpL.cons z2g (LpL.cons z0t (LpL.cons z02 (LpL.cons z00 (LpL.cons z07 (LpL.cons z3a (LpL.cons z35 (LpL.cons z1c (LpL.nil))))))))))))
noncomputable def z39 : List PT → Option (Bool × AV × List Blk)
  | [.agg [.row 1 q0z (.fl .f32 q1a), .row 1 q16 (.fl .f32 q1f), .row 1 q17 (.fl .f32 q1e)]] => some ((zb2 q0z q1a q16 q1f q17 q1e), ((AV.v (TV.one (At.bool (zah q0z q1a q16 q1f q17 q1e)))), []))
  | _ => none
def zg5 (q0z : Nat) (q1a : List Nat) (q16 : Nat) (q1f : List Nat) (q17 : Nat) (q1e : List Nat) : Option (Bool) → Option (AV × List Blk)
  | some r => some ((AV.v (TV.one (At.bool r))), [])
  | none => none
theorem zka (q0z : Nat) (q1a : List Nat) (q16 : Nat) (q1f : List Nat) (q17 : Nat) (q1e : List Nat) : evFn Γ10 8 8 53 (impTs 0 [.agg [.row 1 q0z (.fl .f32 q1a), .row 1 q16 (.fl .f32 q1f), .row 1 q17 (.fl .f32 q1e)]]).1 (impTs 0 [.agg [.row 1 q0z (.fl .f32 q1a), .row 1 q16 (.fl .f32 q1f), .row 1 q17 (.fl .f32 q1e)]]).2 (expo (impTs 0 [.agg [.row 1 q0z (.fl .f32 q1a), .row 1 q16 (.fl .f32 q1f), .row 1 q17 (.fl .f32 q1e)]]).2.length) = z7n q0z q1a q16 q1f q17 q1e (fun c0_ => some ((AV.v (TV.one (At.bool c0_))), [])) := by kernel_rfl
theorem z2p : SumOne Try.prog 53 z39 := sum_of (Γ := Γ10) (fuel := 8) (d := 8) tyTab_ok (FnL.ok fnTab_ok _ _) (LpL.ok lt10_ok) (SumL.ok tb10_ok _) mixed (by
  intro pts v news hp hc
  clear hc
  unfold z39 at hp
  split at hp
  · rename_i q0z q1a q16 q1f q17 q1e
    exact Eq.trans (Eq.trans (zka q0z q1a q16 q1f q17 q1e) (zhn (zg5 q0z q1a q16 q1f q17 q1e) rfl q0z q1a q16 q1f q17 q1e (fun c0_ => some c0_))) (fin_out (o := (zg5 q0z q1a q16 q1f q17 q1e)) (x := z7o q0z q1a q16 q1f q17 q1e) (d := default) (V := fun r => ((AV.v (TV.one (At.bool r))), [])) (fun r => rfl) hp)
  · cases hp)
noncomputable def tb11 : List (Nat × (List PT → Option (Bool × AV × List Blk))) := [(125, z1y), (128, z0k), (134, z11), (137, z1x), (18, z26), (44, z29), (48, z1o), (54, z2q), (61, z25), (63, z42), (66, z3o), (80, z1p), (82, z38), (84, z3n), (97, z2r), (109, z27), (121, z4i), (129, z4j), (14, z2h), (56, z3e), (83, z2j), (88, z0m), (89, z3s), (103, z2y), (105, z2i), (111, z3f), (114, z2x), (118, z1e), (122, z0u), (123, z3r), (37, z3j), (52, z22), (119, z23), (135, z4b), (16, z2v), (57, z2b), (86, z2d), (110, z1t), (130, z2a), (19, z34), (39, z3v), (62, z4g), (69, z2k), (85, z3u), (99, z0d), (99, z08), (30, z40), (99, z0h), (117, z0c), (117, z0f), (117, z05), (124, z4m), (91, z4k), (95, z3l), (96, z3z), (112, z2w), (113, z3m), (81, z3g), (90, z1s), (38, z3p), (53, z39)]
noncomputable def lt11 : List ((Nat × Nat) × (Nat → St → Option (Bool × LO))) := [((52, 3), z0x), ((57, 4), z12), ((86, 3), z13), ((110, 17), z0s), ((62, 5), z3h), ((69, 4), z19), ((99, 2), z03), ((99, 2), z01), ((99, 2), z09), ((124, 9), z43), ((91, 6), z3y), ((53, 5), z1z)]
noncomputable def Γ11 : Ctx := ⟨tyTab, fnTab, tblSum tb11, tblLp lt11⟩
theorem tb11_ok : SumL Try.prog tb11 := SumL.cons z10 (SumL.cons z0i (SumL.cons z0r (SumL.cons z0z (SumL.cons z18 (SumL.cons z15 (SumL.cons z0y (SumL.cons z1n (SumL.cons z16 (SumL.cons z36 (SumL.cons z2o (SumL.cons z0w (SumL.cons z21 (SumL.cons z2m (SumL.cons z1m (SumL.cons z17 (SumL.cons z3x (SumL.cons z3w (SumL.cons z1h (SumL.cons z2e (SumL.cons z1f (SumL.cons z0j (SumL.cons z2t (SumL.cons z1v (SumL.cons z1g (SumL.cons z2c (SumL.cons z1u (SumL.cons z0v (SumL.cons z0n (SumL.cons z2s (SumL.cons z2l (SumL.cons z1b (SumL.cons z1a (SumL.cons z3i (SumL.cons z1w (SumL.cons z1j (SumL.cons z1i (SumL.cons z14 (SumL.cons z1k (SumL.cons z28 (SumL.cons z33 (SumL.cons z3t (SumL.cons z1q (SumL.cons z32 (SumL.cons z0b (SumL.cons z06 (SumL.cons z3b (SumL.cons z0g (SumL.cons z0a (SumL.cons z0e (SumL.cons z04 (SumL.cons z4e (SumL.cons z49 (SumL.cons z30 (SumL.cons z3d (SumL.cons z24 (SumL.cons z31 (SumL.cons z2u (SumL.cons z1d (SumL.cons z37 (SumL.cons z2p (SumL.nil)))))))))))))))))))))))))))))))))))))))))))))))))))))))))))))
theorem lt11_ok : LpL Try.prog fnTab lt11 := LpL.cons z0o (LpL.cons z0p (LpL.cons z0q (LpL.cons z0l (LpL.cons z2g (LpL.cons z0t (LpL.cons z02 (LpL.cons z00 (LpL.cons z07 (LpL.cons z3a (LpL.cons z35 (LpL.cons z1c (LpL.nil))))))))))))
noncomputable def tb12 : List (Nat × (List PT → Option (Bool × AV × List Blk))) := [(125, z1y), (128, z0k), (134, z11), (137, z1x), (18, z26), (44, z29), (48, z1o), (54, z2q), (61, z25), (63, z42), (66, z3o), (80, z1p), (82, z38), (84, z3n), (97, z2r), (109, z27), (121, z4i), (129, z4j), (14, z2h), (56, z3e), (83, z2j), (88, z0m), (89, z3s), (103, z2y), (105, z2i), (111, z3f), (114, z2x), (118, z1e), (122, z0u), (123, z3r), (37, z3j), (52, z22), (119, z23), (135, z4b), (16, z2v), (57, z2b), (86, z2d), (110, z1t), (130, z2a), (19, z34), (39, z3v), (62, z4g), (69, z2k), (85, z3u), (99, z0d), (99, z08), (30, z40), (99, z0h), (117, z0c), (117, z0f), (117, z05), (124, z4m), (91, z4k), (95, z3l), (96, z3z), (112, z2w), (113, z3m), (81, z3g), (90, z1s), (38, z3p), (53, z39)]
noncomputable def lt12 : List ((Nat × Nat) × (Nat → St → Option (Bool × LO))) := [((52, 3), z0x), ((57, 4), z12), ((86, 3), z13), ((110, 17), z0s), ((62, 5), z3h), ((69, 4), z19), ((99, 2), z03), ((99, 2), z01), ((99, 2), z09), ((124, 9), z43), ((91, 6), z3y), ((53, 5), z1z)]
noncomputable def Γ12 : Ctx := ⟨tyTab, fnTab, tblSum tb12, tblLp lt12⟩
theorem tb12_ok : SumL Try.prog tb12 := SumL.cons z10 (SumL.cons z0i (SumL.cons z0r (SumL.cons z0z (SumL.cons z18 (SumL.cons z15 (SumL.cons z0y (SumL.cons z1n (SumL.cons z16 (SumL.cons z36 (SumL.cons z2o (SumL.cons z0w (SumL.cons z21 (SumL.cons z2m (SumL.cons z1m (SumL.cons z17 (SumL.cons z3x (SumL.cons z3w (SumL.cons z1h (SumL.cons z2e (SumL.cons z1f (SumL.cons z0j (SumL.cons z2t (SumL.cons z1v (SumL.cons z1g (SumL.cons z2c (SumL.cons z1u (SumL.cons z0v (SumL.cons z0n (SumL.cons z2s (SumL.cons z2l (SumL.cons z1b (SumL.cons z1a (SumL.cons z3i (SumL.cons z1w (SumL.cons z1j (SumL.cons z1i (SumL.cons z14 (SumL.cons z1k (SumL.cons z28 (SumL.cons z33 (SumL.cons z3t (SumL.cons z1q (SumL.cons z32 (SumL.cons z0b (SumL.cons z06 (SumL.cons z3b (SumL.cons z0g (SumL.cons z0a (SumL.cons z0e (SumL.cons z04 (SumL.cons z4e (SumL.cons z49 (SumL.cons z30 (SumL.cons z3d (SumL.cons z24 (SumL.cons z31 (SumL.cons z2u (SumL.cons z1d (SumL.cons z37 (SumL.cons z2p (SumL.nil)))))))))))))))))))))))))))))))))))))))))))))))))))))))))))))
theorem lt12_ok : LpL Try.prog fnTab lt12 := LpL.cons z0o (LpL.cons z0p (LpL.cons z0q (LpL.cons z0l (LpL.cons z2g (LpL.cons z0t (LpL.cons z02 (LpL.cons z00 (LpL.cons z07 (LpL.cons z3a (LpL.cons z35 (LpL.cons z1c (LpL.nil))))))))))))
noncomputable def zfl (t4 : Nat) (q2b : Nat) (t44 : Int) (t45 : Int) (b0 : List Nat) (b1 : List Nat) (b2 : List Nat) (b3 : List Nat) (q2f : Nat) (q2h : Nat) (q2g : Nat) (q1y : Nat) (q2p : Int) (q2o : Nat) (q1s : Nat) : Bool × LO := ((z6u q2b t44 b3 q1s t4 t45), (LO.two (z6r q2b t44 b3 q1s t4 t45) (LO.one Ex.ret (St.mk [(2, (AV.v (TV.one (At.bool Bool.false))))] [(Blk.mk Bool.false (Body.fl FloatKind.f32 b0)), (Blk.mk Bool.false (Body.fl FloatKind.f32 b1)), (Blk.mk Bool.false (Body.fl FloatKind.f32 b2)), (Blk.mk Bool.false (Body.fl FloatKind.f32 b3))])) (LO.one (Ex.exit 0) (St.mk [(1, (AV.v (TV.one (At.ptr 4 0 7)))), (4, (AV.v (TV.one (At.flt FloatKind.f32 (zbg q2b t44 b3 q1s t4 t45))))), (43, (AV.v (TV.one (At.vw 3 0 q2b 3)))), (44, (AV.v (TV.one (At.int IntKind.i64 t44)))), (45, (AV.v (TV.one (At.int IntKind.i64 (zb6 q2b t44 b3 q1s t4 t45))))), (46, (AV.v (TV.one (At.bool (zbb q2b t44 b3 q1s t4 t45)))))] [(Blk.mk Bool.false (Body.fl FloatKind.f32 b0)), (Blk.mk Bool.false (Body.fl FloatKind.f32 b1)), (Blk.mk Bool.false (Body.fl FloatKind.f32 b2)), (Blk.mk Bool.false (Body.fl FloatKind.f32 b3)), (Blk.mk Bool.true (Body.cells [(At.vw 0 0 q2f 1), (At.vw 1 0 q2h 1), (At.vw 2 0 q2g 1), (At.vw 3 0 q1y 3), (At.int IntKind.i64 q2p), (At.flt FloatKind.f32 q2o), (At.flt FloatKind.f32 q1s)]))]))))
noncomputable def z3k : Nat → St → Option (Bool × LO) := lpT 4 (pSt [(pTm 1 (pV (pOne (pPtr 4 (liN 0) 7)))), (pTm 4 (pV (pOne (pFlt FloatKind.f32)))), (pTm 43 (pV (pOne (pVw 3 (liN 0) 3)))), (pTm 44 (pV (pOne (pInt IntKind.i64)))), (pTm 45 (pV (pOne (pInt IntKind.i64))))] [(pBlk Bool.false (pFl FloatKind.f32)), (pBlk Bool.false (pFl FloatKind.f32)), (pBlk Bool.false (pFl FloatKind.f32)), (pBlk Bool.false (pFl FloatKind.f32)), (pBlk Bool.true (pCells [(pVw 0 (liN 0) 1), (pVw 1 (liN 0) 1), (pVw 2 (liN 0) 1), (pVw 3 (liN 0) 3), (pInt IntKind.i64), (pFlt FloatKind.f32), (pFlt FloatKind.f32)]))]) (fun hs => zfl (hvN (hGet hs 0)) (hvN (hGet hs 1)) (hvI (hGet hs 2)) (hvI (hGet hs 3)) (hvLn (hGet hs 4)) (hvLn (hGet hs 5)) (hvLn (hGet hs 6)) (hvLn (hGet hs 7)) (hvN (hGet hs 8)) (hvN (hGet hs 9)) (hvN (hGet hs 10)) (hvN (hGet hs 11)) (hvI (hGet hs 12)) (hvN (hGet hs 13)) (hvN (hGet hs 14)))
def z8d (q2b : Nat) (t44 : Int) (b0 : List Nat) (b1 : List Nat) (b2 : List Nat) (b3 : List Nat) (q2f : Nat) (q2h : Nat) (q2g : Nat) (q1y : Nat) (q2p : Int) (q2o : Nat) (q1s : Nat) : Option ((Unit) ⊕ (Nat × Int × Bool)) → Option (Ex × St)
  | none => none
  | some (Sum.inl r) => some (Ex.ret, (St.mk [(2, (AV.v (TV.one (At.bool Bool.false))))] [(Blk.mk Bool.false (Body.fl FloatKind.f32 b0)), (Blk.mk Bool.false (Body.fl FloatKind.f32 b1)), (Blk.mk Bool.false (Body.fl FloatKind.f32 b2)), (Blk.mk Bool.false (Body.fl FloatKind.f32 b3))]))
  | some (Sum.inr r) => some ((Ex.exit 0), (St.mk [(1, (AV.v (TV.one (At.ptr 4 0 7)))), (4, (AV.v (TV.one (At.flt FloatKind.f32 r.1)))), (43, (AV.v (TV.one (At.vw 3 0 q2b 3)))), (44, (AV.v (TV.one (At.int IntKind.i64 t44)))), (45, (AV.v (TV.one (At.int IntKind.i64 r.2.1)))), (46, (AV.v (TV.one (At.bool r.2.2))))] [(Blk.mk Bool.false (Body.fl FloatKind.f32 b0)), (Blk.mk Bool.false (Body.fl FloatKind.f32 b1)), (Blk.mk Bool.false (Body.fl FloatKind.f32 b2)), (Blk.mk Bool.false (Body.fl FloatKind.f32 b3)), (Blk.mk Bool.true (Body.cells [(At.vw 0 0 q2f 1), (At.vw 1 0 q2h 1), (At.vw 2 0 q2g 1), (At.vw 3 0 q1y 3), (At.int IntKind.i64 q2p), (At.flt FloatKind.f32 q2o), (At.flt FloatKind.f32 q1s)]))]))
def zio (q2b : Nat) (t44 : Int) (b0 : List Nat) (b1 : List Nat) (b2 : List Nat) (b3 : List Nat) (q2f : Nat) (q2h : Nat) (q2g : Nat) (q1y : Nat) (q2p : Int) (q2o : Nat) (q1s : Nat) (x : Option ((Unit) ⊕ (Nat × Int × Bool))) : LO := (LO.two (oL x) (LO.one Ex.ret (St.mk [(2, (AV.v (TV.one (At.bool Bool.false))))] [(Blk.mk Bool.false (Body.fl FloatKind.f32 b0)), (Blk.mk Bool.false (Body.fl FloatKind.f32 b1)), (Blk.mk Bool.false (Body.fl FloatKind.f32 b2)), (Blk.mk Bool.false (Body.fl FloatKind.f32 b3))])) (LO.one (Ex.exit 0) (St.mk [(1, (AV.v (TV.one (At.ptr 4 0 7)))), (4, (AV.v (TV.one (At.flt FloatKind.f32 ((tR x).getD default).1)))), (43, (AV.v (TV.one (At.vw 3 0 q2b 3)))), (44, (AV.v (TV.one (At.int IntKind.i64 t44)))), (45, (AV.v (TV.one (At.int IntKind.i64 ((tR x).getD default).2.1)))), (46, (AV.v (TV.one (At.bool ((tR x).getD default).2.2))))] [(Blk.mk Bool.false (Body.fl FloatKind.f32 b0)), (Blk.mk Bool.false (Body.fl FloatKind.f32 b1)), (Blk.mk Bool.false (Body.fl FloatKind.f32 b2)), (Blk.mk Bool.false (Body.fl FloatKind.f32 b3)), (Blk.mk Bool.true (Body.cells [(At.vw 0 0 q2f 1), (At.vw 1 0 q2h 1), (At.vw 2 0 q2g 1), (At.vw 3 0 q1y 3), (At.int IntKind.i64 q2p), (At.flt FloatKind.f32 q2o), (At.flt FloatKind.f32 q1s)]))])))
theorem zjl (q2b : Nat) (t44 : Int) (b0 : List Nat) (b1 : List Nat) (b2 : List Nat) (b3 : List Nat) (q2f : Nat) (q2h : Nat) (q2g : Nat) (q1y : Nat) (q2p : Int) (q2o : Nat) (q1s : Nat) : ∀ x : Option ((Unit) ⊕ (Nat × Int × Bool)), x.isSome = true → (z8d q2b t44 b0 b1 b2 b3 q2f q2h q2g q1y q2p q2o q1s) x = some (pick (zio q2b t44 b0 b1 b2 b3 q2f q2h q2g q1y q2p q2o q1s x))
  | none, h => by cases h
  | some (Sum.inl r), _ => rfl
  | some (Sum.inr r), _ => rfl
theorem zja (t4 : Nat) (q2b : Nat) (t44 : Int) (t45 : Int) (b0 : List Nat) (b1 : List Nat) (b2 : List Nat) (b3 : List Nat) (q2f : Nat) (q2h : Nat) (q2g : Nat) (q1y : Nat) (q2p : Int) (q2o : Nat) (q1s : Nat) (K : Ex → St → Option (Ex × St)) : evC (R := Ex × St) Γ12 (evFn Γ12 8 8) 87 4 fi87.nt fi87.live fi87.nl 8 (findL 6 (loopsIn fi87.code)) (St.mk [(1, (AV.v (TV.one (At.ptr 4 0 7)))), (4, (AV.v (TV.one (At.flt FloatKind.f32 t4)))), (43, (AV.v (TV.one (At.vw 3 0 q2b 3)))), (44, (AV.v (TV.one (At.int IntKind.i64 t44)))), (45, (AV.v (TV.one (At.int IntKind.i64 t45))))] [(Blk.mk Bool.false (Body.fl FloatKind.f32 b0)), (Blk.mk Bool.false (Body.fl FloatKind.f32 b1)), (Blk.mk Bool.false (Body.fl FloatKind.f32 b2)), (Blk.mk Bool.false (Body.fl FloatKind.f32 b3)), (Blk.mk Bool.true (Body.cells [(At.vw 0 0 q2f 1), (At.vw 1 0 q2h 1), (At.vw 2 0 q2g 1), (At.vw 3 0 q1y 3), (At.int IntKind.i64 q2p), (At.flt FloatKind.f32 q2o), (At.flt FloatKind.f32 q1s)]))]) K = z66 q2b t44 b3 q1s t4 t45 (fun t4' t45' => K .normal (St.mk [(1, (AV.v (TV.one (At.ptr 4 0 7)))), (4, (AV.v (TV.one (At.flt FloatKind.f32 t4')))), (43, (AV.v (TV.one (At.vw 3 0 q2b 3)))), (44, (AV.v (TV.one (At.int IntKind.i64 t44)))), (45, (AV.v (TV.one (At.int IntKind.i64 t45'))))] [(Blk.mk Bool.false (Body.fl FloatKind.f32 b0)), (Blk.mk Bool.false (Body.fl FloatKind.f32 b1)), (Blk.mk Bool.false (Body.fl FloatKind.f32 b2)), (Blk.mk Bool.false (Body.fl FloatKind.f32 b3)), (Blk.mk Bool.true (Body.cells [(At.vw 0 0 q2f 1), (At.vw 1 0 q2h 1), (At.vw 2 0 q2g 1), (At.vw 3 0 q1y 3), (At.int IntKind.i64 q2p), (At.flt FloatKind.f32 q2o), (At.flt FloatKind.f32 q1s)]))])) (fun _ => K Ex.ret (St.mk [(2, (AV.v (TV.one (At.bool Bool.false))))] [(Blk.mk Bool.false (Body.fl FloatKind.f32 b0)), (Blk.mk Bool.false (Body.fl FloatKind.f32 b1)), (Blk.mk Bool.false (Body.fl FloatKind.f32 b2)), (Blk.mk Bool.false (Body.fl FloatKind.f32 b3))])) (fun c0_ c1_ c2_ => K (Ex.exit 0) (St.mk [(1, (AV.v (TV.one (At.ptr 4 0 7)))), (4, (AV.v (TV.one (At.flt FloatKind.f32 c0_)))), (43, (AV.v (TV.one (At.vw 3 0 q2b 3)))), (44, (AV.v (TV.one (At.int IntKind.i64 t44)))), (45, (AV.v (TV.one (At.int IntKind.i64 c1_)))), (46, (AV.v (TV.one (At.bool c2_))))] [(Blk.mk Bool.false (Body.fl FloatKind.f32 b0)), (Blk.mk Bool.false (Body.fl FloatKind.f32 b1)), (Blk.mk Bool.false (Body.fl FloatKind.f32 b2)), (Blk.mk Bool.false (Body.fl FloatKind.f32 b3)), (Blk.mk Bool.true (Body.cells [(At.vw 0 0 q2f 1), (At.vw 1 0 q2h 1), (At.vw 2 0 q2g 1), (At.vw 3 0 q1y 3), (At.int IntKind.i64 q2p), (At.flt FloatKind.f32 q2o), (At.flt FloatKind.f32 q1s)]))])) := by kernel_rfl
theorem zjg (q2b : Nat) (t44 : Int) (b0 : List Nat) (b1 : List Nat) (b2 : List Nat) (b3 : List Nat) (q2f : Nat) (q2h : Nat) (q2g : Nat) (q1y : Nat) (q2p : Int) (q2o : Nat) (q1s : Nat) : ∀ (n : Nat) (t4 : Nat) (t45 : Int), iter 87 6 4 (evC (R := Ex × St) Γ12 (evFn Γ12 8 8) 87 4 fi87.nt fi87.live fi87.nl 8 (findL 6 (loopsIn fi87.code))) n (St.mk [(1, (AV.v (TV.one (At.ptr 4 0 7)))), (4, (AV.v (TV.one (At.flt FloatKind.f32 t4)))), (43, (AV.v (TV.one (At.vw 3 0 q2b 3)))), (44, (AV.v (TV.one (At.int IntKind.i64 t44)))), (45, (AV.v (TV.one (At.int IntKind.i64 t45))))] [(Blk.mk Bool.false (Body.fl FloatKind.f32 b0)), (Blk.mk Bool.false (Body.fl FloatKind.f32 b1)), (Blk.mk Bool.false (Body.fl FloatKind.f32 b2)), (Blk.mk Bool.false (Body.fl FloatKind.f32 b3)), (Blk.mk Bool.true (Body.cells [(At.vw 0 0 q2f 1), (At.vw 1 0 q2h 1), (At.vw 2 0 q2g 1), (At.vw 3 0 q1y 3), (At.int IntKind.i64 q2p), (At.flt FloatKind.f32 q2o), (At.flt FloatKind.f32 q1s)]))]) (fun e st => some (e, st)) = (z8d q2b t44 b0 b1 b2 b3 q2f q2h q2g q1y q2p q2o q1s) (z4l q2b t44 b3 q1s n t4 t45) := by
  intro n
  induction n with
  | zero => intros; rfl
  | succ n ih =>
    intro t4 t45
    refine Eq.trans (iter_succ ..) (Eq.trans (zja t4 q2b t44 t45 b0 b1 b2 b3 q2f q2h q2g q1y q2p q2o q1s (nextK 87 6 4 (evC (R := Ex × St) Γ12 (evFn Γ12 8 8) 87 4 fi87.nt fi87.live fi87.nl 8 (findL 6 (loopsIn fi87.code))) n (fun e st => some (e, st)))) (Eq.trans ?_ (zh1 (z8d q2b t44 b0 b1 b2 b3 q2f q2h q2g q1y q2p q2o q1s) rfl q2b t44 b3 q1s t4 t45 (fun t4' t45' => z4l q2b t44 b3 q1s n t4' t45') (fun _ => some (Sum.inl ())) (fun c0_ c1_ c2_ => some (Sum.inr (c0_, c1_, c2_))))))
    exact congrArg (fun kn_ => z66 q2b t44 b3 q1s t4 t45 kn_ (fun _ => (z8d q2b t44 b0 b1 b2 b3 q2f q2h q2g q1y q2p q2o q1s) (some (Sum.inl ()))) (fun c0_ c1_ c2_ => (z8d q2b t44 b0 b1 b2 b3 q2f q2h q2g q1y q2p q2o q1s) (some (Sum.inr (c0_, c1_, c2_))))) (funext fun t4' => funext fun t45' => ih t4' t45')
theorem z2z : LoopOne Try.prog fnTab 87 6 z3k := lp_of (Γ := Γ12) tyTab_ok (FnL.ok fnTab_ok _ _) (LpL.ok lt12_ok) (SumL.ok tb12_ok _) mixed (fi := fi87) (by kernel_rfl) (by kernel_rfl) (by
  intro lo st out hp
  obtain ⟨hs, e1, e2, e3⟩ := lpT_inv hp
  clear hp
  obtain rfl : st = (St.mk [(1, (AV.v (TV.one (At.ptr 4 0 7)))), (4, (AV.v (TV.one (At.flt FloatKind.f32 (hvN (hGet hs 0)))))), (43, (AV.v (TV.one (At.vw 3 0 (hvN (hGet hs 1)) 3)))), (44, (AV.v (TV.one (At.int IntKind.i64 (hvI (hGet hs 2)))))), (45, (AV.v (TV.one (At.int IntKind.i64 (hvI (hGet hs 3))))))] [(Blk.mk Bool.false (Body.fl FloatKind.f32 (hvLn (hGet hs 4)))), (Blk.mk Bool.false (Body.fl FloatKind.f32 (hvLn (hGet hs 5)))), (Blk.mk Bool.false (Body.fl FloatKind.f32 (hvLn (hGet hs 6)))), (Blk.mk Bool.false (Body.fl FloatKind.f32 (hvLn (hGet hs 7)))), (Blk.mk Bool.true (Body.cells [(At.vw 0 0 (hvN (hGet hs 8)) 1), (At.vw 1 0 (hvN (hGet hs 9)) 1), (At.vw 2 0 (hvN (hGet hs 10)) 1), (At.vw 3 0 (hvN (hGet hs 11)) 3), (At.int IntKind.i64 (hvI (hGet hs 12))), (At.flt FloatKind.f32 (hvN (hGet hs 13))), (At.flt FloatKind.f32 (hvN (hGet hs 14)))]))]) := e2.trans (by kernel_rfl)
  clear e2
  subst e1
  unfold zfl at e3
  injection e3 with h1 h2
  subst h2
  exact ⟨8, 8, big, Eq.trans (zjg (hvN (hGet hs 1)) (hvI (hGet hs 2)) (hvLn (hGet hs 4)) (hvLn (hGet hs 5)) (hvLn (hGet hs 6)) (hvLn (hGet hs 7)) (hvN (hGet hs 8)) (hvN (hGet hs 9)) (hvN (hGet hs 10)) (hvN (hGet hs 11)) (hvI (hGet hs 12)) (hvN (hGet hs 13)) (hvN (hGet hs 14)) big (hvN (hGet hs 0)) (hvI (hGet hs 3))) (zjl (hvN (hGet hs 1)) (hvI (hGet hs 2)) (hvLn (hGet hs 4)) (hvLn (hGet hs 5)) (hvLn (hGet hs 6)) (hvLn (hGet hs 7)) (hvN (hGet hs 8)) (hvN (hGet hs 9)) (hvN (hGet hs 10)) (hvN (hGet hs 11)) (hvI (hGet hs 12)) (hvN (hGet hs 13)) (hvN (hGet hs 14)) (z4l (hvN (hGet hs 1)) (hvI (hGet hs 2)) (hvLn (hGet hs 7)) (hvN (hGet hs 14)) big (hvN (hGet hs 0)) (hvI (hGet hs 3))) h1)⟩)
noncomputable def tb13 : List (Nat × (List PT → Option (Bool × AV × List Blk))) := [(125, z1y), (128, z0k), (134, z11), (137, z1x), (18, z26), (44, z29), (48, z1o), (54, z2q), (61, z25), (63, z42), (66, z3o), (80, z1p), (82, z38), (84, z3n), (97, z2r), (109, z27), (121, z4i), (129, z4j), (14, z2h), (56, z3e), (83, z2j), (88, z0m), (89, z3s), (103, z2y), (105, z2i), (111, z3f), (114, z2x), (118, z1e), (122, z0u), (123, z3r), (37, z3j), (52, z22), (119, z23), (135, z4b), (16, z2v), (57, z2b), (86, z2d), (110, z1t), (130, z2a), (19, z34), (39, z3v), (62, z4g), (69, z2k), (85, z3u), (99, z0d), (99, z08), (30, z40), (99, z0h), (117, z0c), (117, z0f), (117, z05), (124, z4m), (91, z4k), (95, z3l), (96, z3z), (112, z2w), (113, z3m), (81, z3g), (90, z1s), (38, z3p), (53, z39)]
noncomputable def lt13 : List ((Nat × Nat) × (Nat → St → Option (Bool × LO))) := [((52, 3), z0x), ((57, 4), z12), ((86, 3), z13), ((110, 17), z0s), ((62, 5), z3h), ((69, 4), z19), ((99, 2), z03), ((99, 2), z01), ((99, 2), z09), ((124, 9), z43), ((91, 6), z3y), ((53, 5), z1z), ((87, 6), z3k)]
noncomputable def Γ13 : Ctx := ⟨tyTab, fnTab, tblSum tb13, tblLp lt13⟩
theorem tb13_ok : SumL Try.prog tb13 := SumL.cons z10 (SumL.cons z0i (SumL.cons z0r (SumL.cons z0z (SumL.cons z18 (SumL.cons z15 (SumL.cons z0y (SumL.cons z1n (SumL.cons z16 (SumL.cons z36 (SumL.cons z2o (SumL.cons z0w (SumL.cons z21 (SumL.cons z2m (SumL.cons z1m (SumL.cons z17 (SumL.cons z3x (SumL.cons z3w (SumL.cons z1h (SumL.cons z2e (SumL.cons z1f (SumL.cons z0j (SumL.cons z2t (SumL.cons z1v (SumL.cons z1g (SumL.cons z2c (SumL.cons z1u (SumL.cons z0v (SumL.cons z0n (SumL.cons z2s (SumL.cons z2l (SumL.cons z1b (SumL.cons z1a (SumL.cons z3i (SumL.cons z1w (SumL.cons z1j (SumL.cons z1i (SumL.cons z14 (SumL.cons z1k (SumL.cons z28 (SumL.cons z33 (SumL.cons z3t (SumL.cons z1q (SumL.cons z32 (SumL.cons z0b (SumL.cons z06 (SumL.cons z3b (SumL.cons z0g (SumL.cons z0a (SumL.cons z0e (SumL.cons z04 (SumL.cons z4e (SumL.cons z49 (SumL.cons z30 (SumL.cons z3d (SumL.cons z24 (SumL.cons z31 (SumL.cons z2u (SumL.cons z1d (SumL.cons z37 (SumL.cons z2p (SumL.nil)))))))))))))))))))))))))))))))))))))))))))))))))))))))))))))
theorem lt13_ok : LpL Try.prog fnTab lt13 := LpL.cons z0o (LpL.cons z0p (LpL.cons z0q (LpL.cons z0l (LpL.cons z2g (LpL.cons z0t (LpL.cons z02 (LpL.cons z00 (LpL.cons z07 (LpL.cons z3a (LpL.cons z35 (LpL.cons z1c (LpL.cons z2z (LpL.nil)))))))))))))
noncomputable def z4c : List PT → Option (Bool × AV × List Blk)
  | [.agg [.row 1 q0m (.fl .f32 q0s), .row 1 q0p (.fl .f32 q0w), .row 1 q0q (.fl .f32 q0v), .row 3 q0x (.fl .f32 q15), .s (.int .i64 q1d), .s (.flt .f32 q1i), .s (.flt .f32 q1h)]] => some ((zda q0m q0s q0p q0w q0q q0v q0x q15 q1d q1i q1h), ((AV.v (TV.one (At.bool (zby q0m q0s q0p q0w q0q q0v q0x q15 q1d q1i q1h)))), []))
  | _ => none
def zgo (q0m : Nat) (q0s : List Nat) (q0p : Nat) (q0w : List Nat) (q0q : Nat) (q0v : List Nat) (q0x : Nat) (q15 : List Nat) (q1d : Int) (q1i : Nat) (q1h : Nat) : Option (Bool) → Option (AV × List Blk)
  | some r => some ((AV.v (TV.one (At.bool r))), [])
  | none => none
theorem zli (q0m : Nat) (q0s : List Nat) (q0p : Nat) (q0w : List Nat) (q0q : Nat) (q0v : List Nat) (q0x : Nat) (q15 : List Nat) (q1d : Int) (q1i : Nat) (q1h : Nat) : evFn Γ13 8 8 87 (impTs 0 [.agg [.row 1 q0m (.fl .f32 q0s), .row 1 q0p (.fl .f32 q0w), .row 1 q0q (.fl .f32 q0v), .row 3 q0x (.fl .f32 q15), .s (.int .i64 q1d), .s (.flt .f32 q1i), .s (.flt .f32 q1h)]]).1 (impTs 0 [.agg [.row 1 q0m (.fl .f32 q0s), .row 1 q0p (.fl .f32 q0w), .row 1 q0q (.fl .f32 q0v), .row 3 q0x (.fl .f32 q15), .s (.int .i64 q1d), .s (.flt .f32 q1i), .s (.flt .f32 q1h)]]).2 (expo (impTs 0 [.agg [.row 1 q0m (.fl .f32 q0s), .row 1 q0p (.fl .f32 q0w), .row 1 q0q (.fl .f32 q0v), .row 3 q0x (.fl .f32 q15), .s (.int .i64 q1d), .s (.flt .f32 q1i), .s (.flt .f32 q1h)]]).2.length) = z8j q0m q0s q0p q0w q0q q0v q0x q15 q1d q1i q1h (fun c0_ => some ((AV.v (TV.one (At.bool c0_))), [])) := by kernel_rfl
end Go.Proofs.Ytihlcjjbenkokaa
