/-
  What functions answer: that the evaluator answers so. Printed by a program.
-/
import Derived.Test.YtdhmognknjpemaaRotorsC
set_option linter.unusedVariables false
set_option linter.unusedSimpArgs false
set_option maxRecDepth 100000
set_option maxHeartbeats 4000000
namespace Go.Proofs.Ytdhmognknjpemaa
open Go Go.Rf
def zim : List PT → Option (Bool × AV × List Blk)
  | [.one (.s (.int .u64 x))] => some (okU .f64 x, A1 (.flt .f64 (cnI .f64 x)), [])
  | _ => none
theorem ztq : SumOne Try.prog 156 zim := by
  intro pts v news hp w vals hv
  unfold zim at hp
  split at hp
  · rename_i x
    injection hp with hp
    injection hp with h1 hp
    injection hp with h2 h3
    subst h2
    subst h3
    obtain ⟨l, hl⟩ : ∃ l, l = vals.toList := ⟨_, rfl⟩
    rw [← hl] at hv
    cases hv with
    | cons a1 a2 =>
      cases a2
      have hb1 : _ = Value.int .u64 x := a1
      subst hb1
      rename_i hx
      have hvals : vals = #[.int .u64 x] := by rw [← Array.toList_inj, ← hl]
      subst hvals
      have hw := yh1 h1
      refine .inl ⟨_, w, by (simp only [callFunc, Sem.run_bind, run_program, Result.andThen_ok, Try.func156]; rfl), NoB, ⟨⟨(fun t b' h => by cases t <;> cases h), (fun t t' b1 b2 x x' _ h => by cases t <;> cases h)⟩, (fun t x h => by cases h), Fr.refl _ w⟩, ⟨_, rfl, hw, rfl⟩⟩
  · cases hp
def zmt : List PT → Option (Bool × AV × List Blk)
  | [.one (.s (.flt .f32 x))] => some (bnot (nanQ .f32 x), A1 (.int .u32 x), [])
  | _ => none
theorem zxm : SumOne Try.prog 180 zmt := by
  intro pts v news hp w vals hv
  unfold zmt at hp
  split at hp
  · rename_i x
    injection hp with hp
    injection hp with h1 hp
    injection hp with h2 h3
    subst h2
    subst h3
    obtain ⟨l, hl⟩ : ∃ l, l = vals.toList := ⟨_, rfl⟩
    rw [← hl] at hv
    cases hv with
    | cons a1 a2 =>
      cases a2
      obtain ⟨b, hb1, hb2, hb3⟩ := a1
      subst hb1
      rename_i hx
      have hvals : vals = #[.float .f32 b] := by rw [← Array.toList_inj, ← hl]
      subst hvals
      have hn : nanB .f32 b = false := by rw [← zpr, hb3]; simpa [bnot, nanQ] using h1
      rw [z3z hn] at hb3
      subst hb3
      refine .inl ⟨_, w, by (simp only [callFunc, Sem.run_bind, run_program, Result.andThen_ok, Try.func180]; rfl), NoB, ⟨⟨(fun t b' h => by cases t <;> cases h), (fun t t' b1 b2 x x' _ h => by cases t <;> cases h)⟩, (fun t x h => by cases h), Fr.refl _ w⟩, rfl⟩
  · cases hp
def zn0 : List PT → Option (Bool × AV × List Blk)
  | [.one (.s (.flt .f64 x))] => some (bnot (nanQ .f64 x), A1 (.int .u64 x), [])
  | _ => none
theorem zxb : SumOne Try.prog 181 zn0 := by
  intro pts v news hp w vals hv
  unfold zn0 at hp
  split at hp
  · rename_i x
    injection hp with hp
    injection hp with h1 hp
    injection hp with h2 h3
    subst h2
    subst h3
    obtain ⟨l, hl⟩ : ∃ l, l = vals.toList := ⟨_, rfl⟩
    rw [← hl] at hv
    cases hv with
    | cons a1 a2 =>
      cases a2
      obtain ⟨b, hb1, hb2, hb3⟩ := a1
      subst hb1
      rename_i hx
      have hvals : vals = #[.float .f64 b] := by rw [← Array.toList_inj, ← hl]
      subst hvals
      have hn : nanB .f64 b = false := by rw [← zpr, hb3]; simpa [bnot, nanQ] using h1
      rw [z3z hn] at hb3
      subst hb3
      refine .inl ⟨_, w, by (simp only [callFunc, Sem.run_bind, run_program, Result.andThen_ok, Try.func181]; rfl), NoB, ⟨⟨(fun t b' h => by cases t <;> cases h), (fun t t' b1 b2 x x' _ h => by cases t <;> cases h)⟩, (fun t x h => by cases h), Fr.refl _ w⟩, rfl⟩
  · cases hp
def zoq : List PT → Option (Bool × AV × List Blk)
  | [.one (.s (.flt .f64 x))] => some (bnot (nanQ .f64 x), A1 (.flt .f64 (fint .zero x)), [])
  | _ => none
theorem y0r : SumOne Try.prog 182 zoq := by
  intro pts v news hp w vals hv
  unfold zoq at hp
  split at hp
  · rename_i x
    injection hp with hp
    injection hp with h1 hp
    injection hp with h2 h3
    subst h2
    subst h3
    obtain ⟨l, hl⟩ : ∃ l, l = vals.toList := ⟨_, rfl⟩
    rw [← hl] at hv
    cases hv with
    | cons a1 a2 =>
      cases a2
      obtain ⟨b, hb1, hb2, hb3⟩ := a1
      subst hb1
      rename_i hx
      have hvals : vals = #[.float .f64 b] := by rw [← Array.toList_inj, ← hl]
      subst hvals
      have hn : nanB .f64 b = false := by rw [← zpr, hb3]; simpa [bnot, nanQ] using h1
      rw [z3z hn] at hb3
      subst hb3
      refine .inl ⟨_, w, by (simp only [callFunc, Sem.run_bind, run_program, Result.andThen_ok, Try.func182]; change (do let v ← Extern.MathFloor.toIntegral "math.archTrunc" .zero #[.float .f64 b]; pure (.value v) : Sem Next).run Try.prog w = _; rw [Sem.run_bind, ya6 hn]; rfl), NoB, ⟨⟨(fun t b' h => by cases t <;> cases h), (fun t t' b1 b2 x x' _ h => by cases t <;> cases h)⟩, (fun t x h => by cases h), Fr.refl _ w⟩, ya8 hn⟩
  · cases hp
def zp5 : List PT → Option (Bool × AV × List Blk)
  | [.one (.s (.flt .f64 x))] => some (bnot (nanQ .f64 x), A1 (.flt .f64 (fint .down x)), [])
  | _ => none
theorem y0v : SumOne Try.prog 189 zp5 := by
  intro pts v news hp w vals hv
  unfold zp5 at hp
  split at hp
  · rename_i x
    injection hp with hp
    injection hp with h1 hp
    injection hp with h2 h3
    subst h2
    subst h3
    obtain ⟨l, hl⟩ : ∃ l, l = vals.toList := ⟨_, rfl⟩
    rw [← hl] at hv
    cases hv with
    | cons a1 a2 =>
      cases a2
      obtain ⟨b, hb1, hb2, hb3⟩ := a1
      subst hb1
      rename_i hx
      have hvals : vals = #[.float .f64 b] := by rw [← Array.toList_inj, ← hl]
      subst hvals
      have hn : nanB .f64 b = false := by rw [← zpr, hb3]; simpa [bnot, nanQ] using h1
      rw [z3z hn] at hb3
      subst hb3
      refine .inl ⟨_, w, by (simp only [callFunc, Sem.run_bind, run_program, Result.andThen_ok, Try.func189]; change (do let v ← Extern.MathFloor.toIntegral "math.archFloor" .down #[.float .f64 b]; pure (.value v) : Sem Next).run Try.prog w = _; rw [Sem.run_bind, ya6 hn]; rfl), NoB, ⟨⟨(fun t b' h => by cases t <;> cases h), (fun t t' b1 b2 x x' _ h => by cases t <;> cases h)⟩, (fun t x h => by cases h), Fr.refl _ w⟩, ya8 hn⟩
  · cases hp
noncomputable def tb0 : List (Nat × (List PT → Option (Bool × AV × List Blk))) := [(156, zim), (180, zmt), (181, zn0), (182, zoq), (189, zp5)]
noncomputable def lt0 : List ((Nat × Nat) × (Nat → St → Option (Bool × LO))) := []
noncomputable def Γ0 : Ctx := ⟨tyTab, fnTab, tblSum tb0, tblLp lt0⟩
theorem zcb : SumL Try.prog tb0 := SumL.cons ztq (SumL.cons zxm (SumL.cons zxb (SumL.cons y0r (SumL.cons y0v (SumL.nil)))))
theorem zch : LpL Try.prog fnTab lt0 := LpL.nil
noncomputable def zqm : List PT → Option (Bool × AV × List Blk)
  | [.one (.s (.flt .f32 x))] => some ((z4m x), ((AV.v (TV.one (At.bool (z46 x)))), []))
  | _ => none
def zvp (x : Nat) : Option (Bool) → Option (AV × List Blk)
  | some r => some ((AV.v (TV.one (At.bool r))), [])
  | none => none
theorem y5s (x : Nat) : evFn Γ0 8 8 26 (impTs 0 [.one (.s (.flt .f32 x))]).1 (impTs 0 [.one (.s (.flt .f32 x))]).2 (expo (impTs 0 [.one (.s (.flt .f32 x))]).2.length) = zhy x (fun c0_ => some ((AV.v (TV.one (At.bool c0_))), [])) := by kernel_rfl
theorem y30 : SumOne Try.prog 26 zqm := z16 (Γ := Γ0) (fuel := 8) (d := 8) tyTab_ok (FnL.ok fnTab_ok _ _) (LpL.ok zch) (SumL.ok zcb _) mixed (by
  intro pts v news hp hc
  clear hc
  unfold zqm at hp
  split at hp
  · rename_i x
    exact Eq.trans (Eq.trans (y5s x) (y19 (zvp x) rfl x (fun c0_ => some c0_))) (z0y (o := (zvp x)) (x := zgu x) (d := default) (V := fun r => ((AV.v (TV.one (At.bool r))), [])) (fun r => rfl) hp)
  · cases hp)
noncomputable def zri : List PT → Option (Bool × AV × List Blk)
  | [.one (.row 1 q0i (.il .u8 q0o)), .one (.row 1 q3m (.il .u8 q3w))] => some ((zn9 q0i q0o q3m q3w), ((AV.v (TV.one (At.bool (zm3 q0i q0o q3m q3w)))), []))
  | _ => none
def zyq (q0i : Nat) (q0o : List Int) (q3m : Nat) (q3w : List Int) : Option (Bool) → Option (AV × List Blk)
  | some r => some ((AV.v (TV.one (At.bool r))), [])
  | none => none
theorem y6x (q0i : Nat) (q0o : List Int) (q3m : Nat) (q3w : List Int) : evFn Γ0 8 8 27 (impTs 0 [.one (.row 1 q0i (.il .u8 q0o)), .one (.row 1 q3m (.il .u8 q3w))]).1 (impTs 0 [.one (.row 1 q0i (.il .u8 q0o)), .one (.row 1 q3m (.il .u8 q3w))]).2 (expo (impTs 0 [.one (.row 1 q0i (.il .u8 q0o)), .one (.row 1 q3m (.il .u8 q3w))]).2.length) = zen q0i q0o q3m q3w (fun c0_ => some ((AV.v (TV.one (At.bool c0_))), [])) := by kernel_rfl
theorem y3v : SumOne Try.prog 27 zri := z16 (Γ := Γ0) (fuel := 8) (d := 8) tyTab_ok (FnL.ok fnTab_ok _ _) (LpL.ok zch) (SumL.ok zcb _) mixed (by
  intro pts v news hp hc
  clear hc
  unfold zri at hp
  split at hp
  · rename_i q0i q0o q3m q3w
    exact Eq.trans (Eq.trans (y6x q0i q0o q3m q3w) (y24 (zyq q0i q0o q3m q3w) rfl q0i q0o q3m q3w (fun c0_ => some c0_))) (z0y (o := (zyq q0i q0o q3m q3w)) (x := zeg q0i q0o q3m q3w) (d := default) (V := fun r => ((AV.v (TV.one (At.bool r))), [])) (fun r => rfl) hp)
  · cases hp)
noncomputable def zuk : List PT → Option (Bool × AV × List Blk)
  | [.one (.row 1 q0i (.il .u8 q0o)), .one (.s (.int .i64 i)), .one (.s (.int .i64 n_))] => some ((zk5 q0i q0o i n_), ((AV.v (TV.one (At.int .i64 (zgf q0i q0o i n_)))), []))
  | _ => none
def y1r (q0i : Nat) (q0o : List Int) (i : Int) (n_ : Int) : Option (Int) → Option (AV × List Blk)
  | some r => some ((AV.v (TV.one (At.int .i64 r))), [])
  | none => none
theorem ya9 (q0i : Nat) (q0o : List Int) (i : Int) (n_ : Int) : evFn Γ0 8 8 29 (impTs 0 [.one (.row 1 q0i (.il .u8 q0o)), .one (.s (.int .i64 i)), .one (.s (.int .i64 n_))]).1 (impTs 0 [.one (.row 1 q0i (.il .u8 q0o)), .one (.s (.int .i64 i)), .one (.s (.int .i64 n_))]).2 (expo (impTs 0 [.one (.row 1 q0i (.il .u8 q0o)), .one (.s (.int .i64 i)), .one (.s (.int .i64 n_))]).2.length) = zka q0i q0o i n_ (fun c0_ => some ((AV.v (TV.one (At.int .i64 c0_))), [])) := by kernel_rfl
theorem y6b : SumOne Try.prog 29 zuk := z16 (Γ := Γ0) (fuel := 8) (d := 8) tyTab_ok (FnL.ok fnTab_ok _ _) (LpL.ok zch) (SumL.ok zcb _) mixed (by
  intro pts v news hp hc
  clear hc
  unfold zuk at hp
  split at hp
  · rename_i q0i q0o i n_
    exact Eq.trans (Eq.trans (ya9 q0i q0o i n_) (y4n (y1r q0i q0o i n_) rfl q0i q0o i n_ (fun c0_ => some c0_))) (z0y (o := (y1r q0i q0o i n_)) (x := zjy q0i q0o i n_) (d := default) (V := fun r => ((AV.v (TV.one (At.int .i64 r))), [])) (fun r => rfl) hp)
  · cases hp)
noncomputable def zsv : List PT → Option (Bool × AV × List Blk)
  | [.one (.s (.flt .f64 a)), .one (.s (.flt .f64 b))] => some ((zg9 a b), ((AV.v (TV.one (At.flt .f64 (ze7 a b)))), []))
  | _ => none
def y0e (a : Nat) (b : Nat) : Option (Nat) → Option (AV × List Blk)
  | some r => some ((AV.v (TV.one (At.flt .f64 r))), [])
  | none => none
theorem y8x (a : Nat) (b : Nat) : evFn Γ0 8 8 38 (impTs 0 [.one (.s (.flt .f64 a)), .one (.s (.flt .f64 b))]).1 (impTs 0 [.one (.s (.flt .f64 a)), .one (.s (.flt .f64 b))]).2 (expo (impTs 0 [.one (.s (.flt .f64 a)), .one (.s (.flt .f64 b))]).2.length) = zg8 a b (fun c0_ => some ((AV.v (TV.one (At.flt .f64 c0_))), [])) := by kernel_rfl
theorem y58 : SumOne Try.prog 38 zsv := z16 (Γ := Γ0) (fuel := 8) (d := 8) tyTab_ok (FnL.ok fnTab_ok _ _) (LpL.ok zch) (SumL.ok zcb _) mixed (by
  intro pts v news hp hc
  clear hc
  unfold zsv at hp
  split at hp
  · rename_i a b
    exact Eq.trans (Eq.trans (y8x a b) (y3h (y0e a b) rfl a b (fun c0_ => some c0_))) (z0y (o := (y0e a b)) (x := zgj a b) (d := default) (V := fun r => ((AV.v (TV.one (At.flt .f64 r))), [])) (fun r => rfl) hp)
  · cases hp)
noncomputable def zkb : List PT → Option (Bool × AV × List Blk)
  | [.agg [.row 1 q00 (.fl .f32 q04), .row 1 q01 (.fl .f32 q05), .row 1 q02 (.fl .f32 q06), .row 3 q07 (.fl .f32 q09), .s (.int .i64 q0b), .s (.flt .f32 q0e), .s (.flt .f32 q0d)], .one (.s (.int .i64 i))] => some ((zd4 q00 q04 q01 q05 q02 q06 q07 q09 q0b q0e q0d i), ((AV.v (TV.one (At.flt .f32 (z7t q00 q04 q01 q05 q02 q06 q07 q09 q0b q0e q0d i)))), []))
  | _ => none
def zpm (q00 : Nat) (q04 : List Nat) (q01 : Nat) (q05 : List Nat) (q02 : Nat) (q06 : List Nat) (q07 : Nat) (q09 : List Nat) (q0b : Int) (q0e : Nat) (q0d : Nat) (i : Int) : Option (Nat) → Option (AV × List Blk)
  | some r => some ((AV.v (TV.one (At.flt .f32 r))), [])
  | none => none
theorem zx9 (q00 : Nat) (q04 : List Nat) (q01 : Nat) (q05 : List Nat) (q02 : Nat) (q06 : List Nat) (q07 : Nat) (q09 : List Nat) (q0b : Int) (q0e : Nat) (q0d : Nat) (i : Int) : evFn Γ0 8 8 84 (impTs 0 [.agg [.row 1 q00 (.fl .f32 q04), .row 1 q01 (.fl .f32 q05), .row 1 q02 (.fl .f32 q06), .row 3 q07 (.fl .f32 q09), .s (.int .i64 q0b), .s (.flt .f32 q0e), .s (.flt .f32 q0d)], .one (.s (.int .i64 i))]).1 (impTs 0 [.agg [.row 1 q00 (.fl .f32 q04), .row 1 q01 (.fl .f32 q05), .row 1 q02 (.fl .f32 q06), .row 3 q07 (.fl .f32 q09), .s (.int .i64 q0b), .s (.flt .f32 q0e), .s (.flt .f32 q0d)], .one (.s (.int .i64 i))]).2 (expo (impTs 0 [.agg [.row 1 q00 (.fl .f32 q04), .row 1 q01 (.fl .f32 q05), .row 1 q02 (.fl .f32 q06), .row 3 q07 (.fl .f32 q09), .s (.int .i64 q0b), .s (.flt .f32 q0e), .s (.flt .f32 q0d)], .one (.s (.int .i64 i))]).2.length) = z8k q00 q04 q01 q05 q02 q06 q07 q09 q0b q0e q0d i (fun c0_ => some ((AV.v (TV.one (At.flt .f32 c0_))), [])) := by kernel_rfl
theorem zv0 : SumOne Try.prog 84 zkb := z16 (Γ := Γ0) (fuel := 8) (d := 8) tyTab_ok (FnL.ok fnTab_ok _ _) (LpL.ok zch) (SumL.ok zcb _) mixed (by
  intro pts v news hp hc
  clear hc
  unfold zkb at hp
  split at hp
  · rename_i q00 q04 q01 q05 q02 q06 q07 q09 q0b q0e q0d i
    exact Eq.trans (Eq.trans (zx9 q00 q04 q01 q05 q02 q06 q07 q09 q0b q0e q0d i) (ztv (zpm q00 q04 q01 q05 q02 q06 q07 q09 q0b q0e q0d i) rfl q00 q04 q01 q05 q02 q06 q07 q09 q0b q0e q0d i (fun c0_ => some c0_))) (z0y (o := (zpm q00 q04 q01 q05 q02 q06 q07 q09 q0b q0e q0d i)) (x := z8j q00 q04 q01 q05 q02 q06 q07 q09 q0b q0e q0d i) (d := default) (V := fun r => ((AV.v (TV.one (At.flt .f32 r))), [])) (fun r => rfl) hp)
  · cases hp)
noncomputable def zsk : List PT → Option (Bool × AV × List Blk)
  | [.one (.s (.int .i64 n_)), .one (.s (.int .i64 low)), .one (.s (.int .i64 q35))] => some ((zge n_ low q35), ((AV.v (TV.one (At.bool (zei n_ low q35)))), []))
  | _ => none
def y08 (n_ : Int) (low : Int) (q35 : Int) : Option (Bool) → Option (AV × List Blk)
  | some r => some ((AV.v (TV.one (At.bool r))), [])
  | none => none
theorem y92 (n_ : Int) (low : Int) (q35 : Int) : evFn Γ0 8 8 89 (impTs 0 [.one (.s (.int .i64 n_)), .one (.s (.int .i64 low)), .one (.s (.int .i64 q35))]).1 (impTs 0 [.one (.s (.int .i64 n_)), .one (.s (.int .i64 low)), .one (.s (.int .i64 q35))]).2 (expo (impTs 0 [.one (.s (.int .i64 n_)), .one (.s (.int .i64 low)), .one (.s (.int .i64 q35))]).2.length) = zgi n_ low q35 (fun c0_ => some ((AV.v (TV.one (At.bool c0_))), [])) := by kernel_rfl
theorem y4r : SumOne Try.prog 89 zsk := z16 (Γ := Γ0) (fuel := 8) (d := 8) tyTab_ok (FnL.ok fnTab_ok _ _) (LpL.ok zch) (SumL.ok zcb _) mixed (by
  intro pts v news hp hc
  clear hc
  unfold zsk at hp
  split at hp
  · rename_i n_ low q35
    exact Eq.trans (Eq.trans (y92 n_ low q35) (y38 (y08 n_ low q35) rfl n_ low q35 (fun c0_ => some c0_))) (z0y (o := (y08 n_ low q35)) (x := zgd n_ low q35) (d := default) (V := fun r => ((AV.v (TV.one (At.bool r))), [])) (fun r => rfl) hp)
  · cases hp)
noncomputable def zzh : List PT → Option (Bool × AV × List Blk)
  | [] => some (zpy, ((AV.v (TV.one (At.flt .f64 zlk))), []))
  | _ => none
def y62  : Option (Nat) → Option (AV × List Blk)
  | some r => some ((AV.v (TV.one (At.flt .f64 r))), [])
  | none => none
theorem yct  : evFn Γ0 8 8 102 (impTs 0 []).1 (impTs 0 []).2 (expo (impTs 0 []).2.length) = zni (fun c0_ => some ((AV.v (TV.one (At.flt .f64 c0_))), [])) := by kernel_rfl
theorem y8w : SumOne Try.prog 102 zzh := z16 (Γ := Γ0) (fuel := 8) (d := 8) tyTab_ok (FnL.ok fnTab_ok _ _) (LpL.ok zch) (SumL.ok zcb _) mixed (by
  intro pts v news hp hc
  clear hc
  unfold zzh at hp
  split at hp
  · exact Eq.trans (Eq.trans (yct) (y7o y62 rfl  (fun c0_ => some c0_))) (z0y (o := y62) (x := zng) (d := default) (V := fun r => ((AV.v (TV.one (At.flt .f64 r))), [])) (fun r => rfl) hp)
  · cases hp)
noncomputable def zq4 : List PT → Option (Bool × AV × List Blk)
  | [.one (.s (.flt .f32 x)), .one (.s (.flt .f32 low)), .one (.s (.flt .f32 q35))] => some ((zic x low q35), ((AV.v (TV.one (At.bool (zer x low q35)))), []))
  | _ => none
def zvr (x : Nat) (low : Nat) (q35 : Nat) : Option (Bool) → Option (AV × List Blk)
  | some r => some ((AV.v (TV.one (At.bool r))), [])
  | none => none
theorem y65 (x : Nat) (low : Nat) (q35 : Nat) : evFn Γ0 8 8 123 (impTs 0 [.one (.s (.flt .f32 x)), .one (.s (.flt .f32 low)), .one (.s (.flt .f32 q35))]).1 (impTs 0 [.one (.s (.flt .f32 x)), .one (.s (.flt .f32 low)), .one (.s (.flt .f32 q35))]).2 (expo (impTs 0 [.one (.s (.flt .f32 x)), .one (.s (.flt .f32 low)), .one (.s (.flt .f32 q35))]).2.length) = zcu x low q35 (fun c0_ => some ((AV.v (TV.one (At.bool c0_))), [])) := by kernel_rfl
theorem y23 : SumOne Try.prog 123 zq4 := z16 (Γ := Γ0) (fuel := 8) (d := 8) tyTab_ok (FnL.ok fnTab_ok _ _) (LpL.ok zch) (SumL.ok zcb _) mixed (by
  intro pts v news hp hc
  clear hc
  unfold zq4 at hp
  split at hp
  · rename_i x low q35
    exact Eq.trans (Eq.trans (y65 x low q35) (y0m (zvr x low q35) rfl x low q35 (fun c0_ => some c0_))) (z0y (o := (zvr x low q35)) (x := zco x low q35) (d := default) (V := fun r => ((AV.v (TV.one (At.bool r))), [])) (fun r => rfl) hp)
  · cases hp)
noncomputable def zuq : List PT → Option (Bool × AV × List Blk)
  | [.one (.s (.flt .f32 a)), .one (.s (.flt .f32 b)), .one (.s (.flt .f32 q3v))] => some ((zmh a b q3v), ((AV.v (TV.one (At.flt .f32 (zlc a b q3v)))), []))
  | _ => none
def y1s (a : Nat) (b : Nat) (q3v : Nat) : Option (Nat) → Option (AV × List Blk)
  | some r => some ((AV.v (TV.one (At.flt .f32 r))), [])
  | none => none
theorem y9b (a : Nat) (b : Nat) (q3v : Nat) : evFn Γ0 8 8 126 (impTs 0 [.one (.s (.flt .f32 a)), .one (.s (.flt .f32 b)), .one (.s (.flt .f32 q3v))]).1 (impTs 0 [.one (.s (.flt .f32 a)), .one (.s (.flt .f32 b)), .one (.s (.flt .f32 q3v))]).2 (expo (impTs 0 [.one (.s (.flt .f32 a)), .one (.s (.flt .f32 b)), .one (.s (.flt .f32 q3v))]).2.length) = zmx a b q3v (fun c0_ => some ((AV.v (TV.one (At.flt .f32 c0_))), [])) := by kernel_rfl
theorem y6o : SumOne Try.prog 126 zuq := z16 (Γ := Γ0) (fuel := 8) (d := 8) tyTab_ok (FnL.ok fnTab_ok _ _) (LpL.ok zch) (SumL.ok zcb _) mixed (by
  intro pts v news hp hc
  clear hc
  unfold zuq at hp
  split at hp
  · rename_i a b q3v
    exact Eq.trans (Eq.trans (y9b a b q3v) (y4t (y1s a b q3v) rfl a b q3v (fun c0_ => some c0_))) (z0y (o := (y1s a b q3v)) (x := zmc a b q3v) (d := default) (V := fun r => ((AV.v (TV.one (At.flt .f32 r))), [])) (fun r => rfl) hp)
  · cases hp)
noncomputable def zso : List PT → Option (Bool × AV × List Blk)
  | [] => some (zlg, ((AV.v (TV.agg [(At.sl 0 0 0 1), (At.sl 1 0 0 1), (At.sl 2 0 0 1)])), [(Blk.mk Bool.true (Body.fl .f32 z2y)), (Blk.mk Bool.true (Body.fl .f32 z30)), (Blk.mk Bool.true (Body.fl .f32 z2z))]))
  | _ => none
def y0h  : Option ((List Nat) × (List Nat) × (List Nat)) → Option (AV × List Blk)
  | some r => some ((AV.v (TV.agg [(At.sl 0 0 0 1), (At.sl 1 0 0 1), (At.sl 2 0 0 1)])), [(Blk.mk Bool.true (Body.fl .f32 r.1)), (Blk.mk Bool.true (Body.fl .f32 r.2.1)), (Blk.mk Bool.true (Body.fl .f32 r.2.2))])
  | none => none
theorem y8z  : evFn Γ0 8 8 143 (impTs 0 []).1 (impTs 0 []).2 (expo (impTs 0 []).2.length) = zlf (fun c0_ c1_ c2_ => some ((AV.v (TV.agg [(At.sl 0 0 0 1), (At.sl 1 0 0 1), (At.sl 2 0 0 1)])), [(Blk.mk Bool.true (Body.fl .f32 c0_)), (Blk.mk Bool.true (Body.fl .f32 c1_)), (Blk.mk Bool.true (Body.fl .f32 c2_))])) := by kernel_rfl
theorem y51 : SumOne Try.prog 143 zso := z16 (Γ := Γ0) (fuel := 8) (d := 8) tyTab_ok (FnL.ok fnTab_ok _ _) (LpL.ok zch) (SumL.ok zcb _) mixed (by
  intro pts v news hp hc
  clear hc
  unfold zso at hp
  split at hp
  · exact Eq.trans (Eq.trans (y8z) (y42 y0h rfl  (fun c0_ c1_ c2_ => some (c0_, c1_, c2_)))) (z0y (o := y0h) (x := zbe) (d := default) (V := fun r => ((AV.v (TV.agg [(At.sl 0 0 0 1), (At.sl 1 0 0 1), (At.sl 2 0 0 1)])), [(Blk.mk Bool.true (Body.fl .f32 r.1)), (Blk.mk Bool.true (Body.fl .f32 r.2.1)), (Blk.mk Bool.true (Body.fl .f32 r.2.2))])) (fun r => rfl) hp)
  · cases hp)
noncomputable def z72 : List PT → Option (Bool × AV × List Blk)
  | [.one (.row 3 s_n (.fl .f32 s))] => some ((z4x s_n s), ((AV.v (TV.one (At.sl 0 0 (z4n s_n s) 3))), [(Blk.mk Bool.true (Body.fl .f32 (z4o s_n s)))]))
  | _ => none
def z3m (s_n : Nat) (s : List Nat) : Option (Nat × (List Nat)) → Option (AV × List Blk)
  | some r => some ((AV.v (TV.one (At.sl 0 0 r.1 3))), [(Blk.mk Bool.true (Body.fl .f32 r.2))])
  | none => none
theorem zj4 (s_n : Nat) (s : List Nat) : ∀ a b, (z3m s_n s) a = (z3m s_n s) b → a = b := by
  intro a b h
  cases a <;> cases b <;> simp_all [z3m, Prod.ext_iff]
theorem zkp (s_n : Nat) (s : List Nat) : evFn Γ0 8 8 149 (impTs 0 [.one (.row 3 s_n (.fl .f32 s))]).1 (impTs 0 [.one (.row 3 s_n (.fl .f32 s))]).2 (expo (impTs 0 [.one (.row 3 s_n (.fl .f32 s))]).2.length) = z2s s_n s (fun c0_ c1_ => some ((AV.v (TV.one (At.sl 0 0 c0_ 3))), [(Blk.mk Bool.true (Body.fl .f32 c1_))])) := by kernel_rfl
theorem ziu : SumOne Try.prog 149 z72 := z16 (Γ := Γ0) (fuel := 8) (d := 8) tyTab_ok (FnL.ok fnTab_ok _ _) (LpL.ok zch) (SumL.ok zcb _) mixed (by
  intro pts v news hp hc
  clear hc
  unfold z72 at hp
  split at hp
  · rename_i s_n s
    exact Eq.trans (Eq.trans (zkp s_n s) (zha (z3m s_n s) rfl (zj4 s_n s) s_n s (fun c0_ c1_ => some (c0_, c1_)))) (z0y (o := (z3m s_n s)) (x := z1u s_n s) (d := default) (V := fun r => ((AV.v (TV.one (At.sl 0 0 r.1 3))), [(Blk.mk Bool.true (Body.fl .f32 r.2))])) (fun r => rfl) hp)
  · cases hp)
noncomputable def zrp : List PT → Option (Bool × AV × List Blk)
  | [.one (.s (.flt .f32 x))] => some ((zk4 x), ((AV.v (TV.one (At.int .i64 (zi4 x)))), []))
  | _ => none
def zy6 (x : Nat) : Option (Int) → Option (AV × List Blk)
  | some r => some ((AV.v (TV.one (At.int .i64 r))), [])
  | none => none
theorem y7m (x : Nat) : evFn Γ0 8 8 151 (impTs 0 [.one (.s (.flt .f32 x))]).1 (impTs 0 [.one (.s (.flt .f32 x))]).2 (expo (impTs 0 [.one (.s (.flt .f32 x))]).2.length) = zee x (fun c0_ => some ((AV.v (TV.one (At.int .i64 c0_))), [])) := by kernel_rfl
theorem y3r : SumOne Try.prog 151 zrp := z16 (Γ := Γ0) (fuel := 8) (d := 8) tyTab_ok (FnL.ok fnTab_ok _ _) (LpL.ok zch) (SumL.ok zcb _) mixed (by
  intro pts v news hp hc
  clear hc
  unfold zrp at hp
  split at hp
  · rename_i x
    exact Eq.trans (Eq.trans (y7m x) (y25 (zy6 x) rfl x (fun c0_ => some c0_))) (z0y (o := (zy6 x)) (x := zeb x) (d := default) (V := fun r => ((AV.v (TV.one (At.int .i64 r))), [])) (fun r => rfl) hp)
  · cases hp)
noncomputable def zg3 : List PT → Option (Bool × AV × List Blk)
  | [.one (.row 1 s_n (.fl .f32 s))] => some ((z7b s_n s), ((AV.v (TV.one (At.sl 0 0 (z6w s_n s) 1))), [(Blk.mk Bool.true (Body.fl .f32 (z6y s_n s)))]))
  | _ => none
def z92 (s_n : Nat) (s : List Nat) : Option (Nat × (List Nat)) → Option (AV × List Blk)
  | some r => some ((AV.v (TV.one (At.sl 0 0 r.1 1))), [(Blk.mk Bool.true (Body.fl .f32 r.2))])
  | none => none
theorem ztl (s_n : Nat) (s : List Nat) : ∀ a b, (z92 s_n s) a = (z92 s_n s) b → a = b := by
  intro a b h
  cases a <;> cases b <;> simp_all [z92, Prod.ext_iff]
theorem zvl (s_n : Nat) (s : List Nat) : evFn Γ0 8 8 152 (impTs 0 [.one (.row 1 s_n (.fl .f32 s))]).1 (impTs 0 [.one (.row 1 s_n (.fl .f32 s))]).2 (expo (impTs 0 [.one (.row 1 s_n (.fl .f32 s))]).2.length) = z79 s_n s (fun c0_ c1_ => some ((AV.v (TV.one (At.sl 0 0 c0_ 1))), [(Blk.mk Bool.true (Body.fl .f32 c1_))])) := by kernel_rfl
theorem zst : SumOne Try.prog 152 zg3 := z16 (Γ := Γ0) (fuel := 8) (d := 8) tyTab_ok (FnL.ok fnTab_ok _ _) (LpL.ok zch) (SumL.ok zcb _) mixed (by
  intro pts v news hp hc
  clear hc
  unfold zg3 at hp
  split at hp
  · rename_i s_n s
    exact Eq.trans (Eq.trans (zvl s_n s) (zs5 (z92 s_n s) rfl (ztl s_n s) s_n s (fun c0_ c1_ => some (c0_, c1_)))) (z0y (o := (z92 s_n s)) (x := z5v s_n s) (d := default) (V := fun r => ((AV.v (TV.one (At.sl 0 0 r.1 1))), [(Blk.mk Bool.true (Body.fl .f32 r.2))])) (fun r => rfl) hp)
  · cases hp)
noncomputable def zrk : List PT → Option (Bool × AV × List Blk)
  | [.one (.s (.flt .f64 x))] => some ((zkk x), ((AV.v (TV.one (At.bool (zhe x)))), []))
  | _ => none
def zyf (x : Nat) : Option (Bool) → Option (AV × List Blk)
  | some r => some ((AV.v (TV.one (At.bool r))), [])
  | none => none
theorem y7l (x : Nat) : evFn Γ0 8 8 153 (impTs 0 [.one (.s (.flt .f64 x))]).1 (impTs 0 [.one (.s (.flt .f64 x))]).2 (expo (impTs 0 [.one (.s (.flt .f64 x))]).2.length) = zem x (fun c0_ => some ((AV.v (TV.one (At.bool c0_))), [])) := by kernel_rfl
theorem y3i : SumOne Try.prog 153 zrk := z16 (Γ := Γ0) (fuel := 8) (d := 8) tyTab_ok (FnL.ok fnTab_ok _ _) (LpL.ok zch) (SumL.ok zcb _) mixed (by
  intro pts v news hp hc
  clear hc
  unfold zrk at hp
  split at hp
  · rename_i x
    exact Eq.trans (Eq.trans (y7l x) (y1p (zyf x) rfl x (fun c0_ => some c0_))) (z0y (o := (zyf x)) (x := ze8 x) (d := default) (V := fun r => ((AV.v (TV.one (At.bool r))), [])) (fun r => rfl) hp)
  · cases hp)
noncomputable def zyw : List PT → Option (Bool × AV × List Blk)
  | [.one (.s (.flt .f64 x))] => some ((zto x), ((AV.v (TV.one (At.flt .f64 (zry x)))), []))
  | _ => none
def y5n (x : Nat) : Option (Nat) → Option (AV × List Blk)
  | some r => some ((AV.v (TV.one (At.flt .f64 r))), [])
  | none => none
theorem ycm (x : Nat) : evFn Γ0 8 8 157 (impTs 0 [.one (.s (.flt .f64 x))]).1 (impTs 0 [.one (.s (.flt .f64 x))]).2 (expo (impTs 0 [.one (.s (.flt .f64 x))]).2.length) = zn3 x (fun c0_ => some ((AV.v (TV.one (At.flt .f64 c0_))), [])) := by kernel_rfl
theorem y94 : SumOne Try.prog 157 zyw := z16 (Γ := Γ0) (fuel := 8) (d := 8) tyTab_ok (FnL.ok fnTab_ok _ _) (LpL.ok zch) (SumL.ok zcb _) mixed (by
  intro pts v news hp hc
  clear hc
  unfold zyw at hp
  split at hp
  · rename_i x
    exact Eq.trans (Eq.trans (ycm x) (y75 (y5n x) rfl x (fun c0_ => some c0_))) (z0y (o := (y5n x)) (x := zn2 x) (d := default) (V := fun r => ((AV.v (TV.one (At.flt .f64 r))), [])) (fun r => rfl) hp)
  · cases hp)
noncomputable def zpe : List PT → Option (Bool × AV × List Blk)
  | [.one (.s (.flt .f64 x))] => some ((zex x), ((AV.v (TV.one (At.flt .f32 (zap x)))), []))
  | _ => none
def zuj (x : Nat) : Option (Nat) → Option (AV × List Blk)
  | some r => some ((AV.v (TV.one (At.flt .f32 r))), [])
  | none => none
theorem y5a (x : Nat) : evFn Γ0 8 8 187 (impTs 0 [.one (.s (.flt .f64 x))]).1 (impTs 0 [.one (.s (.flt .f64 x))]).2 (expo (impTs 0 [.one (.s (.flt .f64 x))]).2.length) = zbp x (fun c0_ => some ((AV.v (TV.one (At.flt .f32 c0_))), [])) := by kernel_rfl
theorem y1a : SumOne Try.prog 187 zpe := z16 (Γ := Γ0) (fuel := 8) (d := 8) tyTab_ok (FnL.ok fnTab_ok _ _) (LpL.ok zch) (SumL.ok zcb _) mixed (by
  intro pts v news hp hc
  clear hc
  unfold zpe at hp
  split at hp
  · rename_i x
    exact Eq.trans (Eq.trans (y5a x) (y05 (zuj x) rfl x (fun c0_ => some c0_))) (z0y (o := (zuj x)) (x := zbv x) (d := default) (V := fun r => ((AV.v (TV.one (At.flt .f32 r))), [])) (fun r => rfl) hp)
  · cases hp)
noncomputable def tb1 : List (Nat × (List PT → Option (Bool × AV × List Blk))) := (26, zqm) :: (27, zri) :: (29, zuk) :: (38, zsv) :: (84, zkb) :: (89, zsk) :: (102, zzh) :: (123, zq4) :: (126, zuq) :: (143, zso) :: (149, z72) :: (151, zrp) :: (152, zg3) :: (153, zrk) :: (157, zyw) :: (187, zpe) :: tb0
noncomputable def lt1 : List ((Nat × Nat) × (Nat → St → Option (Bool × LO))) := lt0
noncomputable def Γ1 : Ctx := ⟨tyTab, fnTab, tblSum tb1, tblLp lt1⟩
theorem zmj : SumL Try.prog tb1 := SumL.cons y30 (SumL.cons y3v (SumL.cons y6b (SumL.cons y58 (SumL.cons zv0 (SumL.cons y4r (SumL.cons y8w (SumL.cons y23 (SumL.cons y6o (SumL.cons y51 (SumL.cons ziu (SumL.cons y3r (SumL.cons zst (SumL.cons y3i (SumL.cons y94 (SumL.cons y1a (zcb))))))))))))))))
theorem zme : LpL Try.prog fnTab lt1 := zch
noncomputable def zro : List PT → Option (Bool × AV × List Blk)
  | [.one (.s (.flt .f32 x))] => some ((zej x), ((AV.tup [(TV.one (At.flt .f32 (zcv x))), (TV.one (At.bool (zcx x)))]), []))
  | _ => none
def zyh (x : Nat) : Option (Nat × Bool) → Option (AV × List Blk)
  | some r => some ((AV.tup [(TV.one (At.flt .f32 r.1)), (TV.one (At.bool r.2))]), [])
  | none => none
theorem y77 (x : Nat) : evFn Γ1 8 8 74 (impTs 0 [.one (.s (.flt .f32 x))]).1 (impTs 0 [.one (.s (.flt .f32 x))]).2 (expo (impTs 0 [.one (.s (.flt .f32 x))]).2.length) = zed x (fun c0_ c1_ => some ((AV.tup [(TV.one (At.flt .f32 c0_)), (TV.one (At.bool c1_))]), [])) := by kernel_rfl
theorem y41 : SumOne Try.prog 74 zro := z16 (Γ := Γ1) (fuel := 8) (d := 8) tyTab_ok (FnL.ok fnTab_ok _ _) (LpL.ok zme) (SumL.ok zmj _) mixed (by
  intro pts v news hp hc
  clear hc
  unfold zro at hp
  split at hp
  · rename_i x
    exact Eq.trans (Eq.trans (y77 x) (y1q (zyh x) rfl x (fun c0_ c1_ => some (c0_, c1_)))) (z0y (o := (zyh x)) (x := zbl x) (d := default) (V := fun r => ((AV.tup [(TV.one (At.flt .f32 r.1)), (TV.one (At.bool r.2))]), [])) (fun r => rfl) hp)
  · cases hp)
noncomputable def zip : List PT → Option (Bool × AV × List Blk)
  | [.agg [.row 1 q00 (.fl .f32 q04), .row 1 q01 (.fl .f32 q05), .row 1 q02 (.fl .f32 q06), .row 3 q07 (.fl .f32 q09), .s (.int .i64 q0b), .s (.flt .f32 q0e), .s (.flt .f32 q0d)], .one (.s (.int .i64 i))] => some ((z69 q00 q04 q01 q05 q02 q06 q07 q09 q0b q0e q0d i), ((AV.v (TV.one (At.bool (z5s q00 q04 q01 q05 q02 q06 q07 q09 q0b q0e q0d i)))), []))
  | _ => none
def zoc (q00 : Nat) (q04 : List Nat) (q01 : Nat) (q05 : List Nat) (q02 : Nat) (q06 : List Nat) (q07 : Nat) (q09 : List Nat) (q0b : Int) (q0e : Nat) (q0d : Nat) (i : Int) : Option (Bool) → Option (AV × List Blk)
  | some r => some ((AV.v (TV.one (At.bool r))), [])
  | none => none
theorem zx2 (q00 : Nat) (q04 : List Nat) (q01 : Nat) (q05 : List Nat) (q02 : Nat) (q06 : List Nat) (q07 : Nat) (q09 : List Nat) (q0b : Int) (q0e : Nat) (q0d : Nat) (i : Int) : evFn Γ1 8 8 83 (impTs 0 [.agg [.row 1 q00 (.fl .f32 q04), .row 1 q01 (.fl .f32 q05), .row 1 q02 (.fl .f32 q06), .row 3 q07 (.fl .f32 q09), .s (.int .i64 q0b), .s (.flt .f32 q0e), .s (.flt .f32 q0d)], .one (.s (.int .i64 i))]).1 (impTs 0 [.agg [.row 1 q00 (.fl .f32 q04), .row 1 q01 (.fl .f32 q05), .row 1 q02 (.fl .f32 q06), .row 3 q07 (.fl .f32 q09), .s (.int .i64 q0b), .s (.flt .f32 q0e), .s (.flt .f32 q0d)], .one (.s (.int .i64 i))]).2 (expo (impTs 0 [.agg [.row 1 q00 (.fl .f32 q04), .row 1 q01 (.fl .f32 q05), .row 1 q02 (.fl .f32 q06), .row 3 q07 (.fl .f32 q09), .s (.int .i64 q0b), .s (.flt .f32 q0e), .s (.flt .f32 q0d)], .one (.s (.int .i64 i))]).2.length) = z7x q00 q04 q01 q05 q02 q06 q07 q09 q0b q0e q0d i (fun c0_ => some ((AV.v (TV.one (At.bool c0_))), [])) := by kernel_rfl
theorem ztu : SumOne Try.prog 83 zip := z16 (Γ := Γ1) (fuel := 8) (d := 8) tyTab_ok (FnL.ok fnTab_ok _ _) (LpL.ok zme) (SumL.ok zmj _) mixed (by
  intro pts v news hp hc
  clear hc
  unfold zip at hp
  split at hp
  · rename_i q00 q04 q01 q05 q02 q06 q07 q09 q0b q0e q0d i
    exact Eq.trans (Eq.trans (zx2 q00 q04 q01 q05 q02 q06 q07 q09 q0b q0e q0d i) (zsl (zoc q00 q04 q01 q05 q02 q06 q07 q09 q0b q0e q0d i) rfl q00 q04 q01 q05 q02 q06 q07 q09 q0b q0e q0d i (fun c0_ => some c0_))) (z0y (o := (zoc q00 q04 q01 q05 q02 q06 q07 q09 q0b q0e q0d i)) (x := z7v q00 q04 q01 q05 q02 q06 q07 q09 q0b q0e q0d i) (d := default) (V := fun r => ((AV.v (TV.one (At.bool r))), [])) (fun r => rfl) hp)
  · cases hp)
noncomputable def zsn : List PT → Option (Bool × AV × List Blk)
  | [.one (.s (.flt .f32 q11))] => some ((zlj q11), ((AV.v (TV.one (At.bool (zki q11)))), []))
  | _ => none
def y0g (q11 : Nat) : Option (Bool) → Option (AV × List Blk)
  | some r => some ((AV.v (TV.one (At.bool r))), [])
  | none => none
theorem y90 (q11 : Nat) : evFn Γ1 8 8 85 (impTs 0 [.one (.s (.flt .f32 q11))]).1 (impTs 0 [.one (.s (.flt .f32 q11))]).2 (expo (impTs 0 [.one (.s (.flt .f32 q11))]).2.length) = zgc q11 (fun c0_ => some ((AV.v (TV.one (At.bool c0_))), [])) := by kernel_rfl
theorem y5b : SumOne Try.prog 85 zsn := z16 (Γ := Γ1) (fuel := 8) (d := 8) tyTab_ok (FnL.ok fnTab_ok _ _) (LpL.ok zme) (SumL.ok zmj _) mixed (by
  intro pts v news hp hc
  clear hc
  unfold zsn at hp
  split at hp
  · rename_i q11
    exact Eq.trans (Eq.trans (y90 q11) (y36 (y0g q11) rfl q11 (fun c0_ => some c0_))) (z0y (o := (y0g q11)) (x := zgb q11) (d := default) (V := fun r => ((AV.v (TV.one (At.bool r))), [])) (fun r => rfl) hp)
  · cases hp)
noncomputable def zr8 : List PT → Option (Bool × AV × List Blk)
  | [.one (.s (.flt .f32 x))] => some ((zkf x), ((AV.v (TV.one (At.bool (zhp x)))), []))
  | _ => none
def zyj (x : Nat) : Option (Bool) → Option (AV × List Blk)
  | some r => some ((AV.v (TV.one (At.bool r))), [])
  | none => none
theorem y7e (x : Nat) : evFn Γ1 8 8 90 (impTs 0 [.one (.s (.flt .f32 x))]).1 (impTs 0 [.one (.s (.flt .f32 x))]).2 (expo (impTs 0 [.one (.s (.flt .f32 x))]).2.length) = zef x (fun c0_ => some ((AV.v (TV.one (At.bool c0_))), [])) := by kernel_rfl
theorem y3m : SumOne Try.prog 90 zr8 := z16 (Γ := Γ1) (fuel := 8) (d := 8) tyTab_ok (FnL.ok fnTab_ok _ _) (LpL.ok zme) (SumL.ok zmj _) mixed (by
  intro pts v news hp hc
  clear hc
  unfold zr8 at hp
  split at hp
  · rename_i x
    exact Eq.trans (Eq.trans (y7e x) (y21 (zyj x) rfl x (fun c0_ => some c0_))) (z0y (o := (zyj x)) (x := zea x) (d := default) (V := fun r => ((AV.v (TV.one (At.bool r))), [])) (fun r => rfl) hp)
  · cases hp)
noncomputable def zrn : List PT → Option (Bool × AV × List Blk)
  | [.one (.s (.flt .f32 a)), .one (.s (.flt .f32 b))] => some ((zn8 a b), ((AV.v (TV.one (At.bool (zlx a b)))), []))
  | _ => none
def zxn (a : Nat) (b : Nat) : Option (Bool) → Option (AV × List Blk)
  | some r => some ((AV.v (TV.one (At.bool r))), [])
  | none => none
theorem y70 (a : Nat) (b : Nat) : evFn Γ1 8 8 91 (impTs 0 [.one (.s (.flt .f32 a)), .one (.s (.flt .f32 b))]).1 (impTs 0 [.one (.s (.flt .f32 a)), .one (.s (.flt .f32 b))]).2 (expo (impTs 0 [.one (.s (.flt .f32 a)), .one (.s (.flt .f32 b))]).2.length) = zel a b (fun c0_ => some ((AV.v (TV.one (At.bool c0_))), [])) := by kernel_rfl
theorem y3o : SumOne Try.prog 91 zrn := z16 (Γ := Γ1) (fuel := 8) (d := 8) tyTab_ok (FnL.ok fnTab_ok _ _) (LpL.ok zme) (SumL.ok zmj _) mixed (by
  intro pts v news hp hc
  clear hc
  unfold zrn at hp
  split at hp
  · rename_i a b
    exact Eq.trans (Eq.trans (y70 a b) (y1m (zxn a b) rfl a b (fun c0_ => some c0_))) (z0y (o := (zxn a b)) (x := ze6 a b) (d := default) (V := fun r => ((AV.v (TV.one (At.bool r))), [])) (fun r => rfl) hp)
  · cases hp)
noncomputable def zml : List PT → Option (Bool × AV × List Blk)
  | [.agg [.row 1 q0h (.fl .f32 q0n), .row 1 q0j (.fl .f32 q0p), .row 1 q0k (.fl .f32 q0q)]] => some ((zcc q0h q0n q0j q0p q0k q0q), ((AV.v (TV.agg [(At.sl 0 0 (z5m q0h q0n q0j q0p q0k q0q) 1), (At.sl 1 0 (z5k q0h q0n q0j q0p q0k q0q) 1), (At.sl 2 0 (z5j q0h q0n q0j q0p q0k q0q) 1)])), [(Blk.mk Bool.true (Body.fl .f32 (z8c q0h q0n q0j q0p q0k q0q))), (Blk.mk Bool.true (Body.fl .f32 (z8b q0h q0n q0j q0p q0k q0q))), (Blk.mk Bool.true (Body.fl .f32 (z8d q0h q0n q0j q0p q0k q0q)))]))
  | _ => none
def zsf (q0h : Nat) (q0n : List Nat) (q0j : Nat) (q0p : List Nat) (q0k : Nat) (q0q : List Nat) : Option (Nat × Nat × Nat × (List Nat) × (List Nat) × (List Nat)) → Option (AV × List Blk)
  | some r => some ((AV.v (TV.agg [(At.sl 0 0 r.1 1), (At.sl 1 0 r.2.1 1), (At.sl 2 0 r.2.2.1 1)])), [(Blk.mk Bool.true (Body.fl .f32 r.2.2.2.1)), (Blk.mk Bool.true (Body.fl .f32 r.2.2.2.2.1)), (Blk.mk Bool.true (Body.fl .f32 r.2.2.2.2.2))])
  | none => none
theorem y1e (q0h : Nat) (q0n : List Nat) (q0j : Nat) (q0p : List Nat) (q0k : Nat) (q0q : List Nat) : evFn Γ1 8 8 92 (impTs 0 [.agg [.row 1 q0h (.fl .f32 q0n), .row 1 q0j (.fl .f32 q0p), .row 1 q0k (.fl .f32 q0q)]]).1 (impTs 0 [.agg [.row 1 q0h (.fl .f32 q0n), .row 1 q0j (.fl .f32 q0p), .row 1 q0k (.fl .f32 q0q)]]).2 (expo (impTs 0 [.agg [.row 1 q0h (.fl .f32 q0n), .row 1 q0j (.fl .f32 q0p), .row 1 q0k (.fl .f32 q0q)]]).2.length) = za9 q0h q0n q0j q0p q0k q0q (fun c0_ c1_ c2_ c3_ c4_ c5_ => some ((AV.v (TV.agg [(At.sl 0 0 c0_ 1), (At.sl 1 0 c1_ 1), (At.sl 2 0 c2_ 1)])), [(Blk.mk Bool.true (Body.fl .f32 c3_)), (Blk.mk Bool.true (Body.fl .f32 c4_)), (Blk.mk Bool.true (Body.fl .f32 c5_))])) := by kernel_rfl
theorem zya : SumOne Try.prog 92 zml := z16 (Γ := Γ1) (fuel := 8) (d := 8) tyTab_ok (FnL.ok fnTab_ok _ _) (LpL.ok zme) (SumL.ok zmj _) mixed (by
  intro pts v news hp hc
  clear hc
  unfold zml at hp
  split at hp
  · rename_i q0h q0n q0j q0p q0k q0q
    exact Eq.trans (Eq.trans (y1e q0h q0n q0j q0p q0k q0q) (zwf (zsf q0h q0n q0j q0p q0k q0q) rfl q0h q0n q0j q0p q0k q0q (fun c0_ c1_ c2_ c3_ c4_ c5_ => some (c0_, c1_, c2_, c3_, c4_, c5_)))) (z0y (o := (zsf q0h q0n q0j q0p q0k q0q)) (x := z4g q0h q0n q0j q0p q0k q0q) (d := default) (V := fun r => ((AV.v (TV.agg [(At.sl 0 0 r.1 1), (At.sl 1 0 r.2.1 1), (At.sl 2 0 r.2.2.1 1)])), [(Blk.mk Bool.true (Body.fl .f32 r.2.2.2.1)), (Blk.mk Bool.true (Body.fl .f32 r.2.2.2.2.1)), (Blk.mk Bool.true (Body.fl .f32 r.2.2.2.2.2))])) (fun r => rfl) hp)
  · cases hp)
noncomputable def zo8 : List PT → Option (Bool × AV × List Blk)
  | [.one (.s (.flt .f32 a)), .one (.s (.flt .f32 b))] => some ((z6q a b), ((AV.v (TV.one (At.bool (z62 a b)))), []))
  | _ => none
def zta (a : Nat) (b : Nat) : Option (Bool) → Option (AV × List Blk)
  | some r => some ((AV.v (TV.one (At.bool r))), [])
  | none => none
theorem y3a (a : Nat) (b : Nat) : evFn Γ1 8 8 94 (impTs 0 [.one (.s (.flt .f32 a)), .one (.s (.flt .f32 b))]).1 (impTs 0 [.one (.s (.flt .f32 a)), .one (.s (.flt .f32 b))]).2 (expo (impTs 0 [.one (.s (.flt .f32 a)), .one (.s (.flt .f32 b))]).2.length) = zaz a b (fun c0_ => some ((AV.v (TV.one (At.bool c0_))), [])) := by kernel_rfl
theorem zze : SumOne Try.prog 94 zo8 := z16 (Γ := Γ1) (fuel := 8) (d := 8) tyTab_ok (FnL.ok fnTab_ok _ _) (LpL.ok zme) (SumL.ok zmj _) mixed (by
  intro pts v news hp hc
  clear hc
  unfold zo8 at hp
  split at hp
  · rename_i a b
    exact Eq.trans (Eq.trans (y3a a b) (zyi (zta a b) rfl a b (fun c0_ => some c0_))) (z0y (o := (zta a b)) (x := zav a b) (d := default) (V := fun r => ((AV.v (TV.one (At.bool r))), [])) (fun r => rfl) hp)
  · cases hp)
noncomputable def zsr : List PT → Option (Bool × AV × List Blk)
  | [.one (.s (.flt .f64 x))] => some ((zop x), ((AV.v (TV.one (At.bool (zn5 x)))), []))
  | _ => none
def y07 (x : Nat) : Option (Bool) → Option (AV × List Blk)
  | some r => some ((AV.v (TV.one (At.bool r))), [])
  | none => none
theorem y91 (x : Nat) : evFn Γ1 8 8 103 (impTs 0 [.one (.s (.flt .f64 x))]).1 (impTs 0 [.one (.s (.flt .f64 x))]).2 (expo (impTs 0 [.one (.s (.flt .f64 x))]).2.length) = zga x (fun c0_ => some ((AV.v (TV.one (At.bool c0_))), [])) := by kernel_rfl
theorem y56 : SumOne Try.prog 103 zsr := z16 (Γ := Γ1) (fuel := 8) (d := 8) tyTab_ok (FnL.ok fnTab_ok _ _) (LpL.ok zme) (SumL.ok zmj _) mixed (by
  intro pts v news hp hc
  clear hc
  unfold zsr at hp
  split at hp
  · rename_i x
    exact Eq.trans (Eq.trans (y91 x) (y3t (y07 x) rfl x (fun c0_ => some c0_))) (z0y (o := (y07 x)) (x := zgh x) (d := default) (V := fun r => ((AV.v (TV.one (At.bool r))), [])) (fun r => rfl) hp)
  · cases hp)
noncomputable def zmr : List PT → Option (Bool × AV × List Blk)
  | [.one (.s (.flt .f32 x))] => some ((zi1 x), ((AV.v (TV.one (At.bool (zfc x)))), []))
  | _ => none
def zsc (x : Nat) : Option (Bool) → Option (AV × List Blk)
  | some r => some ((AV.v (TV.one (At.bool r))), [])
  | none => none
theorem y1v (x : Nat) : evFn Γ1 8 8 148 (impTs 0 [.one (.s (.flt .f32 x))]).1 (impTs 0 [.one (.s (.flt .f32 x))]).2 (expo (impTs 0 [.one (.s (.flt .f32 x))]).2.length) = za0 x (fun c0_ => some ((AV.v (TV.one (At.bool c0_))), [])) := by kernel_rfl
theorem zy0 : SumOne Try.prog 148 zmr := z16 (Γ := Γ1) (fuel := 8) (d := 8) tyTab_ok (FnL.ok fnTab_ok _ _) (LpL.ok zme) (SumL.ok zmj _) mixed (by
  intro pts v news hp hc
  clear hc
  unfold zmr at hp
  split at hp
  · rename_i x
    exact Eq.trans (Eq.trans (y1v x) (zwr (zsc x) rfl x (fun c0_ => some c0_))) (z0y (o := (zsc x)) (x := za8 x) (d := default) (V := fun r => ((AV.v (TV.one (At.bool r))), [])) (fun r => rfl) hp)
  · cases hp)
noncomputable def zl6 : List PT → Option (Bool × AV × List Blk)
  | [.one (.s (.flt .f32 x))] => some ((ze1 x), ((AV.v (TV.one (At.bool (zcm x)))), []))
  | _ => none
def zq3 (x : Nat) : Option (Bool) → Option (AV × List Blk)
  | some r => some ((AV.v (TV.one (At.bool r))), [])
  | none => none
theorem zzq (x : Nat) : evFn Γ1 8 8 150 (impTs 0 [.one (.s (.flt .f32 x))]).1 (impTs 0 [.one (.s (.flt .f32 x))]).2 (expo (impTs 0 [.one (.s (.flt .f32 x))]).2.length) = z8w x (fun c0_ => some ((AV.v (TV.one (At.bool c0_))), [])) := by kernel_rfl
theorem zvg : SumOne Try.prog 150 zl6 := z16 (Γ := Γ1) (fuel := 8) (d := 8) tyTab_ok (FnL.ok fnTab_ok _ _) (LpL.ok zme) (SumL.ok zmj _) mixed (by
  intro pts v news hp hc
  clear hc
  unfold zl6 at hp
  split at hp
  · rename_i x
    exact Eq.trans (Eq.trans (zzq x) (zv3 (zq3 x) rfl x (fun c0_ => some c0_))) (z0y (o := (zq3 x)) (x := z8x x) (d := default) (V := fun r => ((AV.v (TV.one (At.bool r))), [])) (fun r => rfl) hp)
  · cases hp)
noncomputable def tb2 : List (Nat × (List PT → Option (Bool × AV × List Blk))) := (74, zro) :: (83, zip) :: (85, zsn) :: (90, zr8) :: (91, zrn) :: (92, zml) :: (94, zo8) :: (103, zsr) :: (148, zmr) :: (150, zl6) :: tb1
noncomputable def lt2 : List ((Nat × Nat) × (Nat → St → Option (Bool × LO))) := lt1
noncomputable def Γ2 : Ctx := ⟨tyTab, fnTab, tblSum tb2, tblLp lt2⟩
theorem zu4 : SumL Try.prog tb2 := SumL.cons y41 (SumL.cons ztu (SumL.cons y5b (SumL.cons y3m (SumL.cons y3o (SumL.cons zya (SumL.cons zze (SumL.cons y56 (SumL.cons zy0 (SumL.cons zvg (zmj))))))))))
theorem zv5 : LpL Try.prog fnTab lt2 := zme
noncomputable def znk : List PT → Option (Bool × AV × List Blk)
  | [.one (.s (.flt .f32 a)), .one (.s (.flt .f32 b))] => some ((zat a b), ((AV.v (TV.one (At.bool (za6 a b)))), []))
  | _ => none
def zt7 (a : Nat) (b : Nat) : Option (Bool) → Option (AV × List Blk)
  | some r => some ((AV.v (TV.one (At.bool r))), [])
  | none => none
theorem y3n (a : Nat) (b : Nat) : evFn Γ2 8 8 37 (impTs 0 [.one (.s (.flt .f32 a)), .one (.s (.flt .f32 b))]).1 (impTs 0 [.one (.s (.flt .f32 a)), .one (.s (.flt .f32 b))]).2 (expo (impTs 0 [.one (.s (.flt .f32 a)), .one (.s (.flt .f32 b))]).2.length) = zb5 a b (fun c0_ => some ((AV.v (TV.one (At.bool c0_))), [])) := by kernel_rfl
theorem zzi : SumOne Try.prog 37 znk := z16 (Γ := Γ2) (fuel := 8) (d := 8) tyTab_ok (FnL.ok fnTab_ok _ _) (LpL.ok zv5) (SumL.ok zu4 _) mixed (by
  intro pts v news hp hc
  clear hc
  unfold znk at hp
  split at hp
  · rename_i a b
    exact Eq.trans (Eq.trans (y3n a b) (zxl (zt7 a b) rfl a b (fun c0_ => some c0_))) (z0y (o := (zt7 a b)) (x := zdl a b) (d := default) (V := fun r => ((AV.v (TV.one (At.bool r))), [])) (fun r => rfl) hp)
  · cases hp)
noncomputable def zot : List PT → Option (Bool × AV × List Blk)
  | [.agg [.row 1 q00 (.fl .f32 q04), .row 1 q01 (.fl .f32 q05), .row 1 q02 (.fl .f32 q06), .row 3 q07 (.fl .f32 q09), .s (.int .i64 q0b), .s (.flt .f32 q0e), .s (.flt .f32 q0d)]] => some ((zbw q00 q04 q01 q05 q02 q06 q07 q09 q0b q0e q0d), ((AV.v (TV.agg [(At.sl 0 0 (z1z q00 q04 q01 q05 q02 q06 q07 q09 q0b q0e q0d) 1), (At.sl 1 0 (z1y q00 q04 q01 q05 q02 q06 q07 q09 q0b q0e q0d) 1), (At.sl 2 0 (z20 q00 q04 q01 q05 q02 q06 q07 q09 q0b q0e q0d) 1), (At.sl 3 0 (z0t q00 q04 q01 q05 q02 q06 q07 q09 q0b q0e q0d) 3), (At.int .i64 q0b), (At.flt .f32 q0e), (At.flt .f32 q0d)])), [(Blk.mk Bool.true (Body.fl .f32 (z49 q00 q04 q01 q05 q02 q06 q07 q09 q0b q0e q0d))), (Blk.mk Bool.true (Body.fl .f32 (z4b q00 q04 q01 q05 q02 q06 q07 q09 q0b q0e q0d))), (Blk.mk Bool.true (Body.fl .f32 (z4a q00 q04 q01 q05 q02 q06 q07 q09 q0b q0e q0d))), (Blk.mk Bool.true (Body.fl .f32 (z3j q00 q04 q01 q05 q02 q06 q07 q09 q0b q0e q0d)))]))
  | _ => none
def zu2 (q00 : Nat) (q04 : List Nat) (q01 : Nat) (q05 : List Nat) (q02 : Nat) (q06 : List Nat) (q07 : Nat) (q09 : List Nat) (q0b : Int) (q0e : Nat) (q0d : Nat) : Option (Nat × Nat × Nat × Nat × (List Nat) × (List Nat) × (List Nat) × (List Nat)) → Option (AV × List Blk)
  | some r => some ((AV.v (TV.agg [(At.sl 0 0 r.1 1), (At.sl 1 0 r.2.1 1), (At.sl 2 0 r.2.2.1 1), (At.sl 3 0 r.2.2.2.1 3), (At.int .i64 q0b), (At.flt .f32 q0e), (At.flt .f32 q0d)])), [(Blk.mk Bool.true (Body.fl .f32 r.2.2.2.2.1)), (Blk.mk Bool.true (Body.fl .f32 r.2.2.2.2.2.1)), (Blk.mk Bool.true (Body.fl .f32 r.2.2.2.2.2.2.1)), (Blk.mk Bool.true (Body.fl .f32 r.2.2.2.2.2.2.2))])
  | none => none
theorem y4s (q00 : Nat) (q04 : List Nat) (q01 : Nat) (q05 : List Nat) (q02 : Nat) (q06 : List Nat) (q07 : Nat) (q09 : List Nat) (q0b : Int) (q0e : Nat) (q0d : Nat) : evFn Γ2 8 8 81 (impTs 0 [.agg [.row 1 q00 (.fl .f32 q04), .row 1 q01 (.fl .f32 q05), .row 1 q02 (.fl .f32 q06), .row 3 q07 (.fl .f32 q09), .s (.int .i64 q0b), .s (.flt .f32 q0e), .s (.flt .f32 q0d)]]).1 (impTs 0 [.agg [.row 1 q00 (.fl .f32 q04), .row 1 q01 (.fl .f32 q05), .row 1 q02 (.fl .f32 q06), .row 3 q07 (.fl .f32 q09), .s (.int .i64 q0b), .s (.flt .f32 q0e), .s (.flt .f32 q0d)]]).2 (expo (impTs 0 [.agg [.row 1 q00 (.fl .f32 q04), .row 1 q01 (.fl .f32 q05), .row 1 q02 (.fl .f32 q06), .row 3 q07 (.fl .f32 q09), .s (.int .i64 q0b), .s (.flt .f32 q0e), .s (.flt .f32 q0d)]]).2.length) = zc4 q00 q04 q01 q05 q02 q06 q07 q09 q0b q0e q0d (fun c0_ c1_ c2_ c3_ c4_ c5_ c6_ c7_ => some ((AV.v (TV.agg [(At.sl 0 0 c0_ 1), (At.sl 1 0 c1_ 1), (At.sl 2 0 c2_ 1), (At.sl 3 0 c3_ 3), (At.int .i64 q0b), (At.flt .f32 q0e), (At.flt .f32 q0d)])), [(Blk.mk Bool.true (Body.fl .f32 c4_)), (Blk.mk Bool.true (Body.fl .f32 c5_)), (Blk.mk Bool.true (Body.fl .f32 c6_)), (Blk.mk Bool.true (Body.fl .f32 c7_))])) := by kernel_rfl
theorem y0p : SumOne Try.prog 81 zot := z16 (Γ := Γ2) (fuel := 8) (d := 8) tyTab_ok (FnL.ok fnTab_ok _ _) (LpL.ok zv5) (SumL.ok zu4 _) mixed (by
  intro pts v news hp hc
  clear hc
  unfold zot at hp
  split at hp
  · rename_i q00 q04 q01 q05 q02 q06 q07 q09 q0b q0e q0d
    exact Eq.trans (Eq.trans (y4s q00 q04 q01 q05 q02 q06 q07 q09 q0b q0e q0d) (zz0 (zu2 q00 q04 q01 q05 q02 q06 q07 q09 q0b q0e q0d) rfl q00 q04 q01 q05 q02 q06 q07 q09 q0b q0e q0d (fun c0_ c1_ c2_ c3_ c4_ c5_ c6_ c7_ => some (c0_, c1_, c2_, c3_, c4_, c5_, c6_, c7_)))) (z0y (o := (zu2 q00 q04 q01 q05 q02 q06 q07 q09 q0b q0e q0d)) (x := z45 q00 q04 q01 q05 q02 q06 q07 q09 q0b q0e q0d) (d := default) (V := fun r => ((AV.v (TV.agg [(At.sl 0 0 r.1 1), (At.sl 1 0 r.2.1 1), (At.sl 2 0 r.2.2.1 1), (At.sl 3 0 r.2.2.2.1 3), (At.int .i64 q0b), (At.flt .f32 q0e), (At.flt .f32 q0d)])), [(Blk.mk Bool.true (Body.fl .f32 r.2.2.2.2.1)), (Blk.mk Bool.true (Body.fl .f32 r.2.2.2.2.2.1)), (Blk.mk Bool.true (Body.fl .f32 r.2.2.2.2.2.2.1)), (Blk.mk Bool.true (Body.fl .f32 r.2.2.2.2.2.2.2))])) (fun r => rfl) hp)
  · cases hp)
noncomputable def zmk : List PT → Option (Bool × AV × List Blk)
  | [.agg [.s (.flt .f32 q32), .s (.flt .f32 q39), .s (.flt .f32 q3e)], .agg [.s (.flt .f32 q31), .s (.flt .f32 q3c), .s (.flt .f32 q3d)]] => some ((zgs q32 q39 q3e q31 q3c q3d), ((AV.v (TV.one (At.bool (zfd q32 q39 q3e q31 q3c q3d)))), []))
  | _ => none
def zs8 (q32 : Nat) (q39 : Nat) (q3e : Nat) (q31 : Nat) (q3c : Nat) (q3d : Nat) : Option (Bool) → Option (AV × List Blk)
  | some r => some ((AV.v (TV.one (At.bool r))), [])
  | none => none
theorem y2s (q32 : Nat) (q39 : Nat) (q3e : Nat) (q31 : Nat) (q3c : Nat) (q3d : Nat) : evFn Γ2 8 8 93 (impTs 0 [.agg [.s (.flt .f32 q32), .s (.flt .f32 q39), .s (.flt .f32 q3e)], .agg [.s (.flt .f32 q31), .s (.flt .f32 q3c), .s (.flt .f32 q3d)]]).1 (impTs 0 [.agg [.s (.flt .f32 q32), .s (.flt .f32 q39), .s (.flt .f32 q3e)], .agg [.s (.flt .f32 q31), .s (.flt .f32 q3c), .s (.flt .f32 q3d)]]).2 (expo (impTs 0 [.agg [.s (.flt .f32 q32), .s (.flt .f32 q39), .s (.flt .f32 q3e)], .agg [.s (.flt .f32 q31), .s (.flt .f32 q3c), .s (.flt .f32 q3d)]]).2.length) = za4 q32 q39 q3e q31 q3c q3d (fun c0_ => some ((AV.v (TV.one (At.bool c0_))), [])) := by kernel_rfl
theorem zym : SumOne Try.prog 93 zmk := z16 (Γ := Γ2) (fuel := 8) (d := 8) tyTab_ok (FnL.ok fnTab_ok _ _) (LpL.ok zv5) (SumL.ok zu4 _) mixed (by
  intro pts v news hp hc
  clear hc
  unfold zmk at hp
  split at hp
  · rename_i q32 q39 q3e q31 q3c q3d
    exact Eq.trans (Eq.trans (y2s q32 q39 q3e q31 q3c q3d) (zx0 (zs8 q32 q39 q3e q31 q3c q3d) rfl q32 q39 q3e q31 q3c q3d (fun c0_ => some c0_))) (z0y (o := (zs8 q32 q39 q3e q31 q3c q3d)) (x := za3 q32 q39 q3e q31 q3c q3d) (d := default) (V := fun r => ((AV.v (TV.one (At.bool r))), [])) (fun r => rfl) hp)
  · cases hp)
noncomputable def zns : List PT → Option (Bool × AV × List Blk)
  | [.one (.s (.flt .f32 x))] => some ((zjd x), ((AV.v (TV.one (At.bool (zhu x)))), []))
  | _ => none
def zt8 (x : Nat) : Option (Bool) → Option (AV × List Blk)
  | some r => some ((AV.v (TV.one (At.bool r))), [])
  | none => none
theorem y3x (x : Nat) : evFn Γ2 8 8 154 (impTs 0 [.one (.s (.flt .f32 x))]).1 (impTs 0 [.one (.s (.flt .f32 x))]).2 (expo (impTs 0 [.one (.s (.flt .f32 x))]).2.length) = zbb x (fun c0_ => some ((AV.v (TV.one (At.bool c0_))), [])) := by kernel_rfl
theorem zyy : SumOne Try.prog 154 zns := z16 (Γ := Γ2) (fuel := 8) (d := 8) tyTab_ok (FnL.ok fnTab_ok _ _) (LpL.ok zv5) (SumL.ok zu4 _) mixed (by
  intro pts v news hp hc
  clear hc
  unfold zns at hp
  split at hp
  · rename_i x
    exact Eq.trans (Eq.trans (y3x x) (zy5 (zt8 x) rfl x (fun c0_ => some c0_))) (z0y (o := (zt8 x)) (x := zay x) (d := default) (V := fun r => ((AV.v (TV.one (At.bool r))), [])) (fun r => rfl) hp)
  · cases hp)
noncomputable def zul : List PT → Option (Bool × AV × List Blk)
  | [.one (.s (.flt .f64 x))] => some ((zqi x), ((AV.v (TV.one (At.flt .f64 (zd8 x)))), []))
  | _ => none
def y2g (x : Nat) : Option (Nat) → Option (AV × List Blk)
  | some r => some ((AV.v (TV.one (At.flt .f64 r))), [])
  | none => none
theorem yam (x : Nat) : evFn Γ2 8 8 158 (impTs 0 [.one (.s (.flt .f64 x))]).1 (impTs 0 [.one (.s (.flt .f64 x))]).2 (expo (impTs 0 [.one (.s (.flt .f64 x))]).2.length) = zk1 x (fun c0_ => some ((AV.v (TV.one (At.flt .f64 c0_))), [])) := by kernel_rfl
theorem y5q : SumOne Try.prog 158 zul := z16 (Γ := Γ2) (fuel := 8) (d := 8) tyTab_ok (FnL.ok fnTab_ok _ _) (LpL.ok zv5) (SumL.ok zu4 _) mixed (by
  intro pts v news hp hc
  clear hc
  unfold zul at hp
  split at hp
  · rename_i x
    exact Eq.trans (Eq.trans (yam x) (y52 (y2g x) rfl x (fun c0_ => some c0_))) (z0y (o := (y2g x)) (x := zkh x) (d := default) (V := fun r => ((AV.v (TV.one (At.flt .f64 r))), [])) (fun r => rfl) hp)
  · cases hp)
noncomputable def zmz (t4 : Bool) (t5 : Nat) (t6 : Nat) (t7 : Nat) (t8 : Int) : Bool × LO := ((z2x t6 t7 t8), (LO.one (Ex.exit 0) (St.mk [(4, (AV.v (TV.one (At.bool t4)))), (5, (AV.v (TV.one (At.flt .f64 t5)))), (6, (AV.v (TV.one (At.flt .f64 t6)))), (7, (AV.v (TV.one (At.flt .f64 (z0u t6 t7 t8))))), (8, (AV.v (TV.one (At.int .i64 (ze2 t6 t7 t8))))), (44, (AV.v (TV.one (At.bool (zds t6 t7 t8)))))] [])))
noncomputable def zoo : Nat → St → Option (Bool × LO) := lpT 0 (pSt [(pTm 4 (pV (pOne pBool))), (pTm 5 (pV (pOne (pFlt .f64)))), (pTm 6 (pV (pOne (pFlt .f64)))), (pTm 7 (pV (pOne (pFlt .f64)))), (pTm 8 (pV (pOne (pInt .i64))))] []) (fun hs => zmz (hvB (hGet hs 0)) (hvN (hGet hs 1)) (hvN (hGet hs 2)) (hvN (hGet hs 3)) (hvI (hGet hs 4)))
def zc9 (t4 : Bool) (t5 : Nat) (t6 : Nat) : Option ((Nat × Int × Bool)) → Option (Ex × St)
  | none => none
  | some r => some ((Ex.exit 0), (St.mk [(4, (AV.v (TV.one (At.bool t4)))), (5, (AV.v (TV.one (At.flt .f64 t5)))), (6, (AV.v (TV.one (At.flt .f64 t6)))), (7, (AV.v (TV.one (At.flt .f64 r.1)))), (8, (AV.v (TV.one (At.int .i64 r.2.1)))), (44, (AV.v (TV.one (At.bool r.2.2))))] []))
def zvm (t4 : Bool) (t5 : Nat) (t6 : Nat) (x : Option ((Nat × Int × Bool))) : LO := (LO.one (Ex.exit 0) (St.mk [(4, (AV.v (TV.one (At.bool t4)))), (5, (AV.v (TV.one (At.flt .f64 t5)))), (6, (AV.v (TV.one (At.flt .f64 t6)))), (7, (AV.v (TV.one (At.flt .f64 (x.getD default).1)))), (8, (AV.v (TV.one (At.int .i64 (x.getD default).2.1)))), (44, (AV.v (TV.one (At.bool (x.getD default).2.2))))] []))
theorem zww (t4 : Bool) (t5 : Nat) (t6 : Nat) : ∀ x : Option ((Nat × Int × Bool)), x.isSome = true → (zc9 t4 t5 t6) x = some (pick (zvm t4 t5 t6 x))
  | none, h => by cases h
  | some r, _ => rfl
theorem zwi (t4 : Bool) (t5 : Nat) (t6 : Nat) (t7 : Nat) (t8 : Int) (K : Ex → St → Option (Ex × St)) : evC (R := Ex × St) Γ2 (evFn Γ2 8 8) 188 0 fi188.nt fi188.live fi188.nl 8 (findL 17 (loopsIn fi188.code)) (St.mk [(4, (AV.v (TV.one (At.bool t4)))), (5, (AV.v (TV.one (At.flt .f64 t5)))), (6, (AV.v (TV.one (At.flt .f64 t6)))), (7, (AV.v (TV.one (At.flt .f64 t7)))), (8, (AV.v (TV.one (At.int .i64 t8))))] []) K = z4f t6 t7 t8 (fun t7' t8' => K .normal (St.mk [(4, (AV.v (TV.one (At.bool t4)))), (5, (AV.v (TV.one (At.flt .f64 t5)))), (6, (AV.v (TV.one (At.flt .f64 t6)))), (7, (AV.v (TV.one (At.flt .f64 t7')))), (8, (AV.v (TV.one (At.int .i64 t8'))))] [])) (fun c0_ c1_ c2_ => K (Ex.exit 0) (St.mk [(4, (AV.v (TV.one (At.bool t4)))), (5, (AV.v (TV.one (At.flt .f64 t5)))), (6, (AV.v (TV.one (At.flt .f64 t6)))), (7, (AV.v (TV.one (At.flt .f64 c0_)))), (8, (AV.v (TV.one (At.int .i64 c1_)))), (44, (AV.v (TV.one (At.bool c2_))))] [])) := by kernel_rfl
theorem zwv (t4 : Bool) (t5 : Nat) (t6 : Nat) : ∀ (n : Nat) (t7 : Nat) (t8 : Int), iter 188 17 0 (evC (R := Ex × St) Γ2 (evFn Γ2 8 8) 188 0 fi188.nt fi188.live fi188.nl 8 (findL 17 (loopsIn fi188.code))) n (St.mk [(4, (AV.v (TV.one (At.bool t4)))), (5, (AV.v (TV.one (At.flt .f64 t5)))), (6, (AV.v (TV.one (At.flt .f64 t6)))), (7, (AV.v (TV.one (At.flt .f64 t7)))), (8, (AV.v (TV.one (At.int .i64 t8))))] []) (fun e st => some (e, st)) = (zc9 t4 t5 t6) (z1r t6 n t7 t8) := by
  intro n
  induction n with
  | zero => intros; rfl
  | succ n ih =>
    intro t7 t8
    refine Eq.trans (z89 ..) (Eq.trans (zwi t4 t5 t6 t7 t8 (nextK 188 17 0 (evC (R := Ex × St) Γ2 (evFn Γ2 8 8) 188 0 fi188.nt fi188.live fi188.nl 8 (findL 17 (loopsIn fi188.code))) n (fun e st => some (e, st)))) (Eq.trans ?_ (zsq (zc9 t4 t5 t6) rfl t6 t7 t8 (fun t7' t8' => z1r t6 n t7' t8') (fun c0_ c1_ c2_ => some (c0_, c1_, c2_)))))
    exact congrArg (fun kn_ => z4f t6 t7 t8 kn_ (fun c0_ c1_ c2_ => (zc9 t4 t5 t6) (some (c0_, c1_, c2_)))) (funext fun t7' => funext fun t8' => ih t7' t8')
theorem ztg : LoopOne Try.prog fnTab 188 17 zoo := lp_of (Γ := Γ2) tyTab_ok (FnL.ok fnTab_ok _ _) (LpL.ok zv5) (SumL.ok zu4 _) mixed (fi := fi188) (by kernel_rfl) (by kernel_rfl) (by
  intro lo st out hp
  obtain ⟨hs, e1, e2, e3⟩ := z78 hp
  clear hp
  obtain rfl : st = (St.mk [(4, (AV.v (TV.one (At.bool (hvB (hGet hs 0)))))), (5, (AV.v (TV.one (At.flt .f64 (hvN (hGet hs 1)))))), (6, (AV.v (TV.one (At.flt .f64 (hvN (hGet hs 2)))))), (7, (AV.v (TV.one (At.flt .f64 (hvN (hGet hs 3)))))), (8, (AV.v (TV.one (At.int .i64 (hvI (hGet hs 4))))))] []) := e2.trans (by kernel_rfl)
  clear e2
  subst e1
  unfold zmz at e3
  injection e3 with h1 h2
  subst h2
  exact ⟨8, 8, big, Eq.trans (zwv (hvB (hGet hs 0)) (hvN (hGet hs 1)) (hvN (hGet hs 2)) big (hvN (hGet hs 3)) (hvI (hGet hs 4))) (zww (hvB (hGet hs 0)) (hvN (hGet hs 1)) (hvN (hGet hs 2)) (z1r (hvN (hGet hs 2)) big (hvN (hGet hs 3)) (hvI (hGet hs 4))) h1)⟩)
noncomputable def tb3 : List (Nat × (List PT → Option (Bool × AV × List Blk))) := (37, znk) :: (81, zot) :: (93, zmk) :: (154, zns) :: (158, zul) :: tb2
noncomputable def lt3 : List ((Nat × Nat) × (Nat → St → Option (Bool × LO))) := ((188, 17), zoo) :: lt2
noncomputable def Γ3 : Ctx := ⟨tyTab, fnTab, tblSum tb3, tblLp lt3⟩
theorem zyn : SumL Try.prog tb3 := SumL.cons zzi (SumL.cons y0p (SumL.cons zym (SumL.cons zyy (SumL.cons y5q (zu4)))))
theorem zxi : LpL Try.prog fnTab lt3 := LpL.cons ztg (zv5)
noncomputable def znz : List PT → Option (Bool × AV × List Blk)
  | [.one (.s (.flt .f64 q26))] => some ((zjq q26), ((AV.v (TV.one (At.flt .f64 (z0z q26)))), []))
  | _ => none
def zt5 (q26 : Nat) : Option (Nat) → Option (AV × List Blk)
  | some r => some ((AV.v (TV.one (At.flt .f64 r))), [])
  | none => none
theorem y3s (q26 : Nat) : evFn Γ3 8 8 104 (impTs 0 [.one (.s (.flt .f64 q26))]).1 (impTs 0 [.one (.s (.flt .f64 q26))]).2 (expo (impTs 0 [.one (.s (.flt .f64 q26))]).2.length) = zaq q26 (fun c0_ => some ((AV.v (TV.one (At.flt .f64 c0_))), [])) := by kernel_rfl
theorem y00 : SumOne Try.prog 104 znz := z16 (Γ := Γ3) (fuel := 8) (d := 8) tyTab_ok (FnL.ok fnTab_ok _ _) (LpL.ok zxi) (SumL.ok zyn _) mixed (by
  intro pts v news hp hc
  clear hc
  unfold znz at hp
  split at hp
  · rename_i q26
    exact Eq.trans (Eq.trans (y3s q26) (zxj (zt5 q26) rfl q26 (fun c0_ => some c0_))) (z0y (o := (zt5 q26)) (x := zam q26) (d := default) (V := fun r => ((AV.v (TV.one (At.flt .f64 r))), [])) (fun r => rfl) hp)
  · cases hp)
noncomputable def zmw : List PT → Option (Bool × AV × List Blk)
  | [.one (.s (.flt .f64 q08))] => some ((zgm q08), ((AV.v (TV.one (At.flt .f64 (zbj q08)))), []))
  | _ => none
def zse (q08 : Nat) : Option (Nat) → Option (AV × List Blk)
  | some r => some ((AV.v (TV.one (At.flt .f64 r))), [])
  | none => none
theorem y2y (q08 : Nat) : evFn Γ3 8 8 188 (impTs 0 [.one (.s (.flt .f64 q08))]).1 (impTs 0 [.one (.s (.flt .f64 q08))]).2 (expo (impTs 0 [.one (.s (.flt .f64 q08))]).2.length) = z75 q08 (fun c0_ => some ((AV.v (TV.one (At.flt .f64 c0_))), [])) := by kernel_rfl
theorem zxx : SumOne Try.prog 188 zmw := z16 (Γ := Γ3) (fuel := 8) (d := 8) tyTab_ok (FnL.ok fnTab_ok _ _) (LpL.ok zxi) (SumL.ok zyn _) mixed (by
  intro pts v news hp hc
  clear hc
  unfold zmw at hp
  split at hp
  · rename_i q08
    exact Eq.trans (Eq.trans (y2y q08) (zwu (zse q08) rfl q08 (fun c0_ => some c0_))) (z0y (o := (zse q08)) (x := z5z q08) (d := default) (V := fun r => ((AV.v (TV.one (At.flt .f64 r))), [])) (fun r => rfl) hp)
  · cases hp)
noncomputable def z7q (s2n : Nat) (q23 : Nat) (t16 : Int) (t17 : Int) (b0 : List Nat) (b1 : List Nat) : Bool × LO := ((z13 s2n q23 t16 b0 b1 t17), (LO.two (z12 s2n q23 t16 b0 b1 t17) (LO.one Ex.ret (St.mk [(6, (AV.v (TV.one (At.bool Bool.false))))] [(Blk.mk Bool.false (Body.fl .f32 b0)), (Blk.mk Bool.false (Body.fl .f32 b1))])) (LO.one (Ex.exit 0) (St.mk [(1, (AV.v (TV.one (At.vw 1 0 s2n 1)))), (2, (AV.v (TV.one (At.fn 94 [])))), (15, (AV.v (TV.one (At.vw 0 0 q23 1)))), (16, (AV.v (TV.one (At.int .i64 t16)))), (17, (AV.v (TV.one (At.int .i64 (z4j s2n q23 t16 b0 b1 t17))))), (18, (AV.v (TV.one (At.bool (z4i s2n q23 t16 b0 b1 t17)))))] [(Blk.mk Bool.false (Body.fl .f32 b0)), (Blk.mk Bool.false (Body.fl .f32 b1))]))))
noncomputable def z8f : Nat → St → Option (Bool × LO) := lpT 2 (pSt [(pTm 1 (pV (pOne (pVw 1 (liN 0) 1)))), (pTm 2 (pV (pOne (pFn 94 [])))), (pTm 15 (pV (pOne (pVw 0 (liN 0) 1)))), (pTm 16 (pV (pOne (pInt .i64)))), (pTm 17 (pV (pOne (pInt .i64))))] [(pBlk Bool.false (pFl .f32)), (pBlk Bool.false (pFl .f32))]) (fun hs => z7q (hvN (hGet hs 0)) (hvN (hGet hs 1)) (hvI (hGet hs 2)) (hvI (hGet hs 3)) (hvLn (hGet hs 4)) (hvLn (hGet hs 5)))
def z2h (s2n : Nat) (q23 : Nat) (t16 : Int) (b0 : List Nat) (b1 : List Nat) : Option ((Unit) ⊕ (Int × Bool)) → Option (Ex × St)
  | none => none
  | some (Sum.inl r) => some (Ex.ret, (St.mk [(6, (AV.v (TV.one (At.bool Bool.false))))] [(Blk.mk Bool.false (Body.fl .f32 b0)), (Blk.mk Bool.false (Body.fl .f32 b1))]))
  | some (Sum.inr r) => some ((Ex.exit 0), (St.mk [(1, (AV.v (TV.one (At.vw 1 0 s2n 1)))), (2, (AV.v (TV.one (At.fn 94 [])))), (15, (AV.v (TV.one (At.vw 0 0 q23 1)))), (16, (AV.v (TV.one (At.int .i64 t16)))), (17, (AV.v (TV.one (At.int .i64 r.1)))), (18, (AV.v (TV.one (At.bool r.2))))] [(Blk.mk Bool.false (Body.fl .f32 b0)), (Blk.mk Bool.false (Body.fl .f32 b1))]))
def zdk (s2n : Nat) (q23 : Nat) (t16 : Int) (b0 : List Nat) (b1 : List Nat) (x : Option ((Unit) ⊕ (Int × Bool))) : LO := (LO.two (oL x) (LO.one Ex.ret (St.mk [(6, (AV.v (TV.one (At.bool Bool.false))))] [(Blk.mk Bool.false (Body.fl .f32 b0)), (Blk.mk Bool.false (Body.fl .f32 b1))])) (LO.one (Ex.exit 0) (St.mk [(1, (AV.v (TV.one (At.vw 1 0 s2n 1)))), (2, (AV.v (TV.one (At.fn 94 [])))), (15, (AV.v (TV.one (At.vw 0 0 q23 1)))), (16, (AV.v (TV.one (At.int .i64 t16)))), (17, (AV.v (TV.one (At.int .i64 ((tR x).getD default).1)))), (18, (AV.v (TV.one (At.bool ((tR x).getD default).2))))] [(Blk.mk Bool.false (Body.fl .f32 b0)), (Blk.mk Bool.false (Body.fl .f32 b1))])))
theorem zdx (s2n : Nat) (q23 : Nat) (t16 : Int) (b0 : List Nat) (b1 : List Nat) : ∀ x : Option ((Unit) ⊕ (Int × Bool)), x.isSome = true → (z2h s2n q23 t16 b0 b1) x = some (pick (zdk s2n q23 t16 b0 b1 x))
  | none, h => by cases h
  | some (Sum.inl r), _ => rfl
  | some (Sum.inr r), _ => rfl
theorem ze3 (s2n : Nat) (q23 : Nat) (t16 : Int) (t17 : Int) (b0 : List Nat) (b1 : List Nat) (K : Ex → St → Option (Ex × St)) : evC (R := Ex × St) Γ3 (evFn Γ3 8 8) 171 2 fi171.nt fi171.live fi171.nl 8 (findL 4 (loopsIn fi171.code)) (St.mk [(1, (AV.v (TV.one (At.vw 1 0 s2n 1)))), (2, (AV.v (TV.one (At.fn 94 [])))), (15, (AV.v (TV.one (At.vw 0 0 q23 1)))), (16, (AV.v (TV.one (At.int .i64 t16)))), (17, (AV.v (TV.one (At.int .i64 t17))))] [(Blk.mk Bool.false (Body.fl .f32 b0)), (Blk.mk Bool.false (Body.fl .f32 b1))]) K = z0x s2n q23 t16 b0 b1 t17 (fun t17' => K .normal (St.mk [(1, (AV.v (TV.one (At.vw 1 0 s2n 1)))), (2, (AV.v (TV.one (At.fn 94 [])))), (15, (AV.v (TV.one (At.vw 0 0 q23 1)))), (16, (AV.v (TV.one (At.int .i64 t16)))), (17, (AV.v (TV.one (At.int .i64 t17'))))] [(Blk.mk Bool.false (Body.fl .f32 b0)), (Blk.mk Bool.false (Body.fl .f32 b1))])) (fun _ => K Ex.ret (St.mk [(6, (AV.v (TV.one (At.bool Bool.false))))] [(Blk.mk Bool.false (Body.fl .f32 b0)), (Blk.mk Bool.false (Body.fl .f32 b1))])) (fun c0_ c1_ => K (Ex.exit 0) (St.mk [(1, (AV.v (TV.one (At.vw 1 0 s2n 1)))), (2, (AV.v (TV.one (At.fn 94 [])))), (15, (AV.v (TV.one (At.vw 0 0 q23 1)))), (16, (AV.v (TV.one (At.int .i64 t16)))), (17, (AV.v (TV.one (At.int .i64 c0_)))), (18, (AV.v (TV.one (At.bool c1_))))] [(Blk.mk Bool.false (Body.fl .f32 b0)), (Blk.mk Bool.false (Body.fl .f32 b1))])) := by kernel_rfl
theorem zdr (s2n : Nat) (q23 : Nat) (t16 : Int) (b0 : List Nat) (b1 : List Nat) : ∀ (n : Nat) (t17 : Int), iter 171 4 2 (evC (R := Ex × St) Γ3 (evFn Γ3 8 8) 171 2 fi171.nt fi171.live fi171.nl 8 (findL 4 (loopsIn fi171.code))) n (St.mk [(1, (AV.v (TV.one (At.vw 1 0 s2n 1)))), (2, (AV.v (TV.one (At.fn 94 [])))), (15, (AV.v (TV.one (At.vw 0 0 q23 1)))), (16, (AV.v (TV.one (At.int .i64 t16)))), (17, (AV.v (TV.one (At.int .i64 t17))))] [(Blk.mk Bool.false (Body.fl .f32 b0)), (Blk.mk Bool.false (Body.fl .f32 b1))]) (fun e st => some (e, st)) = (z2h s2n q23 t16 b0 b1) (z0i s2n q23 t16 b0 b1 n t17) := by
  intro n
  induction n with
  | zero => intros; rfl
  | succ n ih =>
    intro t17
    refine Eq.trans (z89 ..) (Eq.trans (ze3 s2n q23 t16 t17 b0 b1 (nextK 171 4 2 (evC (R := Ex × St) Γ3 (evFn Γ3 8 8) 171 2 fi171.nt fi171.live fi171.nl 8 (findL 4 (loopsIn fi171.code))) n (fun e st => some (e, st)))) (Eq.trans ?_ (zcg (z2h s2n q23 t16 b0 b1) rfl s2n q23 t16 b0 b1 t17 (fun t17' => z0i s2n q23 t16 b0 b1 n t17') (fun _ => some (Sum.inl ())) (fun c0_ c1_ => some (Sum.inr (c0_, c1_))))))
    exact congrArg (fun kn_ => z0x s2n q23 t16 b0 b1 t17 kn_ (fun _ => (z2h s2n q23 t16 b0 b1) (some (Sum.inl ()))) (fun c0_ c1_ => (z2h s2n q23 t16 b0 b1) (some (Sum.inr (c0_, c1_))))) (funext fun t17' => ih t17')
theorem zck : LoopOne Try.prog fnTab 171 4 z8f := lp_of (Γ := Γ3) tyTab_ok (FnL.ok fnTab_ok _ _) (LpL.ok zxi) (SumL.ok zyn _) mixed (fi := fi171) (by kernel_rfl) (by kernel_rfl) (by
  intro lo st out hp
  obtain ⟨hs, e1, e2, e3⟩ := z78 hp
  clear hp
  obtain rfl : st = (St.mk [(1, (AV.v (TV.one (At.vw 1 0 (hvN (hGet hs 0)) 1)))), (2, (AV.v (TV.one (At.fn 94 [])))), (15, (AV.v (TV.one (At.vw 0 0 (hvN (hGet hs 1)) 1)))), (16, (AV.v (TV.one (At.int .i64 (hvI (hGet hs 2)))))), (17, (AV.v (TV.one (At.int .i64 (hvI (hGet hs 3))))))] [(Blk.mk Bool.false (Body.fl .f32 (hvLn (hGet hs 4)))), (Blk.mk Bool.false (Body.fl .f32 (hvLn (hGet hs 5))))]) := e2.trans (by kernel_rfl)
  clear e2
  subst e1
  unfold z7q at e3
  injection e3 with h1 h2
  subst h2
  exact ⟨8, 8, big, Eq.trans (zdr (hvN (hGet hs 0)) (hvN (hGet hs 1)) (hvI (hGet hs 2)) (hvLn (hGet hs 4)) (hvLn (hGet hs 5)) big (hvI (hGet hs 3))) (zdx (hvN (hGet hs 0)) (hvN (hGet hs 1)) (hvI (hGet hs 2)) (hvLn (hGet hs 4)) (hvLn (hGet hs 5)) (z0i (hvN (hGet hs 0)) (hvN (hGet hs 1)) (hvI (hGet hs 2)) (hvLn (hGet hs 4)) (hvLn (hGet hs 5)) big (hvI (hGet hs 3))) h1)⟩)
noncomputable def z9e (sn : Nat) (t7 : Int) (t8 : Int) (b0 : List Nat) : Bool × LO := ((z2k sn t7 b0 t8), (LO.two (z2g sn t7 b0 t8) (LO.one Ex.ret (St.mk [(4, (AV.v (TV.one (At.int .i64 (z44 sn t7 b0 t8)))))] [(Blk.mk Bool.false (Body.fl .f32 b0))])) (LO.one (Ex.exit 0) (St.mk [(0, (AV.v (TV.one (At.vw 0 0 sn 1)))), (1, (AV.v (TV.one (At.fn 148 [])))), (7, (AV.v (TV.one (At.int .i64 t7)))), (8, (AV.v (TV.one (At.int .i64 (z5x sn t7 b0 t8))))), (9, (AV.v (TV.one (At.bool (z63 sn t7 b0 t8)))))] [(Blk.mk Bool.false (Body.fl .f32 b0))]))))
noncomputable def zaa : Nat → St → Option (Bool × LO) := lpT 1 (pSt [(pTm 0 (pV (pOne (pVw 0 (liN 0) 1)))), (pTm 1 (pV (pOne (pFn 148 [])))), (pTm 7 (pV (pOne (pInt .i64)))), (pTm 8 (pV (pOne (pInt .i64))))] [(pBlk Bool.false (pFl .f32))]) (fun hs => z9e (hvN (hGet hs 0)) (hvI (hGet hs 1)) (hvI (hGet hs 2)) (hvLn (hGet hs 3)))
def z3l (sn : Nat) (t7 : Int) (b0 : List Nat) : Option ((Int) ⊕ (Int × Bool)) → Option (Ex × St)
  | none => none
  | some (Sum.inl r) => some (Ex.ret, (St.mk [(4, (AV.v (TV.one (At.int .i64 r))))] [(Blk.mk Bool.false (Body.fl .f32 b0))]))
  | some (Sum.inr r) => some ((Ex.exit 0), (St.mk [(0, (AV.v (TV.one (At.vw 0 0 sn 1)))), (1, (AV.v (TV.one (At.fn 148 [])))), (7, (AV.v (TV.one (At.int .i64 t7)))), (8, (AV.v (TV.one (At.int .i64 r.1)))), (9, (AV.v (TV.one (At.bool r.2))))] [(Blk.mk Bool.false (Body.fl .f32 b0))]))
def zj1 (sn : Nat) (t7 : Int) (b0 : List Nat) (x : Option ((Int) ⊕ (Int × Bool))) : LO := (LO.two (oL x) (LO.one Ex.ret (St.mk [(4, (AV.v (TV.one (At.int .i64 ((tL x).getD default)))))] [(Blk.mk Bool.false (Body.fl .f32 b0))])) (LO.one (Ex.exit 0) (St.mk [(0, (AV.v (TV.one (At.vw 0 0 sn 1)))), (1, (AV.v (TV.one (At.fn 148 [])))), (7, (AV.v (TV.one (At.int .i64 t7)))), (8, (AV.v (TV.one (At.int .i64 ((tR x).getD default).1)))), (9, (AV.v (TV.one (At.bool ((tR x).getD default).2))))] [(Blk.mk Bool.false (Body.fl .f32 b0))])))
theorem zk2 (sn : Nat) (t7 : Int) (b0 : List Nat) : ∀ x : Option ((Int) ⊕ (Int × Bool)), x.isSome = true → (z3l sn t7 b0) x = some (pick (zj1 sn t7 b0 x))
  | none, h => by cases h
  | some (Sum.inl r), _ => rfl
  | some (Sum.inr r), _ => rfl
theorem zk6 (sn : Nat) (t7 : Int) (t8 : Int) (b0 : List Nat) (K : Ex → St → Option (Ex × St)) : evC (R := Ex × St) Γ3 (evFn Γ3 8 8) 178 1 fi178.nt fi178.live fi178.nl 8 (findL 2 (loopsIn fi178.code)) (St.mk [(0, (AV.v (TV.one (At.vw 0 0 sn 1)))), (1, (AV.v (TV.one (At.fn 148 [])))), (7, (AV.v (TV.one (At.int .i64 t7)))), (8, (AV.v (TV.one (At.int .i64 t8))))] [(Blk.mk Bool.false (Body.fl .f32 b0))]) K = z18 sn t7 b0 t8 (fun t8' => K .normal (St.mk [(0, (AV.v (TV.one (At.vw 0 0 sn 1)))), (1, (AV.v (TV.one (At.fn 148 [])))), (7, (AV.v (TV.one (At.int .i64 t7)))), (8, (AV.v (TV.one (At.int .i64 t8'))))] [(Blk.mk Bool.false (Body.fl .f32 b0))])) (fun c0_ => K Ex.ret (St.mk [(4, (AV.v (TV.one (At.int .i64 c0_))))] [(Blk.mk Bool.false (Body.fl .f32 b0))])) (fun c0_ c1_ => K (Ex.exit 0) (St.mk [(0, (AV.v (TV.one (At.vw 0 0 sn 1)))), (1, (AV.v (TV.one (At.fn 148 [])))), (7, (AV.v (TV.one (At.int .i64 t7)))), (8, (AV.v (TV.one (At.int .i64 c0_)))), (9, (AV.v (TV.one (At.bool c1_))))] [(Blk.mk Bool.false (Body.fl .f32 b0))])) := by kernel_rfl
theorem zjs (sn : Nat) (t7 : Int) (b0 : List Nat) : ∀ (n : Nat) (t8 : Int), iter 178 2 1 (evC (R := Ex × St) Γ3 (evFn Γ3 8 8) 178 1 fi178.nt fi178.live fi178.nl 8 (findL 2 (loopsIn fi178.code))) n (St.mk [(0, (AV.v (TV.one (At.vw 0 0 sn 1)))), (1, (AV.v (TV.one (At.fn 148 [])))), (7, (AV.v (TV.one (At.int .i64 t7)))), (8, (AV.v (TV.one (At.int .i64 t8))))] [(Blk.mk Bool.false (Body.fl .f32 b0))]) (fun e st => some (e, st)) = (z3l sn t7 b0) (z0m sn t7 b0 n t8) := by
  intro n
  induction n with
  | zero => intros; rfl
  | succ n ih =>
    intro t8
    refine Eq.trans (z89 ..) (Eq.trans (zk6 sn t7 t8 b0 (nextK 178 2 1 (evC (R := Ex × St) Γ3 (evFn Γ3 8 8) 178 1 fi178.nt fi178.live fi178.nl 8 (findL 2 (loopsIn fi178.code))) n (fun e st => some (e, st)))) (Eq.trans ?_ (zfv (z3l sn t7 b0) rfl sn t7 b0 t8 (fun t8' => z0m sn t7 b0 n t8') (fun c0_ => some (Sum.inl c0_)) (fun c0_ c1_ => some (Sum.inr (c0_, c1_))))))
    exact congrArg (fun kn_ => z18 sn t7 b0 t8 kn_ (fun c0_ => (z3l sn t7 b0) (some (Sum.inl c0_))) (fun c0_ c1_ => (z3l sn t7 b0) (some (Sum.inr (c0_, c1_))))) (funext fun t8' => ih t8')
theorem zhv : LoopOne Try.prog fnTab 178 2 zaa := lp_of (Γ := Γ3) tyTab_ok (FnL.ok fnTab_ok _ _) (LpL.ok zxi) (SumL.ok zyn _) mixed (fi := fi178) (by kernel_rfl) (by kernel_rfl) (by
  intro lo st out hp
  obtain ⟨hs, e1, e2, e3⟩ := z78 hp
  clear hp
  obtain rfl : st = (St.mk [(0, (AV.v (TV.one (At.vw 0 0 (hvN (hGet hs 0)) 1)))), (1, (AV.v (TV.one (At.fn 148 [])))), (7, (AV.v (TV.one (At.int .i64 (hvI (hGet hs 1)))))), (8, (AV.v (TV.one (At.int .i64 (hvI (hGet hs 2))))))] [(Blk.mk Bool.false (Body.fl .f32 (hvLn (hGet hs 3))))]) := e2.trans (by kernel_rfl)
  clear e2
  subst e1
  unfold z9e at e3
  injection e3 with h1 h2
  subst h2
  exact ⟨8, 8, big, Eq.trans (zjs (hvN (hGet hs 0)) (hvI (hGet hs 1)) (hvLn (hGet hs 3)) big (hvI (hGet hs 2))) (zk2 (hvN (hGet hs 0)) (hvI (hGet hs 1)) (hvLn (hGet hs 3)) (z0m (hvN (hGet hs 0)) (hvI (hGet hs 1)) (hvLn (hGet hs 3)) big (hvI (hGet hs 2))) h1)⟩)
noncomputable def z91 (sn : Nat) (t7 : Int) (t8 : Int) (b0 : List Nat) : Bool × LO := ((z2c sn t7 b0 t8), (LO.two (z26 sn t7 b0 t8) (LO.one Ex.ret (St.mk [(4, (AV.v (TV.one (At.int .i64 (z3w sn t7 b0 t8)))))] [(Blk.mk Bool.false (Body.fl .f32 b0))])) (LO.one (Ex.exit 0) (St.mk [(0, (AV.v (TV.one (At.vw 0 0 sn 1)))), (1, (AV.v (TV.one (At.fn 150 [])))), (7, (AV.v (TV.one (At.int .i64 t7)))), (8, (AV.v (TV.one (At.int .i64 (z5o sn t7 b0 t8))))), (9, (AV.v (TV.one (At.bool (z5q sn t7 b0 t8)))))] [(Blk.mk Bool.false (Body.fl .f32 b0))]))))
noncomputable def z9f : Nat → St → Option (Bool × LO) := lpT 1 (pSt [(pTm 0 (pV (pOne (pVw 0 (liN 0) 1)))), (pTm 1 (pV (pOne (pFn 150 [])))), (pTm 7 (pV (pOne (pInt .i64)))), (pTm 8 (pV (pOne (pInt .i64))))] [(pBlk Bool.false (pFl .f32))]) (fun hs => z91 (hvN (hGet hs 0)) (hvI (hGet hs 1)) (hvI (hGet hs 2)) (hvLn (hGet hs 3)))
def z3a (sn : Nat) (t7 : Int) (b0 : List Nat) : Option ((Int) ⊕ (Int × Bool)) → Option (Ex × St)
  | none => none
  | some (Sum.inl r) => some (Ex.ret, (St.mk [(4, (AV.v (TV.one (At.int .i64 r))))] [(Blk.mk Bool.false (Body.fl .f32 b0))]))
  | some (Sum.inr r) => some ((Ex.exit 0), (St.mk [(0, (AV.v (TV.one (At.vw 0 0 sn 1)))), (1, (AV.v (TV.one (At.fn 150 [])))), (7, (AV.v (TV.one (At.int .i64 t7)))), (8, (AV.v (TV.one (At.int .i64 r.1)))), (9, (AV.v (TV.one (At.bool r.2))))] [(Blk.mk Bool.false (Body.fl .f32 b0))]))
def zhl (sn : Nat) (t7 : Int) (b0 : List Nat) (x : Option ((Int) ⊕ (Int × Bool))) : LO := (LO.two (oL x) (LO.one Ex.ret (St.mk [(4, (AV.v (TV.one (At.int .i64 ((tL x).getD default)))))] [(Blk.mk Bool.false (Body.fl .f32 b0))])) (LO.one (Ex.exit 0) (St.mk [(0, (AV.v (TV.one (At.vw 0 0 sn 1)))), (1, (AV.v (TV.one (At.fn 150 [])))), (7, (AV.v (TV.one (At.int .i64 t7)))), (8, (AV.v (TV.one (At.int .i64 ((tR x).getD default).1)))), (9, (AV.v (TV.one (At.bool ((tR x).getD default).2))))] [(Blk.mk Bool.false (Body.fl .f32 b0))])))
theorem zih (sn : Nat) (t7 : Int) (b0 : List Nat) : ∀ x : Option ((Int) ⊕ (Int × Bool)), x.isSome = true → (z3a sn t7 b0) x = some (pick (zhl sn t7 b0 x))
  | none, h => by cases h
  | some (Sum.inl r), _ => rfl
  | some (Sum.inr r), _ => rfl
theorem zis (sn : Nat) (t7 : Int) (t8 : Int) (b0 : List Nat) (K : Ex → St → Option (Ex × St)) : evC (R := Ex × St) Γ3 (evFn Γ3 8 8) 178 1 fi178.nt fi178.live fi178.nl 8 (findL 2 (loopsIn fi178.code)) (St.mk [(0, (AV.v (TV.one (At.vw 0 0 sn 1)))), (1, (AV.v (TV.one (At.fn 150 [])))), (7, (AV.v (TV.one (At.int .i64 t7)))), (8, (AV.v (TV.one (At.int .i64 t8))))] [(Blk.mk Bool.false (Body.fl .f32 b0))]) K = z15 sn t7 b0 t8 (fun t8' => K .normal (St.mk [(0, (AV.v (TV.one (At.vw 0 0 sn 1)))), (1, (AV.v (TV.one (At.fn 150 [])))), (7, (AV.v (TV.one (At.int .i64 t7)))), (8, (AV.v (TV.one (At.int .i64 t8'))))] [(Blk.mk Bool.false (Body.fl .f32 b0))])) (fun c0_ => K Ex.ret (St.mk [(4, (AV.v (TV.one (At.int .i64 c0_))))] [(Blk.mk Bool.false (Body.fl .f32 b0))])) (fun c0_ c1_ => K (Ex.exit 0) (St.mk [(0, (AV.v (TV.one (At.vw 0 0 sn 1)))), (1, (AV.v (TV.one (At.fn 150 [])))), (7, (AV.v (TV.one (At.int .i64 t7)))), (8, (AV.v (TV.one (At.int .i64 c0_)))), (9, (AV.v (TV.one (At.bool c1_))))] [(Blk.mk Bool.false (Body.fl .f32 b0))])) := by kernel_rfl
theorem ziw (sn : Nat) (t7 : Int) (b0 : List Nat) : ∀ (n : Nat) (t8 : Int), iter 178 2 1 (evC (R := Ex × St) Γ3 (evFn Γ3 8 8) 178 1 fi178.nt fi178.live fi178.nl 8 (findL 2 (loopsIn fi178.code))) n (St.mk [(0, (AV.v (TV.one (At.vw 0 0 sn 1)))), (1, (AV.v (TV.one (At.fn 150 [])))), (7, (AV.v (TV.one (At.int .i64 t7)))), (8, (AV.v (TV.one (At.int .i64 t8))))] [(Blk.mk Bool.false (Body.fl .f32 b0))]) (fun e st => some (e, st)) = (z3a sn t7 b0) (z0j sn t7 b0 n t8) := by
  intro n
  induction n with
  | zero => intros; rfl
  | succ n ih =>
    intro t8
    refine Eq.trans (z89 ..) (Eq.trans (zis sn t7 t8 b0 (nextK 178 2 1 (evC (R := Ex × St) Γ3 (evFn Γ3 8 8) 178 1 fi178.nt fi178.live fi178.nl 8 (findL 2 (loopsIn fi178.code))) n (fun e st => some (e, st)))) (Eq.trans ?_ (zey (z3a sn t7 b0) rfl sn t7 b0 t8 (fun t8' => z0j sn t7 b0 n t8') (fun c0_ => some (Sum.inl c0_)) (fun c0_ c1_ => some (Sum.inr (c0_, c1_))))))
    exact congrArg (fun kn_ => z15 sn t7 b0 t8 kn_ (fun c0_ => (z3a sn t7 b0) (some (Sum.inl c0_))) (fun c0_ c1_ => (z3a sn t7 b0) (some (Sum.inr (c0_, c1_))))) (funext fun t8' => ih t8')
theorem zfo : LoopOne Try.prog fnTab 178 2 z9f := lp_of (Γ := Γ3) tyTab_ok (FnL.ok fnTab_ok _ _) (LpL.ok zxi) (SumL.ok zyn _) mixed (fi := fi178) (by kernel_rfl) (by kernel_rfl) (by
  intro lo st out hp
  obtain ⟨hs, e1, e2, e3⟩ := z78 hp
  clear hp
  obtain rfl : st = (St.mk [(0, (AV.v (TV.one (At.vw 0 0 (hvN (hGet hs 0)) 1)))), (1, (AV.v (TV.one (At.fn 150 [])))), (7, (AV.v (TV.one (At.int .i64 (hvI (hGet hs 1)))))), (8, (AV.v (TV.one (At.int .i64 (hvI (hGet hs 2))))))] [(Blk.mk Bool.false (Body.fl .f32 (hvLn (hGet hs 3))))]) := e2.trans (by kernel_rfl)
  clear e2
  subst e1
  unfold z91 at e3
  injection e3 with h1 h2
  subst h2
  exact ⟨8, 8, big, Eq.trans (ziw (hvN (hGet hs 0)) (hvI (hGet hs 1)) (hvLn (hGet hs 3)) big (hvI (hGet hs 2))) (zih (hvN (hGet hs 0)) (hvI (hGet hs 1)) (hvLn (hGet hs 3)) (z0j (hvN (hGet hs 0)) (hvI (hGet hs 1)) (hvLn (hGet hs 3)) big (hvI (hGet hs 2))) h1)⟩)
noncomputable def tb4 : List (Nat × (List PT → Option (Bool × AV × List Blk))) := (104, znz) :: (188, zmw) :: tb3
noncomputable def lt4 : List ((Nat × Nat) × (Nat → St → Option (Bool × LO))) := ((171, 4), z8f) :: ((178, 2), zaa) :: ((178, 2), z9f) :: lt3
noncomputable def Γ4 : Ctx := ⟨tyTab, fnTab, tblSum tb4, tblLp lt4⟩
theorem zue : SumL Try.prog tb4 := SumL.cons y00 (SumL.cons zxx (zyn))
theorem zum : LpL Try.prog fnTab lt4 := LpL.cons zck (LpL.cons zhv (LpL.cons zfo (zxi)))
noncomputable def zrd : List PT → Option (Bool × AV × List Blk)
  | [.one (.s (.flt .f32 x))] => some ((zbx x), ((AV.v (TV.one (At.flt .f32 (z3u x)))), []))
  | _ => none
def zxh (x : Nat) : Option (Nat) → Option (AV × List Blk)
  | some r => some ((AV.v (TV.one (At.flt .f32 r))), [])
  | none => none
theorem y7j (x : Nat) : evFn Γ4 8 8 165 (impTs 0 [.one (.s (.flt .f32 x))]).1 (impTs 0 [.one (.s (.flt .f32 x))]).2 (expo (impTs 0 [.one (.s (.flt .f32 x))]).2.length) = ze9 x (fun c0_ => some ((AV.v (TV.one (At.flt .f32 c0_))), [])) := by kernel_rfl
theorem y3z : SumOne Try.prog 165 zrd := z16 (Γ := Γ4) (fuel := 8) (d := 8) tyTab_ok (FnL.ok fnTab_ok _ _) (LpL.ok zum) (SumL.ok zue _) mixed (by
  intro pts v news hp hc
  clear hc
  unfold zrd at hp
  split at hp
  · rename_i x
    exact Eq.trans (Eq.trans (y7j x) (y1y (zxh x) rfl x (fun c0_ => some c0_))) (z0y (o := (zxh x)) (x := zbt x) (d := default) (V := fun r => ((AV.v (TV.one (At.flt .f32 r))), [])) (fun r => rfl) hp)
  · cases hp)
noncomputable def z5p : List PT → Option (Bool × AV × List Blk)
  | [.one (.row 1 q2x (.fl .f32 s1)), .one (.row 1 q2z (.fl .f32 s2)), .fn 94 []] => some ((z3v q2x s1 q2z s2), ((AV.v (TV.one (At.bool (z3s q2x s1 q2z s2)))), []))
  | _ => none
def z8t (q2x : Nat) (s1 : List Nat) (q2z : Nat) (s2 : List Nat) : Option (Bool) → Option (AV × List Blk)
  | some r => some ((AV.v (TV.one (At.bool r))), [])
  | none => none
theorem zfq (q2x : Nat) (s1 : List Nat) (q2z : Nat) (s2 : List Nat) : evFn Γ4 8 8 171 (impTs 0 [.one (.row 1 q2x (.fl .f32 s1)), .one (.row 1 q2z (.fl .f32 s2)), .fn 94 []]).1 (impTs 0 [.one (.row 1 q2x (.fl .f32 s1)), .one (.row 1 q2z (.fl .f32 s2)), .fn 94 []]).2 (expo (impTs 0 [.one (.row 1 q2x (.fl .f32 s1)), .one (.row 1 q2z (.fl .f32 s2)), .fn 94 []]).2.length) = z1t q2x s1 q2z s2 (fun c0_ => some ((AV.v (TV.one (At.bool c0_))), [])) := by kernel_rfl
theorem ze4 : SumOne Try.prog 171 z5p := z16 (Γ := Γ4) (fuel := 8) (d := 8) tyTab_ok (FnL.ok fnTab_ok _ _) (LpL.ok zum) (SumL.ok zue _) mixed (by
  intro pts v news hp hc
  clear hc
  unfold z5p at hp
  split at hp
  · rename_i q2x s1 q2z s2
    exact Eq.trans (Eq.trans (zfq q2x s1 q2z s2) (zd9 (z8t q2x s1 q2z s2) rfl q2x s1 q2z s2 (fun c0_ => some c0_))) (z0y (o := (z8t q2x s1 q2z s2)) (x := z1s q2x s1 q2z s2) (d := default) (V := fun r => ((AV.v (TV.one (At.bool r))), [])) (fun r => rfl) hp)
  · cases hp)
noncomputable def z7r : List PT → Option (Bool × AV × List Blk)
  | [.one (.row 1 s_n (.fl .f32 s)), .fn 148 []] => some ((z55 s_n s), ((AV.v (TV.one (At.int .i64 (z53 s_n s)))), []))
  | _ => none
def zbf (s_n : Nat) (s : List Nat) : Option (Int) → Option (AV × List Blk)
  | some r => some ((AV.v (TV.one (At.int .i64 r))), [])
  | none => none
theorem zld (s_n : Nat) (s : List Nat) : evFn Γ4 8 8 178 (impTs 0 [.one (.row 1 s_n (.fl .f32 s)), .fn 148 []]).1 (impTs 0 [.one (.row 1 s_n (.fl .f32 s)), .fn 148 []]).2 (expo (impTs 0 [.one (.row 1 s_n (.fl .f32 s)), .fn 148 []]).2.length) = z33 s_n s (fun c0_ => some ((AV.v (TV.one (At.int .i64 c0_))), [])) := by kernel_rfl
theorem zju : SumOne Try.prog 178 z7r := z16 (Γ := Γ4) (fuel := 8) (d := 8) tyTab_ok (FnL.ok fnTab_ok _ _) (LpL.ok zum) (SumL.ok zue _) mixed (by
  intro pts v news hp hc
  clear hc
  unfold z7r at hp
  split at hp
  · rename_i s_n s
    exact Eq.trans (Eq.trans (zld s_n s) (zj3 (zbf s_n s) rfl s_n s (fun c0_ => some c0_))) (z0y (o := (zbf s_n s)) (x := z32 s_n s) (d := default) (V := fun r => ((AV.v (TV.one (At.int .i64 r))), [])) (fun r => rfl) hp)
  · cases hp)
noncomputable def z71 : List PT → Option (Bool × AV × List Blk)
  | [.one (.row 1 s_n (.fl .f32 s)), .fn 150 []] => some ((z4y s_n s), ((AV.v (TV.one (At.int .i64 (z4k s_n s)))), []))
  | _ => none
def zag (s_n : Nat) (s : List Nat) : Option (Int) → Option (AV × List Blk)
  | some r => some ((AV.v (TV.one (At.int .i64 r))), [])
  | none => none
theorem zkn (s_n : Nat) (s : List Nat) : evFn Γ4 8 8 178 (impTs 0 [.one (.row 1 s_n (.fl .f32 s)), .fn 150 []]).1 (impTs 0 [.one (.row 1 s_n (.fl .f32 s)), .fn 150 []]).2 (expo (impTs 0 [.one (.row 1 s_n (.fl .f32 s)), .fn 150 []]).2.length) = z2r s_n s (fun c0_ => some ((AV.v (TV.one (At.int .i64 c0_))), [])) := by kernel_rfl
theorem zit : SumOne Try.prog 178 z71 := z16 (Γ := Γ4) (fuel := 8) (d := 8) tyTab_ok (FnL.ok fnTab_ok _ _) (LpL.ok zum) (SumL.ok zue _) mixed (by
  intro pts v news hp hc
  clear hc
  unfold z71 at hp
  split at hp
  · rename_i s_n s
    exact Eq.trans (Eq.trans (zkn s_n s) (zhn (zag s_n s) rfl s_n s (fun c0_ => some c0_))) (z0y (o := (zag s_n s)) (x := z2u s_n s) (d := default) (V := fun r => ((AV.v (TV.one (At.int .i64 r))), [])) (fun r => rfl) hp)
  · cases hp)
noncomputable def z37 (s2n : Nat) (q23 : Nat) (t16 : Int) (t17 : Int) (b0 : List Nat) (b1 : List Nat) : Bool × LO := ((z0e s2n q23 t16 b0 b1 t17), (LO.two (z0d s2n q23 t16 b0 b1 t17) (LO.one Ex.ret (St.mk [(6, (AV.v (TV.one (At.bool Bool.false))))] [(Blk.mk Bool.false (Body.fl .f32 b0)), (Blk.mk Bool.false (Body.fl .f32 b1))])) (LO.one (Ex.exit 0) (St.mk [(1, (AV.v (TV.one (At.vw 1 0 s2n 3)))), (2, (AV.v (TV.one (At.fn 93 [])))), (15, (AV.v (TV.one (At.vw 0 0 q23 3)))), (16, (AV.v (TV.one (At.int .i64 t16)))), (17, (AV.v (TV.one (At.int .i64 (z1k s2n q23 t16 b0 b1 t17))))), (18, (AV.v (TV.one (At.bool (z1l s2n q23 t16 b0 b1 t17)))))] [(Blk.mk Bool.false (Body.fl .f32 b0)), (Blk.mk Bool.false (Body.fl .f32 b1))]))))
noncomputable def z3d : Nat → St → Option (Bool × LO) := lpT 2 (pSt [(pTm 1 (pV (pOne (pVw 1 (liN 0) 3)))), (pTm 2 (pV (pOne (pFn 93 [])))), (pTm 15 (pV (pOne (pVw 0 (liN 0) 3)))), (pTm 16 (pV (pOne (pInt .i64)))), (pTm 17 (pV (pOne (pInt .i64))))] [(pBlk Bool.false (pFl .f32)), (pBlk Bool.false (pFl .f32))]) (fun hs => z37 (hvN (hGet hs 0)) (hvN (hGet hs 1)) (hvI (hGet hs 2)) (hvI (hGet hs 3)) (hvLn (hGet hs 4)) (hvLn (hGet hs 5)))
def z0v (s2n : Nat) (q23 : Nat) (t16 : Int) (b0 : List Nat) (b1 : List Nat) : Option ((Unit) ⊕ (Int × Bool)) → Option (Ex × St)
  | none => none
  | some (Sum.inl r) => some (Ex.ret, (St.mk [(6, (AV.v (TV.one (At.bool Bool.false))))] [(Blk.mk Bool.false (Body.fl .f32 b0)), (Blk.mk Bool.false (Body.fl .f32 b1))]))
  | some (Sum.inr r) => some ((Ex.exit 0), (St.mk [(1, (AV.v (TV.one (At.vw 1 0 s2n 3)))), (2, (AV.v (TV.one (At.fn 93 [])))), (15, (AV.v (TV.one (At.vw 0 0 q23 3)))), (16, (AV.v (TV.one (At.int .i64 t16)))), (17, (AV.v (TV.one (At.int .i64 r.1)))), (18, (AV.v (TV.one (At.bool r.2))))] [(Blk.mk Bool.false (Body.fl .f32 b0)), (Blk.mk Bool.false (Body.fl .f32 b1))]))
def z67 (s2n : Nat) (q23 : Nat) (t16 : Int) (b0 : List Nat) (b1 : List Nat) (x : Option ((Unit) ⊕ (Int × Bool))) : LO := (LO.two (oL x) (LO.one Ex.ret (St.mk [(6, (AV.v (TV.one (At.bool Bool.false))))] [(Blk.mk Bool.false (Body.fl .f32 b0)), (Blk.mk Bool.false (Body.fl .f32 b1))])) (LO.one (Ex.exit 0) (St.mk [(1, (AV.v (TV.one (At.vw 1 0 s2n 3)))), (2, (AV.v (TV.one (At.fn 93 [])))), (15, (AV.v (TV.one (At.vw 0 0 q23 3)))), (16, (AV.v (TV.one (At.int .i64 t16)))), (17, (AV.v (TV.one (At.int .i64 ((tR x).getD default).1)))), (18, (AV.v (TV.one (At.bool ((tR x).getD default).2))))] [(Blk.mk Bool.false (Body.fl .f32 b0)), (Blk.mk Bool.false (Body.fl .f32 b1))])))
theorem z6j (s2n : Nat) (q23 : Nat) (t16 : Int) (b0 : List Nat) (b1 : List Nat) : ∀ x : Option ((Unit) ⊕ (Int × Bool)), x.isSome = true → (z0v s2n q23 t16 b0 b1) x = some (pick (z67 s2n q23 t16 b0 b1 x))
  | none, h => by cases h
  | some (Sum.inl r), _ => rfl
  | some (Sum.inr r), _ => rfl
theorem z6i (s2n : Nat) (q23 : Nat) (t16 : Int) (t17 : Int) (b0 : List Nat) (b1 : List Nat) (K : Ex → St → Option (Ex × St)) : evC (R := Ex × St) Γ4 (evFn Γ4 8 8) 95 2 fi95.nt fi95.live fi95.nl 8 (findL 4 (loopsIn fi95.code)) (St.mk [(1, (AV.v (TV.one (At.vw 1 0 s2n 3)))), (2, (AV.v (TV.one (At.fn 93 [])))), (15, (AV.v (TV.one (At.vw 0 0 q23 3)))), (16, (AV.v (TV.one (At.int .i64 t16)))), (17, (AV.v (TV.one (At.int .i64 t17))))] [(Blk.mk Bool.false (Body.fl .f32 b0)), (Blk.mk Bool.false (Body.fl .f32 b1))]) K = z07 s2n q23 t16 b0 b1 t17 (fun t17' => K .normal (St.mk [(1, (AV.v (TV.one (At.vw 1 0 s2n 3)))), (2, (AV.v (TV.one (At.fn 93 [])))), (15, (AV.v (TV.one (At.vw 0 0 q23 3)))), (16, (AV.v (TV.one (At.int .i64 t16)))), (17, (AV.v (TV.one (At.int .i64 t17'))))] [(Blk.mk Bool.false (Body.fl .f32 b0)), (Blk.mk Bool.false (Body.fl .f32 b1))])) (fun _ => K Ex.ret (St.mk [(6, (AV.v (TV.one (At.bool Bool.false))))] [(Blk.mk Bool.false (Body.fl .f32 b0)), (Blk.mk Bool.false (Body.fl .f32 b1))])) (fun c0_ c1_ => K (Ex.exit 0) (St.mk [(1, (AV.v (TV.one (At.vw 1 0 s2n 3)))), (2, (AV.v (TV.one (At.fn 93 [])))), (15, (AV.v (TV.one (At.vw 0 0 q23 3)))), (16, (AV.v (TV.one (At.int .i64 t16)))), (17, (AV.v (TV.one (At.int .i64 c0_)))), (18, (AV.v (TV.one (At.bool c1_))))] [(Blk.mk Bool.false (Body.fl .f32 b0)), (Blk.mk Bool.false (Body.fl .f32 b1))])) := by kernel_rfl
theorem z6h (s2n : Nat) (q23 : Nat) (t16 : Int) (b0 : List Nat) (b1 : List Nat) : ∀ (n : Nat) (t17 : Int), iter 95 4 2 (evC (R := Ex × St) Γ4 (evFn Γ4 8 8) 95 2 fi95.nt fi95.live fi95.nl 8 (findL 4 (loopsIn fi95.code))) n (St.mk [(1, (AV.v (TV.one (At.vw 1 0 s2n 3)))), (2, (AV.v (TV.one (At.fn 93 [])))), (15, (AV.v (TV.one (At.vw 0 0 q23 3)))), (16, (AV.v (TV.one (At.int .i64 t16)))), (17, (AV.v (TV.one (At.int .i64 t17))))] [(Blk.mk Bool.false (Body.fl .f32 b0)), (Blk.mk Bool.false (Body.fl .f32 b1))]) (fun e st => some (e, st)) = (z0v s2n q23 t16 b0 b1) (z02 s2n q23 t16 b0 b1 n t17) := by
  intro n
  induction n with
  | zero => intros; rfl
  | succ n ih =>
    intro t17
    refine Eq.trans (z89 ..) (Eq.trans (z6i s2n q23 t16 t17 b0 b1 (nextK 95 4 2 (evC (R := Ex × St) Γ4 (evFn Γ4 8 8) 95 2 fi95.nt fi95.live fi95.nl 8 (findL 4 (loopsIn fi95.code))) n (fun e st => some (e, st)))) (Eq.trans ?_ (z5w (z0v s2n q23 t16 b0 b1) rfl s2n q23 t16 b0 b1 t17 (fun t17' => z02 s2n q23 t16 b0 b1 n t17') (fun _ => some (Sum.inl ())) (fun c0_ c1_ => some (Sum.inr (c0_, c1_))))))
    exact congrArg (fun kn_ => z07 s2n q23 t16 b0 b1 t17 kn_ (fun _ => (z0v s2n q23 t16 b0 b1) (some (Sum.inl ()))) (fun c0_ c1_ => (z0v s2n q23 t16 b0 b1) (some (Sum.inr (c0_, c1_))))) (funext fun t17' => ih t17')
theorem z5y : LoopOne Try.prog fnTab 95 4 z3d := lp_of (Γ := Γ4) tyTab_ok (FnL.ok fnTab_ok _ _) (LpL.ok zum) (SumL.ok zue _) mixed (fi := fi95) (by kernel_rfl) (by kernel_rfl) (by
  intro lo st out hp
  obtain ⟨hs, e1, e2, e3⟩ := z78 hp
  clear hp
  obtain rfl : st = (St.mk [(1, (AV.v (TV.one (At.vw 1 0 (hvN (hGet hs 0)) 3)))), (2, (AV.v (TV.one (At.fn 93 [])))), (15, (AV.v (TV.one (At.vw 0 0 (hvN (hGet hs 1)) 3)))), (16, (AV.v (TV.one (At.int .i64 (hvI (hGet hs 2)))))), (17, (AV.v (TV.one (At.int .i64 (hvI (hGet hs 3))))))] [(Blk.mk Bool.false (Body.fl .f32 (hvLn (hGet hs 4)))), (Blk.mk Bool.false (Body.fl .f32 (hvLn (hGet hs 5))))]) := e2.trans (by kernel_rfl)
  clear e2
  subst e1
  unfold z37 at e3
  injection e3 with h1 h2
  subst h2
  exact ⟨8, 8, big, Eq.trans (z6h (hvN (hGet hs 0)) (hvN (hGet hs 1)) (hvI (hGet hs 2)) (hvLn (hGet hs 4)) (hvLn (hGet hs 5)) big (hvI (hGet hs 3))) (z6j (hvN (hGet hs 0)) (hvN (hGet hs 1)) (hvI (hGet hs 2)) (hvLn (hGet hs 4)) (hvLn (hGet hs 5)) (z02 (hvN (hGet hs 0)) (hvN (hGet hs 1)) (hvI (hGet hs 2)) (hvLn (hGet hs 4)) (hvLn (hGet hs 5)) big (hvI (hGet hs 3))) h1)⟩)
noncomputable def z9j (sn : Nat) (t7 : Int) (t8 : Int) (b0 : List Nat) : Bool × LO := ((z2v sn t7 b0 t8), (LO.two (z2l sn t7 b0 t8) (LO.one Ex.ret (St.mk [(4, (AV.v (TV.one (At.int .i64 (z4c sn t7 b0 t8)))))] [(Blk.mk Bool.false (Body.fl .f32 b0))])) (LO.one (Ex.exit 0) (St.mk [(0, (AV.v (TV.one (At.vw 0 0 sn 1)))), (1, (AV.v (TV.one (At.fn 154 [])))), (7, (AV.v (TV.one (At.int .i64 t7)))), (8, (AV.v (TV.one (At.int .i64 (z6b sn t7 b0 t8))))), (9, (AV.v (TV.one (At.bool (z6a sn t7 b0 t8)))))] [(Blk.mk Bool.false (Body.fl .f32 b0))]))))
noncomputable def zaf : Nat → St → Option (Bool × LO) := lpT 1 (pSt [(pTm 0 (pV (pOne (pVw 0 (liN 0) 1)))), (pTm 1 (pV (pOne (pFn 154 [])))), (pTm 7 (pV (pOne (pInt .i64)))), (pTm 8 (pV (pOne (pInt .i64))))] [(pBlk Bool.false (pFl .f32))]) (fun hs => z9j (hvN (hGet hs 0)) (hvI (hGet hs 1)) (hvI (hGet hs 2)) (hvLn (hGet hs 3)))
def z3n (sn : Nat) (t7 : Int) (b0 : List Nat) : Option ((Int) ⊕ (Int × Bool)) → Option (Ex × St)
  | none => none
  | some (Sum.inl r) => some (Ex.ret, (St.mk [(4, (AV.v (TV.one (At.int .i64 r))))] [(Blk.mk Bool.false (Body.fl .f32 b0))]))
  | some (Sum.inr r) => some ((Ex.exit 0), (St.mk [(0, (AV.v (TV.one (At.vw 0 0 sn 1)))), (1, (AV.v (TV.one (At.fn 154 [])))), (7, (AV.v (TV.one (At.int .i64 t7)))), (8, (AV.v (TV.one (At.int .i64 r.1)))), (9, (AV.v (TV.one (At.bool r.2))))] [(Blk.mk Bool.false (Body.fl .f32 b0))]))
def zjz (sn : Nat) (t7 : Int) (b0 : List Nat) (x : Option ((Int) ⊕ (Int × Bool))) : LO := (LO.two (oL x) (LO.one Ex.ret (St.mk [(4, (AV.v (TV.one (At.int .i64 ((tL x).getD default)))))] [(Blk.mk Bool.false (Body.fl .f32 b0))])) (LO.one (Ex.exit 0) (St.mk [(0, (AV.v (TV.one (At.vw 0 0 sn 1)))), (1, (AV.v (TV.one (At.fn 154 [])))), (7, (AV.v (TV.one (At.int .i64 t7)))), (8, (AV.v (TV.one (At.int .i64 ((tR x).getD default).1)))), (9, (AV.v (TV.one (At.bool ((tR x).getD default).2))))] [(Blk.mk Bool.false (Body.fl .f32 b0))])))
theorem zkm (sn : Nat) (t7 : Int) (b0 : List Nat) : ∀ x : Option ((Int) ⊕ (Int × Bool)), x.isSome = true → (z3n sn t7 b0) x = some (pick (zjz sn t7 b0 x))
  | none, h => by cases h
  | some (Sum.inl r), _ => rfl
  | some (Sum.inr r), _ => rfl
theorem zkr (sn : Nat) (t7 : Int) (t8 : Int) (b0 : List Nat) (K : Ex → St → Option (Ex × St)) : evC (R := Ex × St) Γ4 (evFn Γ4 8 8) 178 1 fi178.nt fi178.live fi178.nl 8 (findL 2 (loopsIn fi178.code)) (St.mk [(0, (AV.v (TV.one (At.vw 0 0 sn 1)))), (1, (AV.v (TV.one (At.fn 154 [])))), (7, (AV.v (TV.one (At.int .i64 t7)))), (8, (AV.v (TV.one (At.int .i64 t8))))] [(Blk.mk Bool.false (Body.fl .f32 b0))]) K = z1i sn t7 b0 t8 (fun t8' => K .normal (St.mk [(0, (AV.v (TV.one (At.vw 0 0 sn 1)))), (1, (AV.v (TV.one (At.fn 154 [])))), (7, (AV.v (TV.one (At.int .i64 t7)))), (8, (AV.v (TV.one (At.int .i64 t8'))))] [(Blk.mk Bool.false (Body.fl .f32 b0))])) (fun c0_ => K Ex.ret (St.mk [(4, (AV.v (TV.one (At.int .i64 c0_))))] [(Blk.mk Bool.false (Body.fl .f32 b0))])) (fun c0_ c1_ => K (Ex.exit 0) (St.mk [(0, (AV.v (TV.one (At.vw 0 0 sn 1)))), (1, (AV.v (TV.one (At.fn 154 [])))), (7, (AV.v (TV.one (At.int .i64 t7)))), (8, (AV.v (TV.one (At.int .i64 c0_)))), (9, (AV.v (TV.one (At.bool c1_))))] [(Blk.mk Bool.false (Body.fl .f32 b0))])) := by kernel_rfl
theorem zko (sn : Nat) (t7 : Int) (b0 : List Nat) : ∀ (n : Nat) (t8 : Int), iter 178 2 1 (evC (R := Ex × St) Γ4 (evFn Γ4 8 8) 178 1 fi178.nt fi178.live fi178.nl 8 (findL 2 (loopsIn fi178.code))) n (St.mk [(0, (AV.v (TV.one (At.vw 0 0 sn 1)))), (1, (AV.v (TV.one (At.fn 154 [])))), (7, (AV.v (TV.one (At.int .i64 t7)))), (8, (AV.v (TV.one (At.int .i64 t8))))] [(Blk.mk Bool.false (Body.fl .f32 b0))]) (fun e st => some (e, st)) = (z3n sn t7 b0) (z0n sn t7 b0 n t8) := by
  intro n
  induction n with
  | zero => intros; rfl
  | succ n ih =>
    intro t8
    refine Eq.trans (z89 ..) (Eq.trans (zkr sn t7 t8 b0 (nextK 178 2 1 (evC (R := Ex × St) Γ4 (evFn Γ4 8 8) 178 1 fi178.nt fi178.live fi178.nl 8 (findL 2 (loopsIn fi178.code))) n (fun e st => some (e, st)))) (Eq.trans ?_ (zgw (z3n sn t7 b0) rfl sn t7 b0 t8 (fun t8' => z0n sn t7 b0 n t8') (fun c0_ => some (Sum.inl c0_)) (fun c0_ c1_ => some (Sum.inr (c0_, c1_))))))
    exact congrArg (fun kn_ => z1i sn t7 b0 t8 kn_ (fun c0_ => (z3n sn t7 b0) (some (Sum.inl c0_))) (fun c0_ c1_ => (z3n sn t7 b0) (some (Sum.inr (c0_, c1_))))) (funext fun t8' => ih t8')
theorem ziq : LoopOne Try.prog fnTab 178 2 zaf := lp_of (Γ := Γ4) tyTab_ok (FnL.ok fnTab_ok _ _) (LpL.ok zum) (SumL.ok zue _) mixed (fi := fi178) (by kernel_rfl) (by kernel_rfl) (by
  intro lo st out hp
  obtain ⟨hs, e1, e2, e3⟩ := z78 hp
  clear hp
  obtain rfl : st = (St.mk [(0, (AV.v (TV.one (At.vw 0 0 (hvN (hGet hs 0)) 1)))), (1, (AV.v (TV.one (At.fn 154 [])))), (7, (AV.v (TV.one (At.int .i64 (hvI (hGet hs 1)))))), (8, (AV.v (TV.one (At.int .i64 (hvI (hGet hs 2))))))] [(Blk.mk Bool.false (Body.fl .f32 (hvLn (hGet hs 3))))]) := e2.trans (by kernel_rfl)
  clear e2
  subst e1
  unfold z9j at e3
  injection e3 with h1 h2
  subst h2
  exact ⟨8, 8, big, Eq.trans (zko (hvN (hGet hs 0)) (hvI (hGet hs 1)) (hvLn (hGet hs 3)) big (hvI (hGet hs 2))) (zkm (hvN (hGet hs 0)) (hvI (hGet hs 1)) (hvLn (hGet hs 3)) (z0n (hvN (hGet hs 0)) (hvI (hGet hs 1)) (hvLn (hGet hs 3)) big (hvI (hGet hs 2))) h1)⟩)
noncomputable def tb5 : List (Nat × (List PT → Option (Bool × AV × List Blk))) := (165, zrd) :: (171, z5p) :: (178, z7r) :: (178, z71) :: tb4
noncomputable def lt5 : List ((Nat × Nat) × (Nat → St → Option (Bool × LO))) := ((95, 4), z3d) :: ((178, 2), zaf) :: lt4
noncomputable def Γ5 : Ctx := ⟨tyTab, fnTab, tblSum tb5, tblLp lt5⟩
theorem zxs : SumL Try.prog tb5 := SumL.cons y3z (SumL.cons ze4 (SumL.cons zju (SumL.cons zit (zue))))
theorem zyk : LpL Try.prog fnTab lt5 := LpL.cons z5y (LpL.cons ziq (zum))
noncomputable def z1q : List PT → Option (Bool × AV × List Blk)
  | [.one (.row 3 q2x (.fl .f32 s1)), .one (.row 3 q2z (.fl .f32 s2)), .fn 93 []] => some ((z1a q2x s1 q2z s2), ((AV.v (TV.one (At.bool (z17 q2x s1 q2z s2)))), []))
  | _ => none
def z3k (q2x : Nat) (s1 : List Nat) (q2z : Nat) (s2 : List Nat) : Option (Bool) → Option (AV × List Blk)
  | some r => some ((AV.v (TV.one (At.bool r))), [])
  | none => none
theorem z6u (q2x : Nat) (s1 : List Nat) (q2z : Nat) (s2 : List Nat) : evFn Γ5 8 8 95 (impTs 0 [.one (.row 3 q2x (.fl .f32 s1)), .one (.row 3 q2z (.fl .f32 s2)), .fn 93 []]).1 (impTs 0 [.one (.row 3 q2x (.fl .f32 s1)), .one (.row 3 q2z (.fl .f32 s2)), .fn 93 []]).2 (expo (impTs 0 [.one (.row 3 q2x (.fl .f32 s1)), .one (.row 3 q2z (.fl .f32 s2)), .fn 93 []]).2.length) = z0p q2x s1 q2z s2 (fun c0_ => some ((AV.v (TV.one (At.bool c0_))), [])) := by kernel_rfl
theorem z6f : SumOne Try.prog 95 z1q := z16 (Γ := Γ5) (fuel := 8) (d := 8) tyTab_ok (FnL.ok fnTab_ok _ _) (LpL.ok zyk) (SumL.ok zxs _) mixed (by
  intro pts v news hp hc
  clear hc
  unfold z1q at hp
  split at hp
  · rename_i q2x s1 q2z s2
    exact Eq.trans (Eq.trans (z6u q2x s1 q2z s2) (z6e (z3k q2x s1 q2z s2) rfl q2x s1 q2z s2 (fun c0_ => some c0_))) (z0y (o := (z3k q2x s1 q2z s2)) (x := z0o q2x s1 q2z s2) (d := default) (V := fun r => ((AV.v (TV.one (At.bool r))), [])) (fun r => rfl) hp)
  · cases hp)
noncomputable def zm9 : List PT → Option (Bool × AV × List Blk)
  | [.one (.row 1 a_n (.fl .f32 a)), .one (.row 1 b_n (.fl .f32 b))] => some ((z9x a_n a b_n b), ((AV.v (TV.one (At.bool (z98 a_n a b_n b)))), []))
  | _ => none
def zsg (a_n : Nat) (a : List Nat) (b_n : Nat) (b : List Nat) : Option (Bool) → Option (AV × List Blk)
  | some r => some ((AV.v (TV.one (At.bool r))), [])
  | none => none
theorem y2o (a_n : Nat) (a : List Nat) (b_n : Nat) (b : List Nat) : evFn Γ5 8 8 127 (impTs 0 [.one (.row 1 a_n (.fl .f32 a)), .one (.row 1 b_n (.fl .f32 b))]).1 (impTs 0 [.one (.row 1 a_n (.fl .f32 a)), .one (.row 1 b_n (.fl .f32 b))]).2 (expo (impTs 0 [.one (.row 1 a_n (.fl .f32 a)), .one (.row 1 b_n (.fl .f32 b))]).2.length) = zac a_n a b_n b (fun c0_ => some ((AV.v (TV.one (At.bool c0_))), [])) := by kernel_rfl
theorem zxg : SumOne Try.prog 127 zm9 := z16 (Γ := Γ5) (fuel := 8) (d := 8) tyTab_ok (FnL.ok fnTab_ok _ _) (LpL.ok zyk) (SumL.ok zxs _) mixed (by
  intro pts v news hp hc
  clear hc
  unfold zm9 at hp
  split at hp
  · rename_i a_n a b_n b
    exact Eq.trans (Eq.trans (y2o a_n a b_n b) (zwc (zsg a_n a b_n b) rfl a_n a b_n b (fun c0_ => some c0_))) (z0y (o := (zsg a_n a b_n b)) (x := za1 a_n a b_n b) (d := default) (V := fun r => ((AV.v (TV.one (At.bool r))), [])) (fun r => rfl) hp)
  · cases hp)
noncomputable def zu7 : List PT → Option (Bool × AV × List Blk)
  | [.one (.s (.flt .f64 x))] => some ((zmp x), ((AV.v (TV.one (At.flt .f64 (z9i x)))), []))
  | _ => none
def y29 (x : Nat) : Option (Nat) → Option (AV × List Blk)
  | some r => some ((AV.v (TV.one (At.flt .f64 r))), [])
  | none => none
theorem y9j (x : Nat) : evFn Γ5 8 8 170 (impTs 0 [.one (.s (.flt .f64 x))]).1 (impTs 0 [.one (.s (.flt .f64 x))]).2 (expo (impTs 0 [.one (.s (.flt .f64 x))]).2.length) = zjw x (fun c0_ => some ((AV.v (TV.one (At.flt .f64 c0_))), [])) := by kernel_rfl
theorem y5z : SumOne Try.prog 170 zu7 := z16 (Γ := Γ5) (fuel := 8) (d := 8) tyTab_ok (FnL.ok fnTab_ok _ _) (LpL.ok zyk) (SumL.ok zxs _) mixed (by
  intro pts v news hp hc
  clear hc
  unfold zu7 at hp
  split at hp
  · rename_i x
    exact Eq.trans (Eq.trans (y9j x) (y4u (y29 x) rfl x (fun c0_ => some c0_))) (z0y (o := (y29 x)) (x := zkj x) (d := default) (V := fun r => ((AV.v (TV.one (At.flt .f64 r))), [])) (fun r => rfl) hp)
  · cases hp)
noncomputable def z8a : List PT → Option (Bool × AV × List Blk)
  | [.one (.row 1 s_n (.fl .f32 s)), .fn 154 []] => some ((z5l s_n s), ((AV.v (TV.one (At.int .i64 (z56 s_n s)))), []))
  | _ => none
def zbk (s_n : Nat) (s : List Nat) : Option (Int) → Option (AV × List Blk)
  | some r => some ((AV.v (TV.one (At.int .i64 r))), [])
  | none => none
theorem zlt (s_n : Nat) (s : List Nat) : evFn Γ5 8 8 178 (impTs 0 [.one (.row 1 s_n (.fl .f32 s)), .fn 154 []]).1 (impTs 0 [.one (.row 1 s_n (.fl .f32 s)), .fn 154 []]).2 (expo (impTs 0 [.one (.row 1 s_n (.fl .f32 s)), .fn 154 []]).2.length) = z39 s_n s (fun c0_ => some ((AV.v (TV.one (At.int .i64 c0_))), [])) := by kernel_rfl
theorem zkq : SumOne Try.prog 178 z8a := z16 (Γ := Γ5) (fuel := 8) (d := 8) tyTab_ok (FnL.ok fnTab_ok _ _) (LpL.ok zyk) (SumL.ok zxs _) mixed (by
  intro pts v news hp hc
  clear hc
  unfold z8a at hp
  split at hp
  · rename_i s_n s
    exact Eq.trans (Eq.trans (zlt s_n s) (zk3 (zbk s_n s) rfl s_n s (fun c0_ => some c0_))) (z0y (o := (zbk s_n s)) (x := z38 s_n s) (d := default) (V := fun r => ((AV.v (TV.one (At.int .i64 r))), [])) (fun r => rfl) hp)
  · cases hp)
noncomputable def zv9 (q41 : Bool) (z : Nat) (u : Nat) (p : Nat) (k : Nat) : Bool × LO := ((zae u p k), (LO.one (Ex.exit 0) (St.mk [(4, (AV.v (TV.one (At.bool q41)))), (5, (AV.v (TV.one (At.flt .f64 z)))), (6, (AV.v (TV.one (At.flt .f64 u)))), (7, (AV.v (TV.one (At.flt .f64 (z7z u p k))))), (8, (AV.v (TV.one (At.flt .f64 (zo1 u p k))))), (25, (AV.v (TV.one (At.bool (znx u p k)))))] [])))
noncomputable def zxw : Nat → St → Option (Bool × LO) := lpT 0 (pSt [(pTm 4 (pV (pOne pBool))), (pTm 5 (pV (pOne (pFlt .f64)))), (pTm 6 (pV (pOne (pFlt .f64)))), (pTm 7 (pV (pOne (pFlt .f64)))), (pTm 8 (pV (pOne (pFlt .f64))))] []) (fun hs => zv9 (hvB (hGet hs 0)) (hvN (hGet hs 1)) (hvN (hGet hs 2)) (hvN (hGet hs 3)) (hvN (hGet hs 4)))
def zne (q41 : Bool) (z : Nat) (u : Nat) : Option ((Nat × Nat × Bool)) → Option (Ex × St)
  | none => none
  | some r => some ((Ex.exit 0), (St.mk [(4, (AV.v (TV.one (At.bool q41)))), (5, (AV.v (TV.one (At.flt .f64 z)))), (6, (AV.v (TV.one (At.flt .f64 u)))), (7, (AV.v (TV.one (At.flt .f64 r.1)))), (8, (AV.v (TV.one (At.flt .f64 r.2.1)))), (25, (AV.v (TV.one (At.bool r.2.2))))] []))
def y6t (q41 : Bool) (z : Nat) (u : Nat) (x : Option ((Nat × Nat × Bool))) : LO := (LO.one (Ex.exit 0) (St.mk [(4, (AV.v (TV.one (At.bool q41)))), (5, (AV.v (TV.one (At.flt .f64 z)))), (6, (AV.v (TV.one (At.flt .f64 u)))), (7, (AV.v (TV.one (At.flt .f64 (x.getD default).1)))), (8, (AV.v (TV.one (At.flt .f64 (x.getD default).2.1)))), (25, (AV.v (TV.one (At.bool (x.getD default).2.2))))] []))
theorem y7f (q41 : Bool) (z : Nat) (u : Nat) : ∀ x : Option ((Nat × Nat × Bool)), x.isSome = true → (zne q41 z u) x = some (pick (y6t q41 z u x))
  | none, h => by cases h
  | some r, _ => rfl
theorem y73 (q41 : Bool) (z : Nat) (u : Nat) (p : Nat) (k : Nat) (K : Ex → St → Option (Ex × St)) : evC (R := Ex × St) Γ5 (evFn Γ5 8 8) 105 0 fi105.nt fi105.live fi105.nl 8 (findL 9 (loopsIn fi105.code)) (St.mk [(4, (AV.v (TV.one (At.bool q41)))), (5, (AV.v (TV.one (At.flt .f64 z)))), (6, (AV.v (TV.one (At.flt .f64 u)))), (7, (AV.v (TV.one (At.flt .f64 p)))), (8, (AV.v (TV.one (At.flt .f64 k))))] []) K = z8v u p k (fun p' k' => K .normal (St.mk [(4, (AV.v (TV.one (At.bool q41)))), (5, (AV.v (TV.one (At.flt .f64 z)))), (6, (AV.v (TV.one (At.flt .f64 u)))), (7, (AV.v (TV.one (At.flt .f64 p')))), (8, (AV.v (TV.one (At.flt .f64 k'))))] [])) (fun c0_ c1_ c2_ => K (Ex.exit 0) (St.mk [(4, (AV.v (TV.one (At.bool q41)))), (5, (AV.v (TV.one (At.flt .f64 z)))), (6, (AV.v (TV.one (At.flt .f64 u)))), (7, (AV.v (TV.one (At.flt .f64 c0_)))), (8, (AV.v (TV.one (At.flt .f64 c1_)))), (25, (AV.v (TV.one (At.bool c2_))))] [])) := by kernel_rfl
theorem y7k (q41 : Bool) (z : Nat) (u : Nat) : ∀ (n : Nat) (p : Nat) (k : Nat), iter 105 9 0 (evC (R := Ex × St) Γ5 (evFn Γ5 8 8) 105 0 fi105.nt fi105.live fi105.nl 8 (findL 9 (loopsIn fi105.code))) n (St.mk [(4, (AV.v (TV.one (At.bool q41)))), (5, (AV.v (TV.one (At.flt .f64 z)))), (6, (AV.v (TV.one (At.flt .f64 u)))), (7, (AV.v (TV.one (At.flt .f64 p)))), (8, (AV.v (TV.one (At.flt .f64 k))))] []) (fun e st => some (e, st)) = (zne q41 z u) (z4p u n p k) := by
  intro n
  induction n with
  | zero => intros; rfl
  | succ n ih =>
    intro p k
    refine Eq.trans (z89 ..) (Eq.trans (y73 q41 z u p k (nextK 105 9 0 (evC (R := Ex × St) Γ5 (evFn Γ5 8 8) 105 0 fi105.nt fi105.live fi105.nl 8 (findL 9 (loopsIn fi105.code))) n (fun e st => some (e, st)))) (Eq.trans ?_ (y22 (zne q41 z u) rfl u p k (fun p' k' => z4p u n p' k') (fun c0_ c1_ c2_ => some (c0_, c1_, c2_)))))
    exact congrArg (fun kn_ => z8v u p k kn_ (fun c0_ c1_ c2_ => (zne q41 z u) (some (c0_, c1_, c2_)))) (funext fun p' => funext fun k' => ih p' k')
theorem y3w : LoopOne Try.prog fnTab 105 9 zxw := lp_of (Γ := Γ5) tyTab_ok (FnL.ok fnTab_ok _ _) (LpL.ok zyk) (SumL.ok zxs _) mixed (fi := fi105) (by kernel_rfl) (by kernel_rfl) (by
  intro lo st out hp
  obtain ⟨hs, e1, e2, e3⟩ := z78 hp
  clear hp
  obtain rfl : st = (St.mk [(4, (AV.v (TV.one (At.bool (hvB (hGet hs 0)))))), (5, (AV.v (TV.one (At.flt .f64 (hvN (hGet hs 1)))))), (6, (AV.v (TV.one (At.flt .f64 (hvN (hGet hs 2)))))), (7, (AV.v (TV.one (At.flt .f64 (hvN (hGet hs 3)))))), (8, (AV.v (TV.one (At.flt .f64 (hvN (hGet hs 4))))))] []) := e2.trans (by kernel_rfl)
  clear e2
  subst e1
  unfold zv9 at e3
  injection e3 with h1 h2
  subst h2
  exact ⟨8, 8, big, Eq.trans (y7k (hvB (hGet hs 0)) (hvN (hGet hs 1)) (hvN (hGet hs 2)) big (hvN (hGet hs 3)) (hvN (hGet hs 4))) (y7f (hvB (hGet hs 0)) (hvN (hGet hs 1)) (hvN (hGet hs 2)) (z4p (hvN (hGet hs 2)) big (hvN (hGet hs 3)) (hvN (hGet hs 4))) h1)⟩)
noncomputable def tb6 : List (Nat × (List PT → Option (Bool × AV × List Blk))) := (95, z1q) :: (127, zm9) :: (170, zu7) :: (178, z8a) :: tb5
noncomputable def lt6 : List ((Nat × Nat) × (Nat → St → Option (Bool × LO))) := ((105, 9), zxw) :: lt5
noncomputable def Γ6 : Ctx := ⟨tyTab, fnTab, tblSum tb6, tblLp lt6⟩
theorem zs1 : SumL Try.prog tb6 := SumL.cons z6f (SumL.cons zxg (SumL.cons y5z (SumL.cons zkq (zxs))))
theorem zsh : LpL Try.prog fnTab lt6 := LpL.cons y3w (zyk)
noncomputable def zmi : List PT → Option (Bool × AV × List Blk)
  | [.agg [.row 1 q2j (.fl .f32 q34), .row 1 q2p (.fl .f32 q3a), .row 1 q2q (.fl .f32 q3b)], .agg [.row 1 q2k (.fl .f32 q33), .row 1 q2s (.fl .f32 q37), .row 1 q2r (.fl .f32 q38)]] => some ((zgv q2j q34 q2p q3a q2q q3b q2k q33 q2s q37 q2r q38), ((AV.v (TV.one (At.bool (zfl q2j q34 q2p q3a q2q q3b q2k q33 q2s q37 q2r q38)))), []))
  | _ => none
def zsb (q2j : Nat) (q34 : List Nat) (q2p : Nat) (q3a : List Nat) (q2q : Nat) (q3b : List Nat) (q2k : Nat) (q33 : List Nat) (q2s : Nat) (q37 : List Nat) (q2r : Nat) (q38 : List Nat) : Option (Bool) → Option (AV × List Blk)
  | some r => some ((AV.v (TV.one (At.bool r))), [])
  | none => none
theorem y2z (q2j : Nat) (q34 : List Nat) (q2p : Nat) (q3a : List Nat) (q2q : Nat) (q3b : List Nat) (q2k : Nat) (q33 : List Nat) (q2s : Nat) (q37 : List Nat) (q2r : Nat) (q38 : List Nat) : evFn Γ6 8 8 62 (impTs 0 [.agg [.row 1 q2j (.fl .f32 q34), .row 1 q2p (.fl .f32 q3a), .row 1 q2q (.fl .f32 q3b)], .agg [.row 1 q2k (.fl .f32 q33), .row 1 q2s (.fl .f32 q37), .row 1 q2r (.fl .f32 q38)]]).1 (impTs 0 [.agg [.row 1 q2j (.fl .f32 q34), .row 1 q2p (.fl .f32 q3a), .row 1 q2q (.fl .f32 q3b)], .agg [.row 1 q2k (.fl .f32 q33), .row 1 q2s (.fl .f32 q37), .row 1 q2r (.fl .f32 q38)]]).2 (expo (impTs 0 [.agg [.row 1 q2j (.fl .f32 q34), .row 1 q2p (.fl .f32 q3a), .row 1 q2q (.fl .f32 q3b)], .agg [.row 1 q2k (.fl .f32 q33), .row 1 q2s (.fl .f32 q37), .row 1 q2r (.fl .f32 q38)]]).2.length) = zab q2j q34 q2p q3a q2q q3b q2k q33 q2s q37 q2r q38 (fun c0_ => some ((AV.v (TV.one (At.bool c0_))), [])) := by kernel_rfl
theorem zyc : SumOne Try.prog 62 zmi := z16 (Γ := Γ6) (fuel := 8) (d := 8) tyTab_ok (FnL.ok fnTab_ok _ _) (LpL.ok zsh) (SumL.ok zs1 _) mixed (by
  intro pts v news hp hc
  clear hc
  unfold zmi at hp
  split at hp
  · rename_i q2j q34 q2p q3a q2q q3b q2k q33 q2s q37 q2r q38
    exact Eq.trans (Eq.trans (y2z q2j q34 q2p q3a q2q q3b q2k q33 q2s q37 q2r q38) (zwg (zsb q2j q34 q2p q3a q2q q3b q2k q33 q2s q37 q2r q38) rfl q2j q34 q2p q3a q2q q3b q2k q33 q2s q37 q2r q38 (fun c0_ => some c0_))) (z0y (o := (zsb q2j q34 q2p q3a q2q q3b q2k q33 q2s q37 q2r q38)) (x := zad q2j q34 q2p q3a q2q q3b q2k q33 q2s q37 q2r q38) (d := default) (V := fun r => ((AV.v (TV.one (At.bool r))), [])) (fun r => rfl) hp)
  · cases hp)
noncomputable def zwn : List PT → Option (Bool × AV × List Blk)
  | [.one (.s (.flt .f64 q26))] => some ((zru q26), ((AV.v (TV.one (At.flt .f64 (zmd q26)))), []))
  | _ => none
def y48 (q26 : Nat) : Option (Nat) → Option (AV × List Blk)
  | some r => some ((AV.v (TV.one (At.flt .f64 r))), [])
  | none => none
theorem yb9 (q26 : Nat) : evFn Γ6 8 8 105 (impTs 0 [.one (.s (.flt .f64 q26))]).1 (impTs 0 [.one (.s (.flt .f64 q26))]).2 (expo (impTs 0 [.one (.s (.flt .f64 q26))]).2.length) = zln q26 (fun c0_ => some ((AV.v (TV.one (At.flt .f64 c0_))), [])) := by kernel_rfl
theorem y71 : SumOne Try.prog 105 zwn := z16 (Γ := Γ6) (fuel := 8) (d := 8) tyTab_ok (FnL.ok fnTab_ok _ _) (LpL.ok zsh) (SumL.ok zs1 _) mixed (by
  intro pts v news hp hc
  clear hc
  unfold zwn at hp
  split at hp
  · rename_i q26
    exact Eq.trans (Eq.trans (yb9 q26) (y67 (y48 q26) rfl q26 (fun c0_ => some c0_))) (z0y (o := (y48 q26)) (x := zll q26) (d := default) (V := fun r => ((AV.v (TV.one (At.flt .f64 r))), [])) (fun r => rfl) hp)
  · cases hp)
noncomputable def zp0 : List PT → Option (Bool × AV × List Blk)
  | [.one (.s (.flt .f32 x))] => some ((zkx x), ((AV.v (TV.one (At.flt .f32 (z2e x)))), []))
  | _ => none
def zud (x : Nat) : Option (Nat) → Option (AV × List Blk)
  | some r => some ((AV.v (TV.one (At.flt .f32 r))), [])
  | none => none
theorem y5c (x : Nat) : evFn Γ6 8 8 124 (impTs 0 [.one (.s (.flt .f32 x))]).1 (impTs 0 [.one (.s (.flt .f32 x))]).2 (expo (impTs 0 [.one (.s (.flt .f32 x))]).2.length) = zc5 x (fun c0_ => some ((AV.v (TV.one (At.flt .f32 c0_))), [])) := by kernel_rfl
theorem y0t : SumOne Try.prog 124 zp0 := z16 (Γ := Γ6) (fuel := 8) (d := 8) tyTab_ok (FnL.ok fnTab_ok _ _) (LpL.ok zsh) (SumL.ok zs1 _) mixed (by
  intro pts v news hp hc
  clear hc
  unfold zp0 at hp
  split at hp
  · rename_i x
    exact Eq.trans (Eq.trans (y5c x) (zzr (zud x) rfl x (fun c0_ => some c0_))) (z0y (o := (zud x)) (x := zbz x) (d := default) (V := fun r => ((AV.v (TV.one (At.flt .f32 r))), [])) (fun r => rfl) hp)
  · cases hp)
noncomputable def z6t : List PT → Option (Bool × AV × List Blk)
  | [.one (.row 1 s_n (.fl .f32 s)), .fn 148 []] => some ((z4r s_n s), ((AV.v (TV.one (At.bool (z4h s_n s)))), []))
  | _ => none
def z9y (s_n : Nat) (s : List Nat) : Option (Bool) → Option (AV × List Blk)
  | some r => some ((AV.v (TV.one (At.bool r))), [])
  | none => none
theorem zjv (s_n : Nat) (s : List Nat) : evFn Γ6 8 8 147 (impTs 0 [.one (.row 1 s_n (.fl .f32 s)), .fn 148 []]).1 (impTs 0 [.one (.row 1 s_n (.fl .f32 s)), .fn 148 []]).2 (expo (impTs 0 [.one (.row 1 s_n (.fl .f32 s)), .fn 148 []]).2.length) = z2j s_n s (fun c0_ => some ((AV.v (TV.one (At.bool c0_))), [])) := by kernel_rfl
theorem zht : SumOne Try.prog 147 z6t := z16 (Γ := Γ6) (fuel := 8) (d := 8) tyTab_ok (FnL.ok fnTab_ok _ _) (LpL.ok zsh) (SumL.ok zs1 _) mixed (by
  intro pts v news hp hc
  clear hc
  unfold z6t at hp
  split at hp
  · rename_i s_n s
    exact Eq.trans (Eq.trans (zjv s_n s) (zfx (z9y s_n s) rfl s_n s (fun c0_ => some c0_))) (z0y (o := (z9y s_n s)) (x := z2i s_n s) (d := default) (V := fun r => ((AV.v (TV.one (At.bool r))), [])) (fun r => rfl) hp)
  · cases hp)
noncomputable def z6d : List PT → Option (Bool × AV × List Blk)
  | [.one (.row 1 s_n (.fl .f32 s)), .fn 150 []] => some ((z4e s_n s), ((AV.v (TV.one (At.bool (z43 s_n s)))), []))
  | _ => none
def z9g (s_n : Nat) (s : List Nat) : Option (Bool) → Option (AV × List Blk)
  | some r => some ((AV.v (TV.one (At.bool r))), [])
  | none => none
theorem zio (s_n : Nat) (s : List Nat) : evFn Γ6 8 8 147 (impTs 0 [.one (.row 1 s_n (.fl .f32 s)), .fn 150 []]).1 (impTs 0 [.one (.row 1 s_n (.fl .f32 s)), .fn 150 []]).2 (expo (impTs 0 [.one (.row 1 s_n (.fl .f32 s)), .fn 150 []]).2.length) = z2a s_n s (fun c0_ => some ((AV.v (TV.one (At.bool c0_))), [])) := by kernel_rfl
theorem zfn : SumOne Try.prog 147 z6d := z16 (Γ := Γ6) (fuel := 8) (d := 8) tyTab_ok (FnL.ok fnTab_ok _ _) (LpL.ok zsh) (SumL.ok zs1 _) mixed (by
  intro pts v news hp hc
  clear hc
  unfold z6d at hp
  split at hp
  · rename_i s_n s
    exact Eq.trans (Eq.trans (zio s_n s) (zf1 (z9g s_n s) rfl s_n s (fun c0_ => some c0_))) (z0y (o := (z9g s_n s)) (x := z29 s_n s) (d := default) (V := fun r => ((AV.v (TV.one (At.bool r))), [])) (fun r => rfl) hp)
  · cases hp)
noncomputable def z73 : List PT → Option (Bool × AV × List Blk)
  | [.one (.row 1 s_n (.fl .f32 s)), .fn 154 []] => some ((z4w s_n s), ((AV.v (TV.one (At.bool (z4l s_n s)))), []))
  | _ => none
def zah (s_n : Nat) (s : List Nat) : Option (Bool) → Option (AV × List Blk)
  | some r => some ((AV.v (TV.one (At.bool r))), [])
  | none => none
theorem zkl (s_n : Nat) (s : List Nat) : evFn Γ6 8 8 147 (impTs 0 [.one (.row 1 s_n (.fl .f32 s)), .fn 154 []]).1 (impTs 0 [.one (.row 1 s_n (.fl .f32 s)), .fn 154 []]).2 (expo (impTs 0 [.one (.row 1 s_n (.fl .f32 s)), .fn 154 []]).2.length) = z2t s_n s (fun c0_ => some ((AV.v (TV.one (At.bool c0_))), [])) := by kernel_rfl
theorem zir : SumOne Try.prog 147 z73 := z16 (Γ := Γ6) (fuel := 8) (d := 8) tyTab_ok (FnL.ok fnTab_ok _ _) (LpL.ok zsh) (SumL.ok zs1 _) mixed (by
  intro pts v news hp hc
  clear hc
  unfold z73 at hp
  split at hp
  · rename_i s_n s
    exact Eq.trans (Eq.trans (zkl s_n s) (zh5 (zah s_n s) rfl s_n s (fun c0_ => some c0_))) (z0y (o := (zah s_n s)) (x := z2w s_n s) (d := default) (V := fun r => ((AV.v (TV.one (At.bool r))), [])) (fun r => rfl) hp)
  · cases hp)
noncomputable def zqg (q0u : Int) (k : Int) (q1f : Nat) (q1h : Nat) (q1g : Nat) (b2 : List Nat) (b3 : List Nat) (b4 : List Nat) : Bool × LO := ((zh4 q0u k q1f q1h q1g b2 b3 b4), (LO.one (Ex.exit 0) (St.mk [(0, (AV.v (TV.one (At.int .i64 q0u)))), (2, (AV.v (TV.one (At.ptr 0 0 3)))), (3, (AV.v (TV.one (At.ptr 1 0 3)))), (4, (AV.v (TV.one (At.int .i64 (zkg q0u k q1f q1h q1g b2 b3 b4))))), (11, (AV.v (TV.one (At.bool (zke q0u k q1f q1h q1g b2 b3 b4)))))] [(Blk.mk Bool.true (Body.cells [At.nilsl, At.nilsl, At.nilsl])), (Blk.mk Bool.true (Body.cells [(At.sl 2 0 (zcr q0u k q1f q1h q1g b2 b3 b4) 1), (At.sl 3 0 (zct q0u k q1f q1h q1g b2 b3 b4) 1), (At.sl 4 0 (zcq q0u k q1f q1h q1g b2 b3 b4) 1)])), (Blk.mk Bool.true (Body.fl .f32 (zd0 q0u k q1f q1h q1g b2 b3 b4))), (Blk.mk Bool.true (Body.fl .f32 (zcl q0u k q1f q1h q1g b2 b3 b4))), (Blk.mk Bool.true (Body.fl .f32 (zcz q0u k q1f q1h q1g b2 b3 b4)))])))
noncomputable def zs2 : Nat → St → Option (Bool × LO) := lpT 0 (pSt [(pTm 0 (pV (pOne (pInt .i64)))), (pTm 2 (pV (pOne (pPtr 0 (liN 0) 3)))), (pTm 3 (pV (pOne (pPtr 1 (liN 0) 3)))), (pTm 4 (pV (pOne (pInt .i64))))] [(pBlk Bool.true (pCells [pNil, pNil, pNil])), (pBlk Bool.true (pCells [(pSl 2 (liN 0) 1), (pSl 3 (liN 0) 1), (pSl 4 (liN 0) 1)])), (pBlk Bool.true (pFl .f32)), (pBlk Bool.true (pFl .f32)), (pBlk Bool.true (pFl .f32))]) (fun hs => zqg (hvI (hGet hs 0)) (hvI (hGet hs 1)) (hvN (hGet hs 2)) (hvN (hGet hs 3)) (hvN (hGet hs 4)) (hvLn (hGet hs 5)) (hvLn (hGet hs 6)) (hvLn (hGet hs 7)))
def zgz (q0u : Int) : Option ((Int × Bool × Nat × Nat × Nat × (List Nat) × (List Nat) × (List Nat))) → Option (Ex × St)
  | none => none
  | some r => some ((Ex.exit 0), (St.mk [(0, (AV.v (TV.one (At.int .i64 q0u)))), (2, (AV.v (TV.one (At.ptr 0 0 3)))), (3, (AV.v (TV.one (At.ptr 1 0 3)))), (4, (AV.v (TV.one (At.int .i64 r.1)))), (11, (AV.v (TV.one (At.bool r.2.1))))] [(Blk.mk Bool.true (Body.cells [At.nilsl, At.nilsl, At.nilsl])), (Blk.mk Bool.true (Body.cells [(At.sl 2 0 r.2.2.1 1), (At.sl 3 0 r.2.2.2.1 1), (At.sl 4 0 r.2.2.2.2.1 1)])), (Blk.mk Bool.true (Body.fl .f32 r.2.2.2.2.2.1)), (Blk.mk Bool.true (Body.fl .f32 r.2.2.2.2.2.2.1)), (Blk.mk Bool.true (Body.fl .f32 r.2.2.2.2.2.2.2))]))
def y0y (q0u : Int) (x : Option ((Int × Bool × Nat × Nat × Nat × (List Nat) × (List Nat) × (List Nat)))) : LO := (LO.one (Ex.exit 0) (St.mk [(0, (AV.v (TV.one (At.int .i64 q0u)))), (2, (AV.v (TV.one (At.ptr 0 0 3)))), (3, (AV.v (TV.one (At.ptr 1 0 3)))), (4, (AV.v (TV.one (At.int .i64 (x.getD default).1)))), (11, (AV.v (TV.one (At.bool (x.getD default).2.1))))] [(Blk.mk Bool.true (Body.cells [At.nilsl, At.nilsl, At.nilsl])), (Blk.mk Bool.true (Body.cells [(At.sl 2 0 (x.getD default).2.2.1 1), (At.sl 3 0 (x.getD default).2.2.2.1 1), (At.sl 4 0 (x.getD default).2.2.2.2.1 1)])), (Blk.mk Bool.true (Body.fl .f32 (x.getD default).2.2.2.2.2.1)), (Blk.mk Bool.true (Body.fl .f32 (x.getD default).2.2.2.2.2.2.1)), (Blk.mk Bool.true (Body.fl .f32 (x.getD default).2.2.2.2.2.2.2))]))
theorem y20 (q0u : Int) : ∀ x : Option ((Int × Bool × Nat × Nat × Nat × (List Nat) × (List Nat) × (List Nat))), x.isSome = true → (zgz q0u) x = some (pick (y0y q0u x))
  | none, h => by cases h
  | some r, _ => rfl
theorem y2i (q0u : Int) (k : Int) (q1f : Nat) (q1h : Nat) (q1g : Nat) (b2 : List Nat) (b3 : List Nat) (b4 : List Nat) (K : Ex → St → Option (Ex × St)) : evC (R := Ex × St) Γ6 (evFn Γ6 8 8) 141 0 fi141.nt fi141.live fi141.nl 8 (findL 3 (loopsIn fi141.code)) (St.mk [(0, (AV.v (TV.one (At.int .i64 q0u)))), (2, (AV.v (TV.one (At.ptr 0 0 3)))), (3, (AV.v (TV.one (At.ptr 1 0 3)))), (4, (AV.v (TV.one (At.int .i64 k))))] [(Blk.mk Bool.true (Body.cells [At.nilsl, At.nilsl, At.nilsl])), (Blk.mk Bool.true (Body.cells [(At.sl 2 0 q1f 1), (At.sl 3 0 q1h 1), (At.sl 4 0 q1g 1)])), (Blk.mk Bool.true (Body.fl .f32 b2)), (Blk.mk Bool.true (Body.fl .f32 b3)), (Blk.mk Bool.true (Body.fl .f32 b4))]) K = z64 q0u k q1f q1h q1g b2 b3 b4 (fun k' q1f' q1h' q1g' b2' b3' b4' => K .normal (St.mk [(0, (AV.v (TV.one (At.int .i64 q0u)))), (2, (AV.v (TV.one (At.ptr 0 0 3)))), (3, (AV.v (TV.one (At.ptr 1 0 3)))), (4, (AV.v (TV.one (At.int .i64 k'))))] [(Blk.mk Bool.true (Body.cells [At.nilsl, At.nilsl, At.nilsl])), (Blk.mk Bool.true (Body.cells [(At.sl 2 0 q1f' 1), (At.sl 3 0 q1h' 1), (At.sl 4 0 q1g' 1)])), (Blk.mk Bool.true (Body.fl .f32 b2')), (Blk.mk Bool.true (Body.fl .f32 b3')), (Blk.mk Bool.true (Body.fl .f32 b4'))])) (fun c0_ c1_ c2_ c3_ c4_ c5_ c6_ c7_ => K (Ex.exit 0) (St.mk [(0, (AV.v (TV.one (At.int .i64 q0u)))), (2, (AV.v (TV.one (At.ptr 0 0 3)))), (3, (AV.v (TV.one (At.ptr 1 0 3)))), (4, (AV.v (TV.one (At.int .i64 c0_)))), (11, (AV.v (TV.one (At.bool c1_))))] [(Blk.mk Bool.true (Body.cells [At.nilsl, At.nilsl, At.nilsl])), (Blk.mk Bool.true (Body.cells [(At.sl 2 0 c2_ 1), (At.sl 3 0 c3_ 1), (At.sl 4 0 c4_ 1)])), (Blk.mk Bool.true (Body.fl .f32 c5_)), (Blk.mk Bool.true (Body.fl .f32 c6_)), (Blk.mk Bool.true (Body.fl .f32 c7_))])) := by kernel_rfl
theorem y2r (q0u : Int) : ∀ (n : Nat) (k : Int) (q1f : Nat) (q1h : Nat) (q1g : Nat) (b2 : List Nat) (b3 : List Nat) (b4 : List Nat), iter 141 3 0 (evC (R := Ex × St) Γ6 (evFn Γ6 8 8) 141 0 fi141.nt fi141.live fi141.nl 8 (findL 3 (loopsIn fi141.code))) n (St.mk [(0, (AV.v (TV.one (At.int .i64 q0u)))), (2, (AV.v (TV.one (At.ptr 0 0 3)))), (3, (AV.v (TV.one (At.ptr 1 0 3)))), (4, (AV.v (TV.one (At.int .i64 k))))] [(Blk.mk Bool.true (Body.cells [At.nilsl, At.nilsl, At.nilsl])), (Blk.mk Bool.true (Body.cells [(At.sl 2 0 q1f 1), (At.sl 3 0 q1h 1), (At.sl 4 0 q1g 1)])), (Blk.mk Bool.true (Body.fl .f32 b2)), (Blk.mk Bool.true (Body.fl .f32 b3)), (Blk.mk Bool.true (Body.fl .f32 b4))]) (fun e st => some (e, st)) = (zgz q0u) (z1h q0u n k q1f q1h q1g b2 b3 b4) := by
  intro n
  induction n with
  | zero => intros; rfl
  | succ n ih =>
    intro k q1f q1h q1g b2 b3 b4
    refine Eq.trans (z89 ..) (Eq.trans (y2i q0u k q1f q1h q1g b2 b3 b4 (nextK 141 3 0 (evC (R := Ex × St) Γ6 (evFn Γ6 8 8) 141 0 fi141.nt fi141.live fi141.nl 8 (findL 3 (loopsIn fi141.code))) n (fun e st => some (e, st)))) (Eq.trans ?_ (zws (zgz q0u) rfl q0u k q1f q1h q1g b2 b3 b4 (fun k' q1f' q1h' q1g' b2' b3' b4' => z1h q0u n k' q1f' q1h' q1g' b2' b3' b4') (fun c0_ c1_ c2_ c3_ c4_ c5_ c6_ c7_ => some (c0_, c1_, c2_, c3_, c4_, c5_, c6_, c7_)))))
    exact congrArg (fun kn_ => z64 q0u k q1f q1h q1g b2 b3 b4 kn_ (fun c0_ c1_ c2_ c3_ c4_ c5_ c6_ c7_ => (zgz q0u) (some (c0_, c1_, c2_, c3_, c4_, c5_, c6_, c7_)))) (funext fun k' => funext fun q1f' => funext fun q1h' => funext fun q1g' => funext fun b2' => funext fun b3' => funext fun b4' => ih k' q1f' q1h' q1g' b2' b3' b4')
theorem zxz : LoopOne Try.prog fnTab 141 3 zs2 := lp_of (Γ := Γ6) tyTab_ok (FnL.ok fnTab_ok _ _) (LpL.ok zsh) (SumL.ok zs1 _) mixed (fi := fi141) (by kernel_rfl) (by kernel_rfl) (by
  intro lo st out hp
  obtain ⟨hs, e1, e2, e3⟩ := z78 hp
  clear hp
  obtain rfl : st = (St.mk [(0, (AV.v (TV.one (At.int .i64 (hvI (hGet hs 0)))))), (2, (AV.v (TV.one (At.ptr 0 0 3)))), (3, (AV.v (TV.one (At.ptr 1 0 3)))), (4, (AV.v (TV.one (At.int .i64 (hvI (hGet hs 1))))))] [(Blk.mk Bool.true (Body.cells [At.nilsl, At.nilsl, At.nilsl])), (Blk.mk Bool.true (Body.cells [(At.sl 2 0 (hvN (hGet hs 2)) 1), (At.sl 3 0 (hvN (hGet hs 3)) 1), (At.sl 4 0 (hvN (hGet hs 4)) 1)])), (Blk.mk Bool.true (Body.fl .f32 (hvLn (hGet hs 5)))), (Blk.mk Bool.true (Body.fl .f32 (hvLn (hGet hs 6)))), (Blk.mk Bool.true (Body.fl .f32 (hvLn (hGet hs 7))))]) := e2.trans (by kernel_rfl)
  clear e2
  subst e1
  unfold zqg at e3
  injection e3 with h1 h2
  subst h2
  exact ⟨8, 8, big, Eq.trans (y2r (hvI (hGet hs 0)) big (hvI (hGet hs 1)) (hvN (hGet hs 2)) (hvN (hGet hs 3)) (hvN (hGet hs 4)) (hvLn (hGet hs 5)) (hvLn (hGet hs 6)) (hvLn (hGet hs 7))) (y20 (hvI (hGet hs 0)) (z1h (hvI (hGet hs 0)) big (hvI (hGet hs 1)) (hvN (hGet hs 2)) (hvN (hGet hs 3)) (hvN (hGet hs 4)) (hvLn (hGet hs 5)) (hvLn (hGet hs 6)) (hvLn (hGet hs 7))) h1)⟩)
noncomputable def tb7 : List (Nat × (List PT → Option (Bool × AV × List Blk))) := (62, zmi) :: (105, zwn) :: (124, zp0) :: (147, z6t) :: (147, z6d) :: (147, z73) :: tb6
noncomputable def lt7 : List ((Nat × Nat) × (Nat → St → Option (Bool × LO))) := ((141, 3), zs2) :: lt6
noncomputable def Γ7 : Ctx := ⟨tyTab, fnTab, tblSum tb7, tblLp lt7⟩
theorem zuc : SumL Try.prog tb7 := SumL.cons zyc (SumL.cons y71 (SumL.cons y0t (SumL.cons zht (SumL.cons zfn (SumL.cons zir (zs1))))))
theorem zv7 : LpL Try.prog fnTab lt7 := LpL.cons zxz (zsh)
noncomputable def zp9 : List PT → Option (Bool × AV × List Blk)
  | [.agg [.row 1 q1l (.fl .f32 q20), .row 1 q1s (.fl .f32 q28), .row 1 q1u (.fl .f32 q25), .row 3 q2b (.fl .f32 q2m), .s (.int .i64 q3h), .s (.flt .f32 q3p), .s (.flt .f32 q3o)], .agg [.row 1 q1k (.fl .f32 q1z), .row 1 q1r (.fl .f32 q27), .row 1 q1t (.fl .f32 q24), .row 3 q2c (.fl .f32 q2l), .s (.int .i64 q3g), .s (.flt .f32 q3n), .s (.flt .f32 q3q)]] => some ((zkz q1l q20 q1s q28 q1u q25 q2b q2m q3h q3p q3o q1k q1z q1r q27 q1t q24 q2c q2l q3g q3n q3q), ((AV.v (TV.one (At.bool (zjl q1l q20 q1s q28 q1u q25 q2b q2m q3h q3p q3o q1k q1z q1r q27 q1t q24 q2c q2l q3g q3n q3q)))), []))
  | _ => none
def zv4 (q1l : Nat) (q20 : List Nat) (q1s : Nat) (q28 : List Nat) (q1u : Nat) (q25 : List Nat) (q2b : Nat) (q2m : List Nat) (q3h : Int) (q3p : Nat) (q3o : Nat) (q1k : Nat) (q1z : List Nat) (q1r : Nat) (q27 : List Nat) (q1t : Nat) (q24 : List Nat) (q2c : Nat) (q2l : List Nat) (q3g : Int) (q3n : Nat) (q3q : Nat) : Option (Bool) → Option (AV × List Blk)
  | some r => some ((AV.v (TV.one (At.bool r))), [])
  | none => none
theorem y4z (q1l : Nat) (q20 : List Nat) (q1s : Nat) (q28 : List Nat) (q1u : Nat) (q25 : List Nat) (q2b : Nat) (q2m : List Nat) (q3h : Int) (q3p : Nat) (q3o : Nat) (q1k : Nat) (q1z : List Nat) (q1r : Nat) (q27 : List Nat) (q1t : Nat) (q24 : List Nat) (q2c : Nat) (q2l : List Nat) (q3g : Int) (q3n : Nat) (q3q : Nat) : evFn Γ7 8 8 41 (impTs 0 [.agg [.row 1 q1l (.fl .f32 q20), .row 1 q1s (.fl .f32 q28), .row 1 q1u (.fl .f32 q25), .row 3 q2b (.fl .f32 q2m), .s (.int .i64 q3h), .s (.flt .f32 q3p), .s (.flt .f32 q3o)], .agg [.row 1 q1k (.fl .f32 q1z), .row 1 q1r (.fl .f32 q27), .row 1 q1t (.fl .f32 q24), .row 3 q2c (.fl .f32 q2l), .s (.int .i64 q3g), .s (.flt .f32 q3n), .s (.flt .f32 q3q)]]).1 (impTs 0 [.agg [.row 1 q1l (.fl .f32 q20), .row 1 q1s (.fl .f32 q28), .row 1 q1u (.fl .f32 q25), .row 3 q2b (.fl .f32 q2m), .s (.int .i64 q3h), .s (.flt .f32 q3p), .s (.flt .f32 q3o)], .agg [.row 1 q1k (.fl .f32 q1z), .row 1 q1r (.fl .f32 q27), .row 1 q1t (.fl .f32 q24), .row 3 q2c (.fl .f32 q2l), .s (.int .i64 q3g), .s (.flt .f32 q3n), .s (.flt .f32 q3q)]]).2 (expo (impTs 0 [.agg [.row 1 q1l (.fl .f32 q20), .row 1 q1s (.fl .f32 q28), .row 1 q1u (.fl .f32 q25), .row 3 q2b (.fl .f32 q2m), .s (.int .i64 q3h), .s (.flt .f32 q3p), .s (.flt .f32 q3o)], .agg [.row 1 q1k (.fl .f32 q1z), .row 1 q1r (.fl .f32 q27), .row 1 q1t (.fl .f32 q24), .row 3 q2c (.fl .f32 q2l), .s (.int .i64 q3g), .s (.flt .f32 q3n), .s (.flt .f32 q3q)]]).2.length) = zc1 q1l q20 q1s q28 q1u q25 q2b q2m q3h q3p q3o q1k q1z q1r q27 q1t q24 q2c q2l q3g q3n q3q (fun c0_ => some ((AV.v (TV.one (At.bool c0_))), [])) := by kernel_rfl
theorem y0i : SumOne Try.prog 41 zp9 := z16 (Γ := Γ7) (fuel := 8) (d := 8) tyTab_ok (FnL.ok fnTab_ok _ _) (LpL.ok zv7) (SumL.ok zuc _) mixed (by
  intro pts v news hp hc
  clear hc
  unfold zp9 at hp
  split at hp
  · rename_i q1l q20 q1s q28 q1u q25 q2b q2m q3h q3p q3o q1k q1z q1r q27 q1t q24 q2c q2l q3g q3n q3q
    exact Eq.trans (Eq.trans (y4z q1l q20 q1s q28 q1u q25 q2b q2m q3h q3p q3o q1k q1z q1r q27 q1t q24 q2c q2l q3g q3n q3q) (y02 (zv4 q1l q20 q1s q28 q1u q25 q2b q2m q3h q3p q3o q1k q1z q1r q27 q1t q24 q2c q2l q3g q3n q3q) rfl q1l q20 q1s q28 q1u q25 q2b q2m q3h q3p q3o q1k q1z q1r q27 q1t q24 q2c q2l q3g q3n q3q (fun c0_ => some c0_))) (z0y (o := (zv4 q1l q20 q1s q28 q1u q25 q2b q2m q3h q3p q3o q1k q1z q1r q27 q1t q24 q2c q2l q3g q3n q3q)) (x := z9v q1l q20 q1s q28 q1u q25 q2b q2m q3h q3p q3o q1k q1z q1r q27 q1t q24 q2c q2l q3g q3n q3q) (d := default) (V := fun r => ((AV.v (TV.one (At.bool r))), [])) (fun r => rfl) hp)
  · cases hp)
noncomputable def zph : List PT → Option (Bool × AV × List Blk)
  | [.one (.row 1 q0z (.fl .f32 q1y))] => some ((zet q0z q1y), ((AV.v (TV.one (At.bool (zdo q0z q1y)))), []))
  | _ => none
def zuo (q0z : Nat) (q1y : List Nat) : Option (Bool) → Option (AV × List Blk)
  | some r => some ((AV.v (TV.one (At.bool r))), [])
  | none => none
theorem y4k (q0z : Nat) (q1y : List Nat) : evFn Γ7 8 8 77 (impTs 0 [.one (.row 1 q0z (.fl .f32 q1y))]).1 (impTs 0 [.one (.row 1 q0z (.fl .f32 q1y))]).2 (expo (impTs 0 [.one (.row 1 q0z (.fl .f32 q1y))]).2.length) = zc0 q0z q1y (fun c0_ => some ((AV.v (TV.one (At.bool c0_))), [])) := by kernel_rfl
theorem y18 : SumOne Try.prog 77 zph := z16 (Γ := Γ7) (fuel := 8) (d := 8) tyTab_ok (FnL.ok fnTab_ok _ _) (LpL.ok zv7) (SumL.ok zuc _) mixed (by
  intro pts v news hp hc
  clear hc
  unfold zph at hp
  split at hp
  · rename_i q0z q1y
    exact Eq.trans (Eq.trans (y4k q0z q1y) (zyu (zuo q0z q1y) rfl q0z q1y (fun c0_ => some c0_))) (z0y (o := (zuo q0z q1y)) (x := z9r q0z q1y) (d := default) (V := fun r => ((AV.v (TV.one (At.bool r))), [])) (fun r => rfl) hp)
  · cases hp)
noncomputable def zmq : List PT → Option (Bool × AV × List Blk)
  | [.one (.row 1 q0z (.fl .f32 q1y))] => some ((za2 q0z q1y), ((AV.v (TV.one (At.bool (z9a q0z q1y)))), []))
  | _ => none
def zs0 (q0z : Nat) (q1y : List Nat) : Option (Bool) → Option (AV × List Blk)
  | some r => some ((AV.v (TV.one (At.bool r))), [])
  | none => none
theorem y1u (q0z : Nat) (q1y : List Nat) : evFn Γ7 8 8 88 (impTs 0 [.one (.row 1 q0z (.fl .f32 q1y))]).1 (impTs 0 [.one (.row 1 q0z (.fl .f32 q1y))]).2 (expo (impTs 0 [.one (.row 1 q0z (.fl .f32 q1y))]).2.length) = za7 q0z q1y (fun c0_ => some ((AV.v (TV.one (At.bool c0_))), [])) := by kernel_rfl
theorem zxr : SumOne Try.prog 88 zmq := z16 (Γ := Γ7) (fuel := 8) (d := 8) tyTab_ok (FnL.ok fnTab_ok _ _) (LpL.ok zv7) (SumL.ok zuc _) mixed (by
  intro pts v news hp hc
  clear hc
  unfold zmq at hp
  split at hp
  · rename_i q0z q1y
    exact Eq.trans (Eq.trans (y1u q0z q1y) (zwz (zs0 q0z q1y) rfl q0z q1y (fun c0_ => some c0_))) (z0y (o := (zs0 q0z q1y)) (x := z74 q0z q1y) (d := default) (V := fun r => ((AV.v (TV.one (At.bool r))), [])) (fun r => rfl) hp)
  · cases hp)
noncomputable def zqf : List PT → Option (Bool × AV × List Blk)
  | [.one (.row 1 q0z (.fl .f32 q1y))] => some ((zly q0z q1y), ((AV.v (TV.one (At.bool (zla q0z q1y)))), []))
  | _ => none
def zw3 (q0z : Nat) (q1y : List Nat) : Option (Bool) → Option (AV × List Blk)
  | some r => some ((AV.v (TV.one (At.bool r))), [])
  | none => none
theorem y6c (q0z : Nat) (q1y : List Nat) : evFn Γ7 8 8 97 (impTs 0 [.one (.row 1 q0z (.fl .f32 q1y))]).1 (impTs 0 [.one (.row 1 q0z (.fl .f32 q1y))]).2 (expo (impTs 0 [.one (.row 1 q0z (.fl .f32 q1y))]).2.length) = zcy q0z q1y (fun c0_ => some ((AV.v (TV.one (At.bool c0_))), [])) := by kernel_rfl
theorem y31 : SumOne Try.prog 97 zqf := z16 (Γ := Γ7) (fuel := 8) (d := 8) tyTab_ok (FnL.ok fnTab_ok _ _) (LpL.ok zv7) (SumL.ok zuc _) mixed (by
  intro pts v news hp hc
  clear hc
  unfold zqf at hp
  split at hp
  · rename_i q0z q1y
    exact Eq.trans (Eq.trans (y6c q0z q1y) (y0w (zw3 q0z q1y) rfl q0z q1y (fun c0_ => some c0_))) (z0y (o := (zw3 q0z q1y)) (x := zd2 q0z q1y) (d := default) (V := fun r => ((AV.v (TV.one (At.bool r))), [])) (fun r => rfl) hp)
  · cases hp)
noncomputable def zp6 : List PT → Option (Bool × AV × List Blk)
  | [.one (.s (.flt .f32 x))] => some ((zc3 x), ((AV.v (TV.one (At.flt .f32 (z86 x)))), []))
  | _ => none
def zu6 (x : Nat) : Option (Nat) → Option (AV × List Blk)
  | some r => some ((AV.v (TV.one (At.flt .f32 r))), [])
  | none => none
theorem y5f (x : Nat) : evFn Γ7 8 8 109 (impTs 0 [.one (.s (.flt .f32 x))]).1 (impTs 0 [.one (.s (.flt .f32 x))]).2 (expo (impTs 0 [.one (.s (.flt .f32 x))]).2.length) = zbm x (fun c0_ => some ((AV.v (TV.one (At.flt .f32 c0_))), [])) := by kernel_rfl
theorem y0x : SumOne Try.prog 109 zp6 := z16 (Γ := Γ7) (fuel := 8) (d := 8) tyTab_ok (FnL.ok fnTab_ok _ _) (LpL.ok zv7) (SumL.ok zuc _) mixed (by
  intro pts v news hp hc
  clear hc
  unfold zp6 at hp
  split at hp
  · rename_i x
    exact Eq.trans (Eq.trans (y5f x) (y03 (zu6 x) rfl x (fun c0_ => some c0_))) (z0y (o := (zu6 x)) (x := zbq x) (d := default) (V := fun r => ((AV.v (TV.one (At.flt .f32 r))), [])) (fun r => rfl) hp)
  · cases hp)
noncomputable def zql : List PT → Option (Bool × AV × List Blk)
  | [.one (.s (.int .i64 q0u))] => some ((zlw q0u), ((AV.v (TV.agg [(At.sl 0 0 (zl2 q0u) 1), (At.sl 1 0 (zl4 q0u) 1), (At.sl 2 0 (zl9 q0u) 1)])), [(Blk.mk Bool.true (Body.fl .f32 (zl7 q0u))), (Blk.mk Bool.true (Body.fl .f32 (zl3 q0u))), (Blk.mk Bool.true (Body.fl .f32 (zl8 q0u)))]))
  | _ => none
def zw0 (q0u : Int) : Option (Nat × Nat × Nat × (List Nat) × (List Nat) × (List Nat)) → Option (AV × List Blk)
  | some r => some ((AV.v (TV.agg [(At.sl 0 0 r.1 1), (At.sl 1 0 r.2.1 1), (At.sl 2 0 r.2.2.1 1)])), [(Blk.mk Bool.true (Body.fl .f32 r.2.2.2.1)), (Blk.mk Bool.true (Body.fl .f32 r.2.2.2.2.1)), (Blk.mk Bool.true (Body.fl .f32 r.2.2.2.2.2))])
  | none => none
theorem y6s (q0u : Int) : evFn Γ7 8 8 141 (impTs 0 [.one (.s (.int .i64 q0u))]).1 (impTs 0 [.one (.s (.int .i64 q0u))]).2 (expo (impTs 0 [.one (.s (.int .i64 q0u))]).2.length) = zcp q0u (fun c0_ c1_ c2_ c3_ c4_ c5_ => some ((AV.v (TV.agg [(At.sl 0 0 c0_ 1), (At.sl 1 0 c1_ 1), (At.sl 2 0 c2_ 1)])), [(Blk.mk Bool.true (Body.fl .f32 c3_)), (Blk.mk Bool.true (Body.fl .f32 c4_)), (Blk.mk Bool.true (Body.fl .f32 c5_))])) := by kernel_rfl
theorem y1f : SumOne Try.prog 141 zql := z16 (Γ := Γ7) (fuel := 8) (d := 8) tyTab_ok (FnL.ok fnTab_ok _ _) (LpL.ok zv7) (SumL.ok zuc _) mixed (by
  intro pts v news hp hc
  clear hc
  unfold zql at hp
  split at hp
  · rename_i q0u
    exact Eq.trans (Eq.trans (y6s q0u) (y0n (zw0 q0u) rfl q0u (fun c0_ c1_ c2_ c3_ c4_ c5_ => some (c0_, c1_, c2_, c3_, c4_, c5_)))) (z0y (o := (zw0 q0u)) (x := z61 q0u) (d := default) (V := fun r => ((AV.v (TV.agg [(At.sl 0 0 r.1 1), (At.sl 1 0 r.2.1 1), (At.sl 2 0 r.2.2.1 1)])), [(Blk.mk Bool.true (Body.fl .f32 r.2.2.2.1)), (Blk.mk Bool.true (Body.fl .f32 r.2.2.2.2.1)), (Blk.mk Bool.true (Body.fl .f32 r.2.2.2.2.2))])) (fun r => rfl) hp)
  · cases hp)
noncomputable def tb8 : List (Nat × (List PT → Option (Bool × AV × List Blk))) := (41, zp9) :: (77, zph) :: (88, zmq) :: (97, zqf) :: (109, zp6) :: (141, zql) :: tb7
noncomputable def lt8 : List ((Nat × Nat) × (Nat → St → Option (Bool × LO))) := lt7
noncomputable def Γ8 : Ctx := ⟨tyTab, fnTab, tblSum tb8, tblLp lt8⟩
theorem y68 : SumL Try.prog tb8 := SumL.cons y0i (SumL.cons y18 (SumL.cons zxr (SumL.cons y31 (SumL.cons y0x (SumL.cons y1f (zuc))))))
theorem y6p : LpL Try.prog fnTab lt8 := zv7
noncomputable def zo5 : List PT → Option (Bool × AV × List Blk)
  | [.one (.s (.flt .f32 x)), .one (.s (.flt .f32 y))] => some ((zj9 x y), ((AV.tup [(TV.one (At.flt .f32 (zi2 x y))), (TV.one (At.flt .f32 (zhq x y))), (TV.one (At.bool (zgq x y)))]), []))
  | _ => none
def ztc (x : Nat) (y : Nat) : Option (Nat × Nat × Bool) → Option (AV × List Blk)
  | some r => some ((AV.tup [(TV.one (At.flt .f32 r.1)), (TV.one (At.flt .f32 r.2.1)), (TV.one (At.bool r.2.2))]), [])
  | none => none
theorem y40 (x : Nat) (y : Nat) : evFn Γ8 8 8 79 (impTs 0 [.one (.s (.flt .f32 x)), .one (.s (.flt .f32 y))]).1 (impTs 0 [.one (.s (.flt .f32 x)), .one (.s (.flt .f32 y))]).2 (expo (impTs 0 [.one (.s (.flt .f32 x)), .one (.s (.flt .f32 y))]).2.length) = zb1 x y (fun c0_ c1_ c2_ => some ((AV.tup [(TV.one (At.flt .f32 c0_)), (TV.one (At.flt .f32 c1_)), (TV.one (At.bool c2_))]), [])) := by kernel_rfl
theorem zzd : SumOne Try.prog 79 zo5 := z16 (Γ := Γ8) (fuel := 8) (d := 8) tyTab_ok (FnL.ok fnTab_ok _ _) (LpL.ok y6p) (SumL.ok y68 _) mixed (by
  intro pts v news hp hc
  clear hc
  unfold zo5 at hp
  split at hp
  · rename_i x y
    exact Eq.trans (Eq.trans (y40 x y) (zy2 (ztc x y) rfl x y (fun c0_ c1_ c2_ => some (c0_, c1_, c2_)))) (z0y (o := (ztc x y)) (x := z82 x y) (d := default) (V := fun r => ((AV.tup [(TV.one (At.flt .f32 r.1)), (TV.one (At.flt .f32 r.2.1)), (TV.one (At.bool r.2.2))]), [])) (fun r => rfl) hp)
  · cases hp)
noncomputable def zkd : List PT → Option (Bool × AV × List Blk)
  | [.agg [.row 1 q00 (.fl .f32 q04), .row 1 q01 (.fl .f32 q05), .row 1 q02 (.fl .f32 q06), .row 3 q07 (.fl .f32 q09), .s (.int .i64 q0b), .s (.flt .f32 q0e), .s (.flt .f32 q0d)], .one (.s (.int .i64 i)), .one (.s (.flt .f32 q11))] => some ((zcw q00 q04 q01 q05 q02 q06 q07 q09 q0b q0e q0d i q11), ((AV.v (TV.one (At.flt .f32 (z7u q00 q04 q01 q05 q02 q06 q07 q09 q0b q0e q0d i q11)))), []))
  | _ => none
def zpp (q00 : Nat) (q04 : List Nat) (q01 : Nat) (q05 : List Nat) (q02 : Nat) (q06 : List Nat) (q07 : Nat) (q09 : List Nat) (q0b : Int) (q0e : Nat) (q0d : Nat) (i : Int) (q11 : Nat) : Option (Nat) → Option (AV × List Blk)
  | some r => some ((AV.v (TV.one (At.flt .f32 r))), [])
  | none => none
theorem zxq (q00 : Nat) (q04 : List Nat) (q01 : Nat) (q05 : List Nat) (q02 : Nat) (q06 : List Nat) (q07 : Nat) (q09 : List Nat) (q0b : Int) (q0e : Nat) (q0d : Nat) (i : Int) (q11 : Nat) : evFn Γ8 8 8 86 (impTs 0 [.agg [.row 1 q00 (.fl .f32 q04), .row 1 q01 (.fl .f32 q05), .row 1 q02 (.fl .f32 q06), .row 3 q07 (.fl .f32 q09), .s (.int .i64 q0b), .s (.flt .f32 q0e), .s (.flt .f32 q0d)], .one (.s (.int .i64 i)), .one (.s (.flt .f32 q11))]).1 (impTs 0 [.agg [.row 1 q00 (.fl .f32 q04), .row 1 q01 (.fl .f32 q05), .row 1 q02 (.fl .f32 q06), .row 3 q07 (.fl .f32 q09), .s (.int .i64 q0b), .s (.flt .f32 q0e), .s (.flt .f32 q0d)], .one (.s (.int .i64 i)), .one (.s (.flt .f32 q11))]).2 (expo (impTs 0 [.agg [.row 1 q00 (.fl .f32 q04), .row 1 q01 (.fl .f32 q05), .row 1 q02 (.fl .f32 q06), .row 3 q07 (.fl .f32 q09), .s (.int .i64 q0b), .s (.flt .f32 q0e), .s (.flt .f32 q0d)], .one (.s (.int .i64 i)), .one (.s (.flt .f32 q11))]).2.length) = z8l q00 q04 q01 q05 q02 q06 q07 q09 q0b q0e q0d i q11 (fun c0_ => some ((AV.v (TV.one (At.flt .f32 c0_))), [])) := by kernel_rfl
theorem zuz : SumOne Try.prog 86 zkd := z16 (Γ := Γ8) (fuel := 8) (d := 8) tyTab_ok (FnL.ok fnTab_ok _ _) (LpL.ok y6p) (SumL.ok y68 _) mixed (by
  intro pts v news hp hc
  clear hc
  unfold zkd at hp
  split at hp
  · rename_i q00 q04 q01 q05 q02 q06 q07 q09 q0b q0e q0d i q11
    exact Eq.trans (Eq.trans (zxq q00 q04 q01 q05 q02 q06 q07 q09 q0b q0e q0d i q11) (zth (zpp q00 q04 q01 q05 q02 q06 q07 q09 q0b q0e q0d i q11) rfl q00 q04 q01 q05 q02 q06 q07 q09 q0b q0e q0d i q11 (fun c0_ => some c0_))) (z0y (o := (zpp q00 q04 q01 q05 q02 q06 q07 q09 q0b q0e q0d i q11)) (x := z8i q00 q04 q01 q05 q02 q06 q07 q09 q0b q0e q0d i q11) (d := default) (V := fun r => ((AV.v (TV.one (At.flt .f32 r))), [])) (fun r => rfl) hp)
  · cases hp)
noncomputable def z8u (sn : Nat) (t7 : Int) (t8 : Int) (b0 : List Nat) (b1 : List Nat) (b2 : List Nat) (q0x : Nat) (q1n : Nat) (q1m : Nat) (b4 : Nat) : Bool × LO := ((z27 sn t7 b0 b4 t8), (LO.two (z22 sn t7 b0 b4 t8) (LO.one Ex.ret (St.mk [(4, (AV.v (TV.one (At.int .i64 (z0q sn t7 b0 b4 t8)))))] [(Blk.mk Bool.false (Body.fl .f32 b0)), (Blk.mk Bool.false (Body.fl .f32 b1)), (Blk.mk Bool.false (Body.fl .f32 b2)), (Blk.mk Bool.true (Body.cells [(At.vw 0 0 q0x 1), (At.vw 1 0 q1n 1), (At.vw 2 0 q1m 1)])), (Blk.mk Bool.true (Body.cells [(At.flt .f32 b4)]))])) (LO.one (Ex.exit 0) (St.mk [(0, (AV.v (TV.one (At.vw 0 0 sn 1)))), (1, (AV.v (TV.one (At.fn 179 [(At.ptr 4 0 1)])))), (7, (AV.v (TV.one (At.int .i64 t7)))), (8, (AV.v (TV.one (At.int .i64 (z5e sn t7 b0 b4 t8))))), (9, (AV.v (TV.one (At.bool (z57 sn t7 b0 b4 t8)))))] [(Blk.mk Bool.false (Body.fl .f32 b0)), (Blk.mk Bool.false (Body.fl .f32 b1)), (Blk.mk Bool.false (Body.fl .f32 b2)), (Blk.mk Bool.true (Body.cells [(At.vw 0 0 q0x 1), (At.vw 1 0 q1n 1), (At.vw 2 0 q1m 1)])), (Blk.mk Bool.true (Body.cells [(At.flt .f32 b4)]))]))))
noncomputable def z95 : Nat → St → Option (Bool × LO) := lpT 5 (pSt [(pTm 0 (pV (pOne (pVw 0 (liN 0) 1)))), (pTm 1 (pV (pOne (pFn 179 [(pPtr 4 (liN 0) 1)])))), (pTm 7 (pV (pOne (pInt .i64)))), (pTm 8 (pV (pOne (pInt .i64))))] [(pBlk Bool.false (pFl .f32)), (pBlk Bool.false (pFl .f32)), (pBlk Bool.false (pFl .f32)), (pBlk Bool.true (pCells [(pVw 0 (liN 0) 1), (pVw 1 (liN 0) 1), (pVw 2 (liN 0) 1)])), (pBlk Bool.true (pCells [(pFlt .f32)]))]) (fun hs => z8u (hvN (hGet hs 0)) (hvI (hGet hs 1)) (hvI (hGet hs 2)) (hvLn (hGet hs 3)) (hvLn (hGet hs 4)) (hvLn (hGet hs 5)) (hvN (hGet hs 6)) (hvN (hGet hs 7)) (hvN (hGet hs 8)) (hvN (hGet hs 9)))
def z36 (sn : Nat) (t7 : Int) (b0 : List Nat) (b1 : List Nat) (b2 : List Nat) (q0x : Nat) (q1n : Nat) (q1m : Nat) (b4 : Nat) : Option ((Int) ⊕ (Int × Bool)) → Option (Ex × St)
  | none => none
  | some (Sum.inl r) => some (Ex.ret, (St.mk [(4, (AV.v (TV.one (At.int .i64 r))))] [(Blk.mk Bool.false (Body.fl .f32 b0)), (Blk.mk Bool.false (Body.fl .f32 b1)), (Blk.mk Bool.false (Body.fl .f32 b2)), (Blk.mk Bool.true (Body.cells [(At.vw 0 0 q0x 1), (At.vw 1 0 q1n 1), (At.vw 2 0 q1m 1)])), (Blk.mk Bool.true (Body.cells [(At.flt .f32 b4)]))]))
  | some (Sum.inr r) => some ((Ex.exit 0), (St.mk [(0, (AV.v (TV.one (At.vw 0 0 sn 1)))), (1, (AV.v (TV.one (At.fn 179 [(At.ptr 4 0 1)])))), (7, (AV.v (TV.one (At.int .i64 t7)))), (8, (AV.v (TV.one (At.int .i64 r.1)))), (9, (AV.v (TV.one (At.bool r.2))))] [(Blk.mk Bool.false (Body.fl .f32 b0)), (Blk.mk Bool.false (Body.fl .f32 b1)), (Blk.mk Bool.false (Body.fl .f32 b2)), (Blk.mk Bool.true (Body.cells [(At.vw 0 0 q0x 1), (At.vw 1 0 q1n 1), (At.vw 2 0 q1m 1)])), (Blk.mk Bool.true (Body.cells [(At.flt .f32 b4)]))]))
def zfw (sn : Nat) (t7 : Int) (b0 : List Nat) (b1 : List Nat) (b2 : List Nat) (q0x : Nat) (q1n : Nat) (q1m : Nat) (b4 : Nat) (x : Option ((Int) ⊕ (Int × Bool))) : LO := (LO.two (oL x) (LO.one Ex.ret (St.mk [(4, (AV.v (TV.one (At.int .i64 ((tL x).getD default)))))] [(Blk.mk Bool.false (Body.fl .f32 b0)), (Blk.mk Bool.false (Body.fl .f32 b1)), (Blk.mk Bool.false (Body.fl .f32 b2)), (Blk.mk Bool.true (Body.cells [(At.vw 0 0 q0x 1), (At.vw 1 0 q1n 1), (At.vw 2 0 q1m 1)])), (Blk.mk Bool.true (Body.cells [(At.flt .f32 b4)]))])) (LO.one (Ex.exit 0) (St.mk [(0, (AV.v (TV.one (At.vw 0 0 sn 1)))), (1, (AV.v (TV.one (At.fn 179 [(At.ptr 4 0 1)])))), (7, (AV.v (TV.one (At.int .i64 t7)))), (8, (AV.v (TV.one (At.int .i64 ((tR x).getD default).1)))), (9, (AV.v (TV.one (At.bool ((tR x).getD default).2))))] [(Blk.mk Bool.false (Body.fl .f32 b0)), (Blk.mk Bool.false (Body.fl .f32 b1)), (Blk.mk Bool.false (Body.fl .f32 b2)), (Blk.mk Bool.true (Body.cells [(At.vw 0 0 q0x 1), (At.vw 1 0 q1n 1), (At.vw 2 0 q1m 1)])), (Blk.mk Bool.true (Body.cells [(At.flt .f32 b4)]))])))
theorem zgy (sn : Nat) (t7 : Int) (b0 : List Nat) (b1 : List Nat) (b2 : List Nat) (q0x : Nat) (q1n : Nat) (q1m : Nat) (b4 : Nat) : ∀ x : Option ((Int) ⊕ (Int × Bool)), x.isSome = true → (z36 sn t7 b0 b1 b2 q0x q1n q1m b4) x = some (pick (zfw sn t7 b0 b1 b2 q0x q1n q1m b4 x))
  | none, h => by cases h
  | some (Sum.inl r), _ => rfl
  | some (Sum.inr r), _ => rfl
theorem zi9 (sn : Nat) (t7 : Int) (t8 : Int) (b0 : List Nat) (b1 : List Nat) (b2 : List Nat) (q0x : Nat) (q1n : Nat) (q1m : Nat) (b4 : Nat) (K : Ex → St → Option (Ex × St)) : evC (R := Ex × St) Γ8 (evFn Γ8 8 8) 178 5 fi178.nt fi178.live fi178.nl 8 (findL 2 (loopsIn fi178.code)) (St.mk [(0, (AV.v (TV.one (At.vw 0 0 sn 1)))), (1, (AV.v (TV.one (At.fn 179 [(At.ptr 4 0 1)])))), (7, (AV.v (TV.one (At.int .i64 t7)))), (8, (AV.v (TV.one (At.int .i64 t8))))] [(Blk.mk Bool.false (Body.fl .f32 b0)), (Blk.mk Bool.false (Body.fl .f32 b1)), (Blk.mk Bool.false (Body.fl .f32 b2)), (Blk.mk Bool.true (Body.cells [(At.vw 0 0 q0x 1), (At.vw 1 0 q1n 1), (At.vw 2 0 q1m 1)])), (Blk.mk Bool.true (Body.cells [(At.flt .f32 b4)]))]) K = z14 sn t7 b0 b4 t8 (fun t8' => K .normal (St.mk [(0, (AV.v (TV.one (At.vw 0 0 sn 1)))), (1, (AV.v (TV.one (At.fn 179 [(At.ptr 4 0 1)])))), (7, (AV.v (TV.one (At.int .i64 t7)))), (8, (AV.v (TV.one (At.int .i64 t8'))))] [(Blk.mk Bool.false (Body.fl .f32 b0)), (Blk.mk Bool.false (Body.fl .f32 b1)), (Blk.mk Bool.false (Body.fl .f32 b2)), (Blk.mk Bool.true (Body.cells [(At.vw 0 0 q0x 1), (At.vw 1 0 q1n 1), (At.vw 2 0 q1m 1)])), (Blk.mk Bool.true (Body.cells [(At.flt .f32 b4)]))])) (fun c0_ => K Ex.ret (St.mk [(4, (AV.v (TV.one (At.int .i64 c0_))))] [(Blk.mk Bool.false (Body.fl .f32 b0)), (Blk.mk Bool.false (Body.fl .f32 b1)), (Blk.mk Bool.false (Body.fl .f32 b2)), (Blk.mk Bool.true (Body.cells [(At.vw 0 0 q0x 1), (At.vw 1 0 q1n 1), (At.vw 2 0 q1m 1)])), (Blk.mk Bool.true (Body.cells [(At.flt .f32 b4)]))])) (fun c0_ c1_ => K (Ex.exit 0) (St.mk [(0, (AV.v (TV.one (At.vw 0 0 sn 1)))), (1, (AV.v (TV.one (At.fn 179 [(At.ptr 4 0 1)])))), (7, (AV.v (TV.one (At.int .i64 t7)))), (8, (AV.v (TV.one (At.int .i64 c0_)))), (9, (AV.v (TV.one (At.bool c1_))))] [(Blk.mk Bool.false (Body.fl .f32 b0)), (Blk.mk Bool.false (Body.fl .f32 b1)), (Blk.mk Bool.false (Body.fl .f32 b2)), (Blk.mk Bool.true (Body.cells [(At.vw 0 0 q0x 1), (At.vw 1 0 q1n 1), (At.vw 2 0 q1m 1)])), (Blk.mk Bool.true (Body.cells [(At.flt .f32 b4)]))])) := by kernel_rfl
theorem zia (sn : Nat) (t7 : Int) (b0 : List Nat) (b1 : List Nat) (b2 : List Nat) (q0x : Nat) (q1n : Nat) (q1m : Nat) (b4 : Nat) : ∀ (n : Nat) (t8 : Int), iter 178 2 5 (evC (R := Ex × St) Γ8 (evFn Γ8 8 8) 178 5 fi178.nt fi178.live fi178.nl 8 (findL 2 (loopsIn fi178.code))) n (St.mk [(0, (AV.v (TV.one (At.vw 0 0 sn 1)))), (1, (AV.v (TV.one (At.fn 179 [(At.ptr 4 0 1)])))), (7, (AV.v (TV.one (At.int .i64 t7)))), (8, (AV.v (TV.one (At.int .i64 t8))))] [(Blk.mk Bool.false (Body.fl .f32 b0)), (Blk.mk Bool.false (Body.fl .f32 b1)), (Blk.mk Bool.false (Body.fl .f32 b2)), (Blk.mk Bool.true (Body.cells [(At.vw 0 0 q0x 1), (At.vw 1 0 q1n 1), (At.vw 2 0 q1m 1)])), (Blk.mk Bool.true (Body.cells [(At.flt .f32 b4)]))]) (fun e st => some (e, st)) = (z36 sn t7 b0 b1 b2 q0x q1n q1m b4) (z0h sn t7 b0 b4 n t8) := by
  intro n
  induction n with
  | zero => intros; rfl
  | succ n ih =>
    intro t8
    refine Eq.trans (z89 ..) (Eq.trans (zi9 sn t7 t8 b0 b1 b2 q0x q1n q1m b4 (nextK 178 2 5 (evC (R := Ex × St) Γ8 (evFn Γ8 8 8) 178 5 fi178.nt fi178.live fi178.nl 8 (findL 2 (loopsIn fi178.code))) n (fun e st => some (e, st)))) (Eq.trans ?_ (zeh (z36 sn t7 b0 b1 b2 q0x q1n q1m b4) rfl sn t7 b0 b4 t8 (fun t8' => z0h sn t7 b0 b4 n t8') (fun c0_ => some (Sum.inl c0_)) (fun c0_ c1_ => some (Sum.inr (c0_, c1_))))))
    exact congrArg (fun kn_ => z14 sn t7 b0 b4 t8 kn_ (fun c0_ => (z36 sn t7 b0 b1 b2 q0x q1n q1m b4) (some (Sum.inl c0_))) (fun c0_ c1_ => (z36 sn t7 b0 b1 b2 q0x q1n q1m b4) (some (Sum.inr (c0_, c1_))))) (funext fun t8' => ih t8')
theorem zf0 : LoopOne Try.prog fnTab 178 2 z95 := lp_of (Γ := Γ8) tyTab_ok (FnL.ok fnTab_ok _ _) (LpL.ok y6p) (SumL.ok y68 _) mixed (fi := fi178) (by kernel_rfl) (by kernel_rfl) (by
  intro lo st out hp
  obtain ⟨hs, e1, e2, e3⟩ := z78 hp
  clear hp
  obtain rfl : st = (St.mk [(0, (AV.v (TV.one (At.vw 0 0 (hvN (hGet hs 0)) 1)))), (1, (AV.v (TV.one (At.fn 179 [(At.ptr 4 0 1)])))), (7, (AV.v (TV.one (At.int .i64 (hvI (hGet hs 1)))))), (8, (AV.v (TV.one (At.int .i64 (hvI (hGet hs 2))))))] [(Blk.mk Bool.false (Body.fl .f32 (hvLn (hGet hs 3)))), (Blk.mk Bool.false (Body.fl .f32 (hvLn (hGet hs 4)))), (Blk.mk Bool.false (Body.fl .f32 (hvLn (hGet hs 5)))), (Blk.mk Bool.true (Body.cells [(At.vw 0 0 (hvN (hGet hs 6)) 1), (At.vw 1 0 (hvN (hGet hs 7)) 1), (At.vw 2 0 (hvN (hGet hs 8)) 1)])), (Blk.mk Bool.true (Body.cells [(At.flt .f32 (hvN (hGet hs 9)))]))]) := e2.trans (by kernel_rfl)
  clear e2
  subst e1
  unfold z8u at e3
  injection e3 with h1 h2
  subst h2
  exact ⟨8, 8, big, Eq.trans (zia (hvN (hGet hs 0)) (hvI (hGet hs 1)) (hvLn (hGet hs 3)) (hvLn (hGet hs 4)) (hvLn (hGet hs 5)) (hvN (hGet hs 6)) (hvN (hGet hs 7)) (hvN (hGet hs 8)) (hvN (hGet hs 9)) big (hvI (hGet hs 2))) (zgy (hvN (hGet hs 0)) (hvI (hGet hs 1)) (hvLn (hGet hs 3)) (hvLn (hGet hs 4)) (hvLn (hGet hs 5)) (hvN (hGet hs 6)) (hvN (hGet hs 7)) (hvN (hGet hs 8)) (hvN (hGet hs 9)) (z0h (hvN (hGet hs 0)) (hvI (hGet hs 1)) (hvLn (hGet hs 3)) (hvN (hGet hs 9)) big (hvI (hGet hs 2))) h1)⟩)
noncomputable def tb9 : List (Nat × (List PT → Option (Bool × AV × List Blk))) := (79, zo5) :: (86, zkd) :: tb8
noncomputable def lt9 : List ((Nat × Nat) × (Nat → St → Option (Bool × LO))) := ((178, 2), z95) :: lt8
noncomputable def Γ9 : Ctx := ⟨tyTab, fnTab, tblSum tb9, tblLp lt9⟩
theorem y9u : SumL Try.prog tb9 := SumL.cons zzd (SumL.cons zuz (y68))
theorem ya4 : LpL Try.prog fnTab lt9 := LpL.cons zf0 (y6p)
noncomputable def zig : List PT → Option (Bool × AV × List Blk)
  | [.agg [.row 1 q0a (.fl .f32 q0c), .row 1 q0s (.fl .f32 q0v), .row 1 q0r (.fl .f32 q0w)], .one (.s (.flt .f32 x1))] => some ((zc7 q0a q0c q0s q0v q0r q0w x1), ((AV.tup [(TV.one (At.int .i64 (z41 q0a q0c q0s q0v q0r q0w x1))), (TV.one (At.int .i64 (z42 q0a q0c q0s q0v q0r q0w x1))), (TV.one (At.flt .f32 (z4v q0a q0c q0s q0v q0r q0w x1))), (TV.one (At.flt .f32 (z77 q0a q0c q0s q0v q0r q0w x1))), (TV.one (At.flt .f32 (z93 q0a q0c q0s q0v q0r q0w x1)))]), []))
  | _ => none
def zom (q0a : Nat) (q0c : List Nat) (q0s : Nat) (q0v : List Nat) (q0r : Nat) (q0w : List Nat) (x1 : Nat) : Option (Int × Int × Nat × Nat × Nat) → Option (AV × List Blk)
  | some r => some ((AV.tup [(TV.one (At.int .i64 r.1)), (TV.one (At.int .i64 r.2.1)), (TV.one (At.flt .f32 r.2.2.1)), (TV.one (At.flt .f32 r.2.2.2.1)), (TV.one (At.flt .f32 r.2.2.2.2))]), [])
  | none => none
theorem zwt (q0a : Nat) (q0c : List Nat) (q0s : Nat) (q0v : List Nat) (q0r : Nat) (q0w : List Nat) (x1 : Nat) : evFn Γ9 8 8 146 (impTs 0 [.agg [.row 1 q0a (.fl .f32 q0c), .row 1 q0s (.fl .f32 q0v), .row 1 q0r (.fl .f32 q0w)], .one (.s (.flt .f32 x1))]).1 (impTs 0 [.agg [.row 1 q0a (.fl .f32 q0c), .row 1 q0s (.fl .f32 q0v), .row 1 q0r (.fl .f32 q0w)], .one (.s (.flt .f32 x1))]).2 (expo (impTs 0 [.agg [.row 1 q0a (.fl .f32 q0c), .row 1 q0s (.fl .f32 q0v), .row 1 q0r (.fl .f32 q0w)], .one (.s (.flt .f32 x1))]).2.length) = z68 q0a q0c q0s q0v q0r q0w x1 (fun c0_ c1_ c2_ c3_ c4_ => some ((AV.tup [(TV.one (At.int .i64 c0_)), (TV.one (At.int .i64 c1_)), (TV.one (At.flt .f32 c2_)), (TV.one (At.flt .f32 c3_)), (TV.one (At.flt .f32 c4_))]), [])) := by kernel_rfl
theorem ztj : SumOne Try.prog 146 zig := z16 (Γ := Γ9) (fuel := 8) (d := 8) tyTab_ok (FnL.ok fnTab_ok _ _) (LpL.ok ya4) (SumL.ok y9u _) mixed (by
  intro pts v news hp hc
  clear hc
  unfold zig at hp
  split at hp
  · rename_i q0a q0c q0s q0v q0r q0w x1
    exact Eq.trans (Eq.trans (zwt q0a q0c q0s q0v q0r q0w x1) (zsm (zom q0a q0c q0s q0v q0r q0w x1) rfl q0a q0c q0s q0v q0r q0w x1 (fun c0_ c1_ c2_ c3_ c4_ => some (c0_, c1_, c2_, c3_, c4_)))) (z0y (o := (zom q0a q0c q0s q0v q0r q0w x1)) (x := z3b q0a q0c q0s q0v q0r q0w x1) (d := default) (V := fun r => ((AV.tup [(TV.one (At.int .i64 r.1)), (TV.one (At.int .i64 r.2.1)), (TV.one (At.flt .f32 r.2.2.1)), (TV.one (At.flt .f32 r.2.2.2.1)), (TV.one (At.flt .f32 r.2.2.2.2))]), [])) (fun r => rfl) hp)
  · cases hp)
noncomputable def zmg (q36 : Nat) (t43 : Int) (t44 : Int) (b0 : List Nat) (b1 : List Nat) (b2 : List Nat) (q0x : Nat) (q1n : Nat) (q1m : Nat) : Bool × LO := ((z6c q36 t43 b0 q0x t44), (LO.two (z5t q36 t43 b0 q0x t44) (LO.one Ex.ret (St.mk [(2, (AV.v (TV.one (At.bool Bool.false))))] [(Blk.mk Bool.false (Body.fl .f32 b0)), (Blk.mk Bool.false (Body.fl .f32 b1)), (Blk.mk Bool.false (Body.fl .f32 b2))])) (LO.one (Ex.exit 0) (St.mk [(1, (AV.v (TV.one (At.ptr 3 0 3)))), (42, (AV.v (TV.one (At.vw 0 0 q36 1)))), (43, (AV.v (TV.one (At.int .i64 t43)))), (44, (AV.v (TV.one (At.int .i64 (zdz q36 t43 b0 q0x t44))))), (45, (AV.v (TV.one (At.bool (zdv q36 t43 b0 q0x t44)))))] [(Blk.mk Bool.false (Body.fl .f32 b0)), (Blk.mk Bool.false (Body.fl .f32 b1)), (Blk.mk Bool.false (Body.fl .f32 b2)), (Blk.mk Bool.true (Body.cells [(At.vw 0 0 q0x 1), (At.vw 1 0 q1n 1), (At.vw 2 0 q1m 1)]))]))))
noncomputable def zoj : Nat → St → Option (Bool × LO) := lpT 3 (pSt [(pTm 1 (pV (pOne (pPtr 3 (liN 0) 3)))), (pTm 42 (pV (pOne (pVw 0 (liN 0) 1)))), (pTm 43 (pV (pOne (pInt .i64)))), (pTm 44 (pV (pOne (pInt .i64))))] [(pBlk Bool.false (pFl .f32)), (pBlk Bool.false (pFl .f32)), (pBlk Bool.false (pFl .f32)), (pBlk Bool.true (pCells [(pVw 0 (liN 0) 1), (pVw 1 (liN 0) 1), (pVw 2 (liN 0) 1)]))]) (fun hs => zmg (hvN (hGet hs 0)) (hvI (hGet hs 1)) (hvI (hGet hs 2)) (hvLn (hGet hs 3)) (hvLn (hGet hs 4)) (hvLn (hGet hs 5)) (hvN (hGet hs 6)) (hvN (hGet hs 7)) (hvN (hGet hs 8)))
def z9d (q36 : Nat) (t43 : Int) (b0 : List Nat) (b1 : List Nat) (b2 : List Nat) (q0x : Nat) (q1n : Nat) (q1m : Nat) : Option ((Unit) ⊕ (Int × Bool)) → Option (Ex × St)
  | none => none
  | some (Sum.inl r) => some (Ex.ret, (St.mk [(2, (AV.v (TV.one (At.bool Bool.false))))] [(Blk.mk Bool.false (Body.fl .f32 b0)), (Blk.mk Bool.false (Body.fl .f32 b1)), (Blk.mk Bool.false (Body.fl .f32 b2))]))
  | some (Sum.inr r) => some ((Ex.exit 0), (St.mk [(1, (AV.v (TV.one (At.ptr 3 0 3)))), (42, (AV.v (TV.one (At.vw 0 0 q36 1)))), (43, (AV.v (TV.one (At.int .i64 t43)))), (44, (AV.v (TV.one (At.int .i64 r.1)))), (45, (AV.v (TV.one (At.bool r.2))))] [(Blk.mk Bool.false (Body.fl .f32 b0)), (Blk.mk Bool.false (Body.fl .f32 b1)), (Blk.mk Bool.false (Body.fl .f32 b2)), (Blk.mk Bool.true (Body.cells [(At.vw 0 0 q0x 1), (At.vw 1 0 q1n 1), (At.vw 2 0 q1m 1)]))]))
def zvc (q36 : Nat) (t43 : Int) (b0 : List Nat) (b1 : List Nat) (b2 : List Nat) (q0x : Nat) (q1n : Nat) (q1m : Nat) (x : Option ((Unit) ⊕ (Int × Bool))) : LO := (LO.two (oL x) (LO.one Ex.ret (St.mk [(2, (AV.v (TV.one (At.bool Bool.false))))] [(Blk.mk Bool.false (Body.fl .f32 b0)), (Blk.mk Bool.false (Body.fl .f32 b1)), (Blk.mk Bool.false (Body.fl .f32 b2))])) (LO.one (Ex.exit 0) (St.mk [(1, (AV.v (TV.one (At.ptr 3 0 3)))), (42, (AV.v (TV.one (At.vw 0 0 q36 1)))), (43, (AV.v (TV.one (At.int .i64 t43)))), (44, (AV.v (TV.one (At.int .i64 ((tR x).getD default).1)))), (45, (AV.v (TV.one (At.bool ((tR x).getD default).2))))] [(Blk.mk Bool.false (Body.fl .f32 b0)), (Blk.mk Bool.false (Body.fl .f32 b1)), (Blk.mk Bool.false (Body.fl .f32 b2)), (Blk.mk Bool.true (Body.cells [(At.vw 0 0 q0x 1), (At.vw 1 0 q1n 1), (At.vw 2 0 q1m 1)]))])))
theorem zwm (q36 : Nat) (t43 : Int) (b0 : List Nat) (b1 : List Nat) (b2 : List Nat) (q0x : Nat) (q1n : Nat) (q1m : Nat) : ∀ x : Option ((Unit) ⊕ (Int × Bool)), x.isSome = true → (z9d q36 t43 b0 b1 b2 q0x q1n q1m) x = some (pick (zvc q36 t43 b0 b1 b2 q0x q1n q1m x))
  | none, h => by cases h
  | some (Sum.inl r), _ => rfl
  | some (Sum.inr r), _ => rfl
theorem zwh (q36 : Nat) (t43 : Int) (t44 : Int) (b0 : List Nat) (b1 : List Nat) (b2 : List Nat) (q0x : Nat) (q1n : Nat) (q1m : Nat) (K : Ex → St → Option (Ex × St)) : evC (R := Ex × St) Γ9 (evFn Γ9 8 8) 57 3 fi57.nt fi57.live fi57.nl 8 (findL 5 (loopsIn fi57.code)) (St.mk [(1, (AV.v (TV.one (At.ptr 3 0 3)))), (42, (AV.v (TV.one (At.vw 0 0 q36 1)))), (43, (AV.v (TV.one (At.int .i64 t43)))), (44, (AV.v (TV.one (At.int .i64 t44))))] [(Blk.mk Bool.false (Body.fl .f32 b0)), (Blk.mk Bool.false (Body.fl .f32 b1)), (Blk.mk Bool.false (Body.fl .f32 b2)), (Blk.mk Bool.true (Body.cells [(At.vw 0 0 q0x 1), (At.vw 1 0 q1n 1), (At.vw 2 0 q1m 1)]))]) K = z4d q36 t43 b0 q0x t44 (fun t44' => K .normal (St.mk [(1, (AV.v (TV.one (At.ptr 3 0 3)))), (42, (AV.v (TV.one (At.vw 0 0 q36 1)))), (43, (AV.v (TV.one (At.int .i64 t43)))), (44, (AV.v (TV.one (At.int .i64 t44'))))] [(Blk.mk Bool.false (Body.fl .f32 b0)), (Blk.mk Bool.false (Body.fl .f32 b1)), (Blk.mk Bool.false (Body.fl .f32 b2)), (Blk.mk Bool.true (Body.cells [(At.vw 0 0 q0x 1), (At.vw 1 0 q1n 1), (At.vw 2 0 q1m 1)]))])) (fun _ => K Ex.ret (St.mk [(2, (AV.v (TV.one (At.bool Bool.false))))] [(Blk.mk Bool.false (Body.fl .f32 b0)), (Blk.mk Bool.false (Body.fl .f32 b1)), (Blk.mk Bool.false (Body.fl .f32 b2))])) (fun c0_ c1_ => K (Ex.exit 0) (St.mk [(1, (AV.v (TV.one (At.ptr 3 0 3)))), (42, (AV.v (TV.one (At.vw 0 0 q36 1)))), (43, (AV.v (TV.one (At.int .i64 t43)))), (44, (AV.v (TV.one (At.int .i64 c0_)))), (45, (AV.v (TV.one (At.bool c1_))))] [(Blk.mk Bool.false (Body.fl .f32 b0)), (Blk.mk Bool.false (Body.fl .f32 b1)), (Blk.mk Bool.false (Body.fl .f32 b2)), (Blk.mk Bool.true (Body.cells [(At.vw 0 0 q0x 1), (At.vw 1 0 q1n 1), (At.vw 2 0 q1m 1)]))])) := by kernel_rfl
theorem zwy (q36 : Nat) (t43 : Int) (b0 : List Nat) (b1 : List Nat) (b2 : List Nat) (q0x : Nat) (q1n : Nat) (q1m : Nat) : ∀ (n : Nat) (t44 : Int), iter 57 5 3 (evC (R := Ex × St) Γ9 (evFn Γ9 8 8) 57 3 fi57.nt fi57.live fi57.nl 8 (findL 5 (loopsIn fi57.code))) n (St.mk [(1, (AV.v (TV.one (At.ptr 3 0 3)))), (42, (AV.v (TV.one (At.vw 0 0 q36 1)))), (43, (AV.v (TV.one (At.int .i64 t43)))), (44, (AV.v (TV.one (At.int .i64 t44))))] [(Blk.mk Bool.false (Body.fl .f32 b0)), (Blk.mk Bool.false (Body.fl .f32 b1)), (Blk.mk Bool.false (Body.fl .f32 b2)), (Blk.mk Bool.true (Body.cells [(At.vw 0 0 q0x 1), (At.vw 1 0 q1n 1), (At.vw 2 0 q1m 1)]))]) (fun e st => some (e, st)) = (z9d q36 t43 b0 b1 b2 q0x q1n q1m) (z2d q36 t43 b0 q0x n t44) := by
  intro n
  induction n with
  | zero => intros; rfl
  | succ n ih =>
    intro t44
    refine Eq.trans (z89 ..) (Eq.trans (zwh q36 t43 t44 b0 b1 b2 q0x q1n q1m (nextK 57 5 3 (evC (R := Ex × St) Γ9 (evFn Γ9 8 8) 57 3 fi57.nt fi57.live fi57.nl 8 (findL 5 (loopsIn fi57.code))) n (fun e st => some (e, st)))) (Eq.trans ?_ (zsx (z9d q36 t43 b0 b1 b2 q0x q1n q1m) rfl q36 t43 b0 q0x t44 (fun t44' => z2d q36 t43 b0 q0x n t44') (fun _ => some (Sum.inl ())) (fun c0_ c1_ => some (Sum.inr (c0_, c1_))))))
    exact congrArg (fun kn_ => z4d q36 t43 b0 q0x t44 kn_ (fun _ => (z9d q36 t43 b0 b1 b2 q0x q1n q1m) (some (Sum.inl ()))) (fun c0_ c1_ => (z9d q36 t43 b0 b1 b2 q0x q1n q1m) (some (Sum.inr (c0_, c1_))))) (funext fun t44' => ih t44')
theorem ztw : LoopOne Try.prog fnTab 57 5 zoj := lp_of (Γ := Γ9) tyTab_ok (FnL.ok fnTab_ok _ _) (LpL.ok ya4) (SumL.ok y9u _) mixed (fi := fi57) (by kernel_rfl) (by kernel_rfl) (by
  intro lo st out hp
  obtain ⟨hs, e1, e2, e3⟩ := z78 hp
  clear hp
  obtain rfl : st = (St.mk [(1, (AV.v (TV.one (At.ptr 3 0 3)))), (42, (AV.v (TV.one (At.vw 0 0 (hvN (hGet hs 0)) 1)))), (43, (AV.v (TV.one (At.int .i64 (hvI (hGet hs 1)))))), (44, (AV.v (TV.one (At.int .i64 (hvI (hGet hs 2))))))] [(Blk.mk Bool.false (Body.fl .f32 (hvLn (hGet hs 3)))), (Blk.mk Bool.false (Body.fl .f32 (hvLn (hGet hs 4)))), (Blk.mk Bool.false (Body.fl .f32 (hvLn (hGet hs 5)))), (Blk.mk Bool.true (Body.cells [(At.vw 0 0 (hvN (hGet hs 6)) 1), (At.vw 1 0 (hvN (hGet hs 7)) 1), (At.vw 2 0 (hvN (hGet hs 8)) 1)]))]) := e2.trans (by kernel_rfl)
  clear e2
  subst e1
  unfold zmg at e3
  injection e3 with h1 h2
  subst h2
  exact ⟨8, 8, big, Eq.trans (zwy (hvN (hGet hs 0)) (hvI (hGet hs 1)) (hvLn (hGet hs 3)) (hvLn (hGet hs 4)) (hvLn (hGet hs 5)) (hvN (hGet hs 6)) (hvN (hGet hs 7)) (hvN (hGet hs 8)) big (hvI (hGet hs 2))) (zwm (hvN (hGet hs 0)) (hvI (hGet hs 1)) (hvLn (hGet hs 3)) (hvLn (hGet hs 4)) (hvLn (hGet hs 5)) (hvN (hGet hs 6)) (hvN (hGet hs 7)) (hvN (hGet hs 8)) (z2d (hvN (hGet hs 0)) (hvI (hGet hs 1)) (hvLn (hGet hs 3)) (hvN (hGet hs 6)) big (hvI (hGet hs 2))) h1)⟩)
noncomputable def tb10 : List (Nat × (List PT → Option (Bool × AV × List Blk))) := (146, zig) :: tb9
noncomputable def lt10 : List ((Nat × Nat) × (Nat → St → Option (Bool × LO))) := ((57, 5), zoj) :: lt9
noncomputable def Γ10 : Ctx := ⟨tyTab, fnTab, tblSum tb10, tblLp lt10⟩
theorem y74 : SumL Try.prog tb10 := SumL.cons ztj (y9u)
theorem y6y : LpL Try.prog fnTab lt10 := LpL.cons ztw (ya4)
noncomputable def zlq : List PT → Option (Bool × AV × List Blk)
  | [.agg [.row 1 q0a (.fl .f32 q0c), .row 1 q0s (.fl .f32 q0v), .row 1 q0r (.fl .f32 q0w)]] => some ((zfm q0a q0c q0s q0v q0r q0w), ((AV.v (TV.one (At.bool (zdy q0a q0c q0s q0v q0r q0w)))), []))
  | _ => none
def zqz (q0a : Nat) (q0c : List Nat) (q0s : Nat) (q0v : List Nat) (q0r : Nat) (q0w : List Nat) : Option (Bool) → Option (AV × List Blk)
  | some r => some ((AV.v (TV.one (At.bool r))), [])
  | none => none
theorem y0k (q0a : Nat) (q0c : List Nat) (q0s : Nat) (q0v : List Nat) (q0r : Nat) (q0w : List Nat) : evFn Γ10 8 8 57 (impTs 0 [.agg [.row 1 q0a (.fl .f32 q0c), .row 1 q0s (.fl .f32 q0v), .row 1 q0r (.fl .f32 q0w)]]).1 (impTs 0 [.agg [.row 1 q0a (.fl .f32 q0c), .row 1 q0s (.fl .f32 q0v), .row 1 q0r (.fl .f32 q0w)]]).2 (expo (impTs 0 [.agg [.row 1 q0a (.fl .f32 q0c), .row 1 q0s (.fl .f32 q0v), .row 1 q0r (.fl .f32 q0w)]]).2.length) = z9c q0a q0c q0s q0v q0r q0w (fun c0_ => some ((AV.v (TV.one (At.bool c0_))), [])) := by kernel_rfl
theorem zwo : SumOne Try.prog 57 zlq := z16 (Γ := Γ10) (fuel := 8) (d := 8) tyTab_ok (FnL.ok fnTab_ok _ _) (LpL.ok y6y) (SumL.ok y74 _) mixed (by
  intro pts v news hp hc
  clear hc
  unfold zlq at hp
  split at hp
  · rename_i q0a q0c q0s q0v q0r q0w
    exact Eq.trans (Eq.trans (y0k q0a q0c q0s q0v q0r q0w) (zvk (zqz q0a q0c q0s q0v q0r q0w) rfl q0a q0c q0s q0v q0r q0w (fun c0_ => some c0_))) (z0y (o := (zqz q0a q0c q0s q0v q0r q0w)) (x := z9b q0a q0c q0s q0v q0r q0w) (d := default) (V := fun r => ((AV.v (TV.one (At.bool r))), [])) (fun r => rfl) hp)
  · cases hp)
noncomputable def znq : List PT → Option (Bool × AV × List Blk)
  | [.agg [.row 1 q0h (.fl .f32 q0n), .row 1 q0j (.fl .f32 q0p), .row 1 q0k (.fl .f32 q0q)], .one (.row 1 q0z (.fl .f32 q1y)), .one (.s (.flt .f32 q2y))] => some ((zdg q0h q0n q0j q0p q0k q0q q0z q1y q2y), ((AV.v (TV.one (At.flt .f32 (z8q q0h q0n q0j q0p q0k q0q q0z q1y q2y)))), []))
  | _ => none
def ztb (q0h : Nat) (q0n : List Nat) (q0j : Nat) (q0p : List Nat) (q0k : Nat) (q0q : List Nat) (q0z : Nat) (q1y : List Nat) (q2y : Nat) : Option (Nat) → Option (AV × List Blk)
  | some r => some ((AV.v (TV.one (At.flt .f32 r))), [])
  | none => none
theorem y37 (q0h : Nat) (q0n : List Nat) (q0j : Nat) (q0p : List Nat) (q0k : Nat) (q0q : List Nat) (q0z : Nat) (q1y : List Nat) (q2y : Nat) : evFn Γ10 8 8 76 (impTs 0 [.agg [.row 1 q0h (.fl .f32 q0n), .row 1 q0j (.fl .f32 q0p), .row 1 q0k (.fl .f32 q0q)], .one (.row 1 q0z (.fl .f32 q1y)), .one (.s (.flt .f32 q2y))]).1 (impTs 0 [.agg [.row 1 q0h (.fl .f32 q0n), .row 1 q0j (.fl .f32 q0p), .row 1 q0k (.fl .f32 q0q)], .one (.row 1 q0z (.fl .f32 q1y)), .one (.s (.flt .f32 q2y))]).2 (expo (impTs 0 [.agg [.row 1 q0h (.fl .f32 q0n), .row 1 q0j (.fl .f32 q0p), .row 1 q0k (.fl .f32 q0q)], .one (.row 1 q0z (.fl .f32 q1y)), .one (.s (.flt .f32 q2y))]).2.length) = zaw q0h q0n q0j q0p q0k q0q q0z q1y q2y (fun c0_ => some ((AV.v (TV.one (At.flt .f32 c0_))), [])) := by kernel_rfl
theorem zzt : SumOne Try.prog 76 znq := z16 (Γ := Γ10) (fuel := 8) (d := 8) tyTab_ok (FnL.ok fnTab_ok _ _) (LpL.ok y6y) (SumL.ok y74 _) mixed (by
  intro pts v news hp hc
  clear hc
  unfold znq at hp
  split at hp
  · rename_i q0h q0n q0j q0p q0k q0q q0z q1y q2y
    exact Eq.trans (Eq.trans (y37 q0h q0n q0j q0p q0k q0q q0z q1y q2y) (zxo (ztb q0h q0n q0j q0p q0k q0q q0z q1y q2y) rfl q0h q0n q0j q0p q0k q0q q0z q1y q2y (fun c0_ => some c0_))) (z0y (o := (ztb q0h q0n q0j q0p q0k q0q q0z q1y q2y)) (x := z81 q0h q0n q0j q0p q0k q0q q0z q1y q2y) (d := default) (V := fun r => ((AV.v (TV.one (At.flt .f32 r))), [])) (fun r => rfl) hp)
  · cases hp)
noncomputable def tb11 : List (Nat × (List PT → Option (Bool × AV × List Blk))) := (57, zlq) :: (76, znq) :: tb10
noncomputable def lt11 : List ((Nat × Nat) × (Nat → St → Option (Bool × LO))) := lt10
noncomputable def Γ11 : Ctx := ⟨tyTab, fnTab, tblSum tb11, tblLp lt11⟩
theorem ybr : SumL Try.prog tb11 := SumL.cons zwo (SumL.cons zzt (y74))
theorem ycf : LpL Try.prog fnTab lt11 := y6y
noncomputable def zlr : List PT → Option (Bool × AV × List Blk)
  | [.agg [.row 1 q00 (.fl .f32 q04), .row 1 q01 (.fl .f32 q05), .row 1 q02 (.fl .f32 q06), .row 3 q07 (.fl .f32 q09), .s (.int .i64 q0b), .s (.flt .f32 q0e), .s (.flt .f32 q0d)], .one (.s (.int .i64 i)), .one (.s (.flt .f32 q11)), .one (.s (.flt .f32 q29))] => some ((zfi q00 q04 q01 q05 q02 q06 q07 q09 q0b q0e q0d i q11 q29), ((AV.tup [(TV.one (At.flt .f32 (z7k q00 q04 q01 q05 q02 q06 q07 q09 q0b q0e q0d i q11 q29))), (TV.one (At.flt .f32 (z7d q00 q04 q01 q05 q02 q06 q07 q09 q0b q0e q0d i q11 q29)))]), []))
  | _ => none
def zr3 (q00 : Nat) (q04 : List Nat) (q01 : Nat) (q05 : List Nat) (q02 : Nat) (q06 : List Nat) (q07 : Nat) (q09 : List Nat) (q0b : Int) (q0e : Nat) (q0d : Nat) (i : Int) (q11 : Nat) (q29 : Nat) : Option (Nat × Nat) → Option (AV × List Blk)
  | some r => some ((AV.tup [(TV.one (At.flt .f32 r.1)), (TV.one (At.flt .f32 r.2))]), [])
  | none => none
theorem y10 (q00 : Nat) (q04 : List Nat) (q01 : Nat) (q05 : List Nat) (q02 : Nat) (q06 : List Nat) (q07 : Nat) (q09 : List Nat) (q0b : Int) (q0e : Nat) (q0d : Nat) (i : Int) (q11 : Nat) (q29 : Nat) : evFn Γ11 8 8 87 (impTs 0 [.agg [.row 1 q00 (.fl .f32 q04), .row 1 q01 (.fl .f32 q05), .row 1 q02 (.fl .f32 q06), .row 3 q07 (.fl .f32 q09), .s (.int .i64 q0b), .s (.flt .f32 q0e), .s (.flt .f32 q0d)], .one (.s (.int .i64 i)), .one (.s (.flt .f32 q11)), .one (.s (.flt .f32 q29))]).1 (impTs 0 [.agg [.row 1 q00 (.fl .f32 q04), .row 1 q01 (.fl .f32 q05), .row 1 q02 (.fl .f32 q06), .row 3 q07 (.fl .f32 q09), .s (.int .i64 q0b), .s (.flt .f32 q0e), .s (.flt .f32 q0d)], .one (.s (.int .i64 i)), .one (.s (.flt .f32 q11)), .one (.s (.flt .f32 q29))]).2 (expo (impTs 0 [.agg [.row 1 q00 (.fl .f32 q04), .row 1 q01 (.fl .f32 q05), .row 1 q02 (.fl .f32 q06), .row 3 q07 (.fl .f32 q09), .s (.int .i64 q0b), .s (.flt .f32 q0e), .s (.flt .f32 q0d)], .one (.s (.int .i64 i)), .one (.s (.flt .f32 q11)), .one (.s (.flt .f32 q29))]).2.length) = z96 q00 q04 q01 q05 q02 q06 q07 q09 q0b q0e q0d i q11 q29 (fun c0_ c1_ => some ((AV.tup [(TV.one (At.flt .f32 c0_)), (TV.one (At.flt .f32 c1_))]), [])) := by kernel_rfl
theorem zwj : SumOne Try.prog 87 zlr := z16 (Γ := Γ11) (fuel := 8) (d := 8) tyTab_ok (FnL.ok fnTab_ok _ _) (LpL.ok ycf) (SumL.ok ybr _) mixed (by
  intro pts v news hp hc
  clear hc
  unfold zlr at hp
  split at hp
  · rename_i q00 q04 q01 q05 q02 q06 q07 q09 q0b q0e q0d i q11 q29
    exact Eq.trans (Eq.trans (y10 q00 q04 q01 q05 q02 q06 q07 q09 q0b q0e q0d i q11 q29) (zvb (zr3 q00 q04 q01 q05 q02 q06 q07 q09 q0b q0e q0d i q11 q29) rfl q00 q04 q01 q05 q02 q06 q07 q09 q0b q0e q0d i q11 q29 (fun c0_ c1_ => some (c0_, c1_)))) (z0y (o := (zr3 q00 q04 q01 q05 q02 q06 q07 q09 q0b q0e q0d i q11 q29)) (x := z6l q00 q04 q01 q05 q02 q06 q07 q09 q0b q0e q0d i q11 q29) (d := default) (V := fun r => ((AV.tup [(TV.one (At.flt .f32 r.1)), (TV.one (At.flt .f32 r.2))]), [])) (fun r => rfl) hp)
  · cases hp)
noncomputable def tb12 : List (Nat × (List PT → Option (Bool × AV × List Blk))) := (87, zlr) :: tb11
noncomputable def lt12 : List ((Nat × Nat) × (Nat → St → Option (Bool × LO))) := lt11
noncomputable def Γ12 : Ctx := ⟨tyTab, fnTab, tblSum tb12, tblLp lt12⟩
theorem ybo : SumL Try.prog tb12 := SumL.cons zwj (ybr)
theorem yc7 : LpL Try.prog fnTab lt12 := ycf
noncomputable def zoh (t4 : Nat) (q30 : Nat) (t44 : Int) (t45 : Int) (b0 : List Nat) (b1 : List Nat) (b2 : List Nat) (b3 : List Nat) (q3i : Nat) (q3j : Nat) (q3l : Nat) (q3x : Nat) (q2n : Int) (q2o : Nat) (q22 : Nat) : Bool × LO := ((z7c q30 t44 b3 q22 t4 t45), (LO.two (z6v q30 t44 b3 q22 t4 t45) (LO.one Ex.ret (St.mk [(2, (AV.v (TV.one (At.bool Bool.false))))] [(Blk.mk Bool.false (Body.fl .f32 b0)), (Blk.mk Bool.false (Body.fl .f32 b1)), (Blk.mk Bool.false (Body.fl .f32 b2)), (Blk.mk Bool.false (Body.fl .f32 b3))])) (LO.one (Ex.exit 0) (St.mk [(1, (AV.v (TV.one (At.ptr 4 0 7)))), (4, (AV.v (TV.one (At.flt .f32 (zg4 q30 t44 b3 q22 t4 t45))))), (43, (AV.v (TV.one (At.vw 3 0 q30 3)))), (44, (AV.v (TV.one (At.int .i64 t44)))), (45, (AV.v (TV.one (At.int .i64 (zg1 q30 t44 b3 q22 t4 t45))))), (46, (AV.v (TV.one (At.bool (zg0 q30 t44 b3 q22 t4 t45)))))] [(Blk.mk Bool.false (Body.fl .f32 b0)), (Blk.mk Bool.false (Body.fl .f32 b1)), (Blk.mk Bool.false (Body.fl .f32 b2)), (Blk.mk Bool.false (Body.fl .f32 b3)), (Blk.mk Bool.true (Body.cells [(At.vw 0 0 q3i 1), (At.vw 1 0 q3j 1), (At.vw 2 0 q3l 1), (At.vw 3 0 q3x 3), (At.int .i64 q2n), (At.flt .f32 q2o), (At.flt .f32 q22)]))]))))
noncomputable def zqd : Nat → St → Option (Bool × LO) := lpT 4 (pSt [(pTm 1 (pV (pOne (pPtr 4 (liN 0) 7)))), (pTm 4 (pV (pOne (pFlt .f32)))), (pTm 43 (pV (pOne (pVw 3 (liN 0) 3)))), (pTm 44 (pV (pOne (pInt .i64)))), (pTm 45 (pV (pOne (pInt .i64))))] [(pBlk Bool.false (pFl .f32)), (pBlk Bool.false (pFl .f32)), (pBlk Bool.false (pFl .f32)), (pBlk Bool.false (pFl .f32)), (pBlk Bool.true (pCells [(pVw 0 (liN 0) 1), (pVw 1 (liN 0) 1), (pVw 2 (liN 0) 1), (pVw 3 (liN 0) 3), (pInt .i64), (pFlt .f32), (pFlt .f32)]))]) (fun hs => zoh (hvN (hGet hs 0)) (hvN (hGet hs 1)) (hvI (hGet hs 2)) (hvI (hGet hs 3)) (hvLn (hGet hs 4)) (hvLn (hGet hs 5)) (hvLn (hGet hs 6)) (hvLn (hGet hs 7)) (hvN (hGet hs 8)) (hvN (hGet hs 9)) (hvN (hGet hs 10)) (hvN (hGet hs 11)) (hvI (hGet hs 12)) (hvN (hGet hs 13)) (hvN (hGet hs 14)))
def zaj (q30 : Nat) (t44 : Int) (b0 : List Nat) (b1 : List Nat) (b2 : List Nat) (b3 : List Nat) (q3i : Nat) (q3j : Nat) (q3l : Nat) (q3x : Nat) (q2n : Int) (q2o : Nat) (q22 : Nat) : Option ((Unit) ⊕ (Nat × Int × Bool)) → Option (Ex × St)
  | none => none
  | some (Sum.inl r) => some (Ex.ret, (St.mk [(2, (AV.v (TV.one (At.bool Bool.false))))] [(Blk.mk Bool.false (Body.fl .f32 b0)), (Blk.mk Bool.false (Body.fl .f32 b1)), (Blk.mk Bool.false (Body.fl .f32 b2)), (Blk.mk Bool.false (Body.fl .f32 b3))]))
  | some (Sum.inr r) => some ((Ex.exit 0), (St.mk [(1, (AV.v (TV.one (At.ptr 4 0 7)))), (4, (AV.v (TV.one (At.flt .f32 r.1)))), (43, (AV.v (TV.one (At.vw 3 0 q30 3)))), (44, (AV.v (TV.one (At.int .i64 t44)))), (45, (AV.v (TV.one (At.int .i64 r.2.1)))), (46, (AV.v (TV.one (At.bool r.2.2))))] [(Blk.mk Bool.false (Body.fl .f32 b0)), (Blk.mk Bool.false (Body.fl .f32 b1)), (Blk.mk Bool.false (Body.fl .f32 b2)), (Blk.mk Bool.false (Body.fl .f32 b3)), (Blk.mk Bool.true (Body.cells [(At.vw 0 0 q3i 1), (At.vw 1 0 q3j 1), (At.vw 2 0 q3l 1), (At.vw 3 0 q3x 3), (At.int .i64 q2n), (At.flt .f32 q2o), (At.flt .f32 q22)]))]))
def zxy (q30 : Nat) (t44 : Int) (b0 : List Nat) (b1 : List Nat) (b2 : List Nat) (b3 : List Nat) (q3i : Nat) (q3j : Nat) (q3l : Nat) (q3x : Nat) (q2n : Int) (q2o : Nat) (q22 : Nat) (x : Option ((Unit) ⊕ (Nat × Int × Bool))) : LO := (LO.two (oL x) (LO.one Ex.ret (St.mk [(2, (AV.v (TV.one (At.bool Bool.false))))] [(Blk.mk Bool.false (Body.fl .f32 b0)), (Blk.mk Bool.false (Body.fl .f32 b1)), (Blk.mk Bool.false (Body.fl .f32 b2)), (Blk.mk Bool.false (Body.fl .f32 b3))])) (LO.one (Ex.exit 0) (St.mk [(1, (AV.v (TV.one (At.ptr 4 0 7)))), (4, (AV.v (TV.one (At.flt .f32 ((tR x).getD default).1)))), (43, (AV.v (TV.one (At.vw 3 0 q30 3)))), (44, (AV.v (TV.one (At.int .i64 t44)))), (45, (AV.v (TV.one (At.int .i64 ((tR x).getD default).2.1)))), (46, (AV.v (TV.one (At.bool ((tR x).getD default).2.2))))] [(Blk.mk Bool.false (Body.fl .f32 b0)), (Blk.mk Bool.false (Body.fl .f32 b1)), (Blk.mk Bool.false (Body.fl .f32 b2)), (Blk.mk Bool.false (Body.fl .f32 b3)), (Blk.mk Bool.true (Body.cells [(At.vw 0 0 q3i 1), (At.vw 1 0 q3j 1), (At.vw 2 0 q3l 1), (At.vw 3 0 q3x 3), (At.int .i64 q2n), (At.flt .f32 q2o), (At.flt .f32 q22)]))])))
theorem zzm (q30 : Nat) (t44 : Int) (b0 : List Nat) (b1 : List Nat) (b2 : List Nat) (b3 : List Nat) (q3i : Nat) (q3j : Nat) (q3l : Nat) (q3x : Nat) (q2n : Int) (q2o : Nat) (q22 : Nat) : ∀ x : Option ((Unit) ⊕ (Nat × Int × Bool)), x.isSome = true → (zaj q30 t44 b0 b1 b2 b3 q3i q3j q3l q3x q2n q2o q22) x = some (pick (zxy q30 t44 b0 b1 b2 b3 q3i q3j q3l q3x q2n q2o q22 x))
  | none, h => by cases h
  | some (Sum.inl r), _ => rfl
  | some (Sum.inr r), _ => rfl
theorem zzy (t4 : Nat) (q30 : Nat) (t44 : Int) (t45 : Int) (b0 : List Nat) (b1 : List Nat) (b2 : List Nat) (b3 : List Nat) (q3i : Nat) (q3j : Nat) (q3l : Nat) (q3x : Nat) (q2n : Int) (q2o : Nat) (q22 : Nat) (K : Ex → St → Option (Ex × St)) : evC (R := Ex × St) Γ12 (evFn Γ12 8 8) 36 4 fi36.nt fi36.live fi36.nl 8 (findL 6 (loopsIn fi36.code)) (St.mk [(1, (AV.v (TV.one (At.ptr 4 0 7)))), (4, (AV.v (TV.one (At.flt .f32 t4)))), (43, (AV.v (TV.one (At.vw 3 0 q30 3)))), (44, (AV.v (TV.one (At.int .i64 t44)))), (45, (AV.v (TV.one (At.int .i64 t45))))] [(Blk.mk Bool.false (Body.fl .f32 b0)), (Blk.mk Bool.false (Body.fl .f32 b1)), (Blk.mk Bool.false (Body.fl .f32 b2)), (Blk.mk Bool.false (Body.fl .f32 b3)), (Blk.mk Bool.true (Body.cells [(At.vw 0 0 q3i 1), (At.vw 1 0 q3j 1), (At.vw 2 0 q3l 1), (At.vw 3 0 q3x 3), (At.int .i64 q2n), (At.flt .f32 q2o), (At.flt .f32 q22)]))]) K = z51 q30 t44 b3 q22 t4 t45 (fun t4' t45' => K .normal (St.mk [(1, (AV.v (TV.one (At.ptr 4 0 7)))), (4, (AV.v (TV.one (At.flt .f32 t4')))), (43, (AV.v (TV.one (At.vw 3 0 q30 3)))), (44, (AV.v (TV.one (At.int .i64 t44)))), (45, (AV.v (TV.one (At.int .i64 t45'))))] [(Blk.mk Bool.false (Body.fl .f32 b0)), (Blk.mk Bool.false (Body.fl .f32 b1)), (Blk.mk Bool.false (Body.fl .f32 b2)), (Blk.mk Bool.false (Body.fl .f32 b3)), (Blk.mk Bool.true (Body.cells [(At.vw 0 0 q3i 1), (At.vw 1 0 q3j 1), (At.vw 2 0 q3l 1), (At.vw 3 0 q3x 3), (At.int .i64 q2n), (At.flt .f32 q2o), (At.flt .f32 q22)]))])) (fun _ => K Ex.ret (St.mk [(2, (AV.v (TV.one (At.bool Bool.false))))] [(Blk.mk Bool.false (Body.fl .f32 b0)), (Blk.mk Bool.false (Body.fl .f32 b1)), (Blk.mk Bool.false (Body.fl .f32 b2)), (Blk.mk Bool.false (Body.fl .f32 b3))])) (fun c0_ c1_ c2_ => K (Ex.exit 0) (St.mk [(1, (AV.v (TV.one (At.ptr 4 0 7)))), (4, (AV.v (TV.one (At.flt .f32 c0_)))), (43, (AV.v (TV.one (At.vw 3 0 q30 3)))), (44, (AV.v (TV.one (At.int .i64 t44)))), (45, (AV.v (TV.one (At.int .i64 c1_)))), (46, (AV.v (TV.one (At.bool c2_))))] [(Blk.mk Bool.false (Body.fl .f32 b0)), (Blk.mk Bool.false (Body.fl .f32 b1)), (Blk.mk Bool.false (Body.fl .f32 b2)), (Blk.mk Bool.false (Body.fl .f32 b3)), (Blk.mk Bool.true (Body.cells [(At.vw 0 0 q3i 1), (At.vw 1 0 q3j 1), (At.vw 2 0 q3l 1), (At.vw 3 0 q3x 3), (At.int .i64 q2n), (At.flt .f32 q2o), (At.flt .f32 q22)]))])) := by kernel_rfl
theorem zyx (q30 : Nat) (t44 : Int) (b0 : List Nat) (b1 : List Nat) (b2 : List Nat) (b3 : List Nat) (q3i : Nat) (q3j : Nat) (q3l : Nat) (q3x : Nat) (q2n : Int) (q2o : Nat) (q22 : Nat) : ∀ (n : Nat) (t4 : Nat) (t45 : Int), iter 36 6 4 (evC (R := Ex × St) Γ12 (evFn Γ12 8 8) 36 4 fi36.nt fi36.live fi36.nl 8 (findL 6 (loopsIn fi36.code))) n (St.mk [(1, (AV.v (TV.one (At.ptr 4 0 7)))), (4, (AV.v (TV.one (At.flt .f32 t4)))), (43, (AV.v (TV.one (At.vw 3 0 q30 3)))), (44, (AV.v (TV.one (At.int .i64 t44)))), (45, (AV.v (TV.one (At.int .i64 t45))))] [(Blk.mk Bool.false (Body.fl .f32 b0)), (Blk.mk Bool.false (Body.fl .f32 b1)), (Blk.mk Bool.false (Body.fl .f32 b2)), (Blk.mk Bool.false (Body.fl .f32 b3)), (Blk.mk Bool.true (Body.cells [(At.vw 0 0 q3i 1), (At.vw 1 0 q3j 1), (At.vw 2 0 q3l 1), (At.vw 3 0 q3x 3), (At.int .i64 q2n), (At.flt .f32 q2o), (At.flt .f32 q22)]))]) (fun e st => some (e, st)) = (zaj q30 t44 b0 b1 b2 b3 q3i q3j q3l q3x q2n q2o q22) (z1m q30 t44 b3 q22 n t4 t45) := by
  intro n
  induction n with
  | zero => intros; rfl
  | succ n ih =>
    intro t4 t45
    refine Eq.trans (z89 ..) (Eq.trans (zzy t4 q30 t44 t45 b0 b1 b2 b3 q3i q3j q3l q3x q2n q2o q22 (nextK 36 6 4 (evC (R := Ex × St) Γ12 (evFn Γ12 8 8) 36 4 fi36.nt fi36.live fi36.nl 8 (findL 6 (loopsIn fi36.code))) n (fun e st => some (e, st)))) (Eq.trans ?_ (zur (zaj q30 t44 b0 b1 b2 b3 q3i q3j q3l q3x q2n q2o q22) rfl q30 t44 b3 q22 t4 t45 (fun t4' t45' => z1m q30 t44 b3 q22 n t4' t45') (fun _ => some (Sum.inl ())) (fun c0_ c1_ c2_ => some (Sum.inr (c0_, c1_, c2_))))))
    exact congrArg (fun kn_ => z51 q30 t44 b3 q22 t4 t45 kn_ (fun _ => (zaj q30 t44 b0 b1 b2 b3 q3i q3j q3l q3x q2n q2o q22) (some (Sum.inl ()))) (fun c0_ c1_ c2_ => (zaj q30 t44 b0 b1 b2 b3 q3i q3j q3l q3x q2n q2o q22) (some (Sum.inr (c0_, c1_, c2_))))) (funext fun t4' => funext fun t45' => ih t4' t45')
theorem zvf : LoopOne Try.prog fnTab 36 6 zqd := lp_of (Γ := Γ12) tyTab_ok (FnL.ok fnTab_ok _ _) (LpL.ok yc7) (SumL.ok ybo _) mixed (fi := fi36) (by kernel_rfl) (by kernel_rfl) (by
  intro lo st out hp
  obtain ⟨hs, e1, e2, e3⟩ := z78 hp
  clear hp
  obtain rfl : st = (St.mk [(1, (AV.v (TV.one (At.ptr 4 0 7)))), (4, (AV.v (TV.one (At.flt .f32 (hvN (hGet hs 0)))))), (43, (AV.v (TV.one (At.vw 3 0 (hvN (hGet hs 1)) 3)))), (44, (AV.v (TV.one (At.int .i64 (hvI (hGet hs 2)))))), (45, (AV.v (TV.one (At.int .i64 (hvI (hGet hs 3))))))] [(Blk.mk Bool.false (Body.fl .f32 (hvLn (hGet hs 4)))), (Blk.mk Bool.false (Body.fl .f32 (hvLn (hGet hs 5)))), (Blk.mk Bool.false (Body.fl .f32 (hvLn (hGet hs 6)))), (Blk.mk Bool.false (Body.fl .f32 (hvLn (hGet hs 7)))), (Blk.mk Bool.true (Body.cells [(At.vw 0 0 (hvN (hGet hs 8)) 1), (At.vw 1 0 (hvN (hGet hs 9)) 1), (At.vw 2 0 (hvN (hGet hs 10)) 1), (At.vw 3 0 (hvN (hGet hs 11)) 3), (At.int .i64 (hvI (hGet hs 12))), (At.flt .f32 (hvN (hGet hs 13))), (At.flt .f32 (hvN (hGet hs 14)))]))]) := e2.trans (by kernel_rfl)
  clear e2
  subst e1
  unfold zoh at e3
  injection e3 with h1 h2
  subst h2
  exact ⟨8, 8, big, Eq.trans (zyx (hvN (hGet hs 1)) (hvI (hGet hs 2)) (hvLn (hGet hs 4)) (hvLn (hGet hs 5)) (hvLn (hGet hs 6)) (hvLn (hGet hs 7)) (hvN (hGet hs 8)) (hvN (hGet hs 9)) (hvN (hGet hs 10)) (hvN (hGet hs 11)) (hvI (hGet hs 12)) (hvN (hGet hs 13)) (hvN (hGet hs 14)) big (hvN (hGet hs 0)) (hvI (hGet hs 3))) (zzm (hvN (hGet hs 1)) (hvI (hGet hs 2)) (hvLn (hGet hs 4)) (hvLn (hGet hs 5)) (hvLn (hGet hs 6)) (hvLn (hGet hs 7)) (hvN (hGet hs 8)) (hvN (hGet hs 9)) (hvN (hGet hs 10)) (hvN (hGet hs 11)) (hvI (hGet hs 12)) (hvN (hGet hs 13)) (hvN (hGet hs 14)) (z1m (hvN (hGet hs 1)) (hvI (hGet hs 2)) (hvLn (hGet hs 7)) (hvN (hGet hs 14)) big (hvN (hGet hs 0)) (hvI (hGet hs 3))) h1)⟩)
noncomputable def tb13 : List (Nat × (List PT → Option (Bool × AV × List Blk))) := tb12
noncomputable def lt13 : List ((Nat × Nat) × (Nat → St → Option (Bool × LO))) := ((36, 6), zqd) :: lt12
noncomputable def Γ13 : Ctx := ⟨tyTab, fnTab, tblSum tb13, tblLp lt13⟩
theorem y6w : SumL Try.prog tb13 := ybo
theorem y78 : LpL Try.prog fnTab lt13 := LpL.cons zvf (yc7)
noncomputable def znl : List PT → Option (Bool × AV × List Blk)
  | [.agg [.row 1 q10 (.fl .f32 q19), .row 1 q12 (.fl .f32 q1e), .row 1 q13 (.fl .f32 q1d), .row 3 q1i (.fl .f32 q21), .s (.int .i64 q2a), .s (.flt .f32 q2h), .s (.flt .f32 q2i)]] => some ((z34 q10 q19 q12 q1e q13 q1d q1i q21 q2a q2h q2i), ((AV.v (TV.one (At.bool (z2q q10 q19 q12 q1e q13 q1d q1i q21 q2a q2h q2i)))), []))
  | _ => none
def ztd (q10 : Nat) (q19 : List Nat) (q12 : Nat) (q1e : List Nat) (q13 : Nat) (q1d : List Nat) (q1i : Nat) (q21 : List Nat) (q2a : Int) (q2h : Nat) (q2i : Nat) : Option (Bool) → Option (AV × List Blk)
  | some r => some ((AV.v (TV.one (At.bool r))), [])
  | none => none
theorem y3q (q10 : Nat) (q19 : List Nat) (q12 : Nat) (q1e : List Nat) (q13 : Nat) (q1d : List Nat) (q1i : Nat) (q21 : List Nat) (q2a : Int) (q2h : Nat) (q2i : Nat) : evFn Γ13 8 8 36 (impTs 0 [.agg [.row 1 q10 (.fl .f32 q19), .row 1 q12 (.fl .f32 q1e), .row 1 q13 (.fl .f32 q1d), .row 3 q1i (.fl .f32 q21), .s (.int .i64 q2a), .s (.flt .f32 q2h), .s (.flt .f32 q2i)]]).1 (impTs 0 [.agg [.row 1 q10 (.fl .f32 q19), .row 1 q12 (.fl .f32 q1e), .row 1 q13 (.fl .f32 q1d), .row 3 q1i (.fl .f32 q21), .s (.int .i64 q2a), .s (.flt .f32 q2h), .s (.flt .f32 q2i)]]).2 (expo (impTs 0 [.agg [.row 1 q10 (.fl .f32 q19), .row 1 q12 (.fl .f32 q1e), .row 1 q13 (.fl .f32 q1d), .row 3 q1i (.fl .f32 q21), .s (.int .i64 q2a), .s (.flt .f32 q2h), .s (.flt .f32 q2i)]]).2.length) = zb3 q10 q19 q12 q1e q13 q1d q1i q21 q2a q2h q2i (fun c0_ => some ((AV.v (TV.one (At.bool c0_))), [])) := by kernel_rfl
theorem zz4 : SumOne Try.prog 36 znl := z16 (Γ := Γ13) (fuel := 8) (d := 8) tyTab_ok (FnL.ok fnTab_ok _ _) (LpL.ok y78) (SumL.ok y6w _) mixed (by
  intro pts v news hp hc
  clear hc
  unfold znl at hp
  split at hp
  · rename_i q10 q19 q12 q1e q13 q1d q1i q21 q2a q2h q2i
    exact Eq.trans (Eq.trans (y3q q10 q19 q12 q1e q13 q1d q1i q21 q2a q2h q2i) (zxf (ztd q10 q19 q12 q1e q13 q1d q1i q21 q2a q2h q2i) rfl q10 q19 q12 q1e q13 q1d q1i q21 q2a q2h q2i (fun c0_ => some c0_))) (z0y (o := (ztd q10 q19 q12 q1e q13 q1d q1i q21 q2a q2h q2i)) (x := zb9 q10 q19 q12 q1e q13 q1d q1i q21 q2a q2h q2i) (d := default) (V := fun r => ((AV.v (TV.one (At.bool r))), [])) (fun r => rfl) hp)
  · cases hp)
noncomputable def zf3 (b0 : List Int) (q1q : Int) (q1p : Nat) (q1o : Nat) (q0g : Nat) (q0l : Int) (q0m : Int) (q1b : Int) (q1a : Nat) (q1c : Nat) : Bool × LO := ((z4s b0 q0g q0l q0m), (LO.one Ex.ret (St.mk [(2, (AV.v (TV.one (At.int .i64 (z40 b0 q0g q0l q0m)))))] [(Blk.mk Bool.false (Body.il .u8 b0)), (Blk.mk Bool.true (Body.cells [At.nilsl, At.nilsl, At.nilsl, At.nilsl, (At.int .i64 q1q), (At.flt .f32 q1p), (At.flt .f32 q1o)])), (Blk.mk Bool.true (Body.cells [(At.vw 0 0 q0g 1), (At.int .i64 (z10 b0 q0g q0l q0m)), (At.int .u64 (z11 b0 q0g q0l q0m))])), (Blk.mk Bool.true (Body.cells [At.nilsl, At.nilsl, At.nilsl, At.nilsl, (At.int .i64 q1b), (At.flt .f32 q1a), (At.flt .f32 q1c)])), (Blk.mk Bool.true (Body.cells [At.nilsl, At.nilsl, At.nilsl]))])))
noncomputable def zgp : Nat → St → Option (Bool × LO) := lpT 5 (pSt [(pTm 0 (pV (pOne (pPtr 2 (liN 0) 3))))] [(pBlk Bool.false (pIl .u8)), (pBlk Bool.true (pCells [pNil, pNil, pNil, pNil, (pInt .i64), (pFlt .f32), (pFlt .f32)])), (pBlk Bool.true (pCells [(pVw 0 (liN 0) 1), (pInt .i64), (pInt .u64)])), (pBlk Bool.true (pCells [pNil, pNil, pNil, pNil, (pInt .i64), (pFlt .f32), (pFlt .f32)])), (pBlk Bool.true (pCells [pNil, pNil, pNil]))]) (fun hs => zf3 (hvLi (hGet hs 0)) (hvI (hGet hs 1)) (hvN (hGet hs 2)) (hvN (hGet hs 3)) (hvN (hGet hs 4)) (hvI (hGet hs 5)) (hvI (hGet hs 6)) (hvI (hGet hs 7)) (hvN (hGet hs 8)) (hvN (hGet hs 9)))
def zak (b0 : List Int) (q1q : Int) (q1p : Nat) (q1o : Nat) (q0g : Nat) (q0l : Int) (q0m : Int) (q1b : Int) (q1a : Nat) (q1c : Nat) : Option ((Int × Int × Int)) → Option (Ex × St)
  | none => none
  | some r => some (Ex.ret, (St.mk [(2, (AV.v (TV.one (At.int .i64 r.1))))] [(Blk.mk Bool.false (Body.il .u8 b0)), (Blk.mk Bool.true (Body.cells [At.nilsl, At.nilsl, At.nilsl, At.nilsl, (At.int .i64 q1q), (At.flt .f32 q1p), (At.flt .f32 q1o)])), (Blk.mk Bool.true (Body.cells [(At.vw 0 0 q0g 1), (At.int .i64 r.2.1), (At.int .u64 r.2.2)])), (Blk.mk Bool.true (Body.cells [At.nilsl, At.nilsl, At.nilsl, At.nilsl, (At.int .i64 q1b), (At.flt .f32 q1a), (At.flt .f32 q1c)])), (Blk.mk Bool.true (Body.cells [At.nilsl, At.nilsl, At.nilsl]))]))
def zpt (b0 : List Int) (q1q : Int) (q1p : Nat) (q1o : Nat) (q0g : Nat) (q0l : Int) (q0m : Int) (q1b : Int) (q1a : Nat) (q1c : Nat) (x : Option ((Int × Int × Int))) : LO := (LO.one Ex.ret (St.mk [(2, (AV.v (TV.one (At.int .i64 (x.getD default).1))))] [(Blk.mk Bool.false (Body.il .u8 b0)), (Blk.mk Bool.true (Body.cells [At.nilsl, At.nilsl, At.nilsl, At.nilsl, (At.int .i64 q1q), (At.flt .f32 q1p), (At.flt .f32 q1o)])), (Blk.mk Bool.true (Body.cells [(At.vw 0 0 q0g 1), (At.int .i64 (x.getD default).2.1), (At.int .u64 (x.getD default).2.2)])), (Blk.mk Bool.true (Body.cells [At.nilsl, At.nilsl, At.nilsl, At.nilsl, (At.int .i64 q1b), (At.flt .f32 q1a), (At.flt .f32 q1c)])), (Blk.mk Bool.true (Body.cells [At.nilsl, At.nilsl, At.nilsl]))]))
theorem zqk (b0 : List Int) (q1q : Int) (q1p : Nat) (q1o : Nat) (q0g : Nat) (q0l : Int) (q0m : Int) (q1b : Int) (q1a : Nat) (q1c : Nat) : ∀ x : Option ((Int × Int × Int)), x.isSome = true → (zak b0 q1q q1p q1o q0g q0l q0m q1b q1a q1c) x = some (pick (zpt b0 q1q q1p q1o q0g q0l q0m q1b q1a q1c x))
  | none, h => by cases h
  | some r, _ => rfl
theorem zq6 (b0 : List Int) (q1q : Int) (q1p : Nat) (q1o : Nat) (q0g : Nat) (q0l : Int) (q0m : Int) (q1b : Int) (q1a : Nat) (q1c : Nat) (K : Ex → St → Option (Ex × St)) : evC (R := Ex × St) Γ13 (evFn Γ13 8 8) 177 5 fi177.nt fi177.live fi177.nl 8 fi177.code (St.mk [(0, (AV.v (TV.one (At.ptr 2 0 3))))] [(Blk.mk Bool.false (Body.il .u8 b0)), (Blk.mk Bool.true (Body.cells [At.nilsl, At.nilsl, At.nilsl, At.nilsl, (At.int .i64 q1q), (At.flt .f32 q1p), (At.flt .f32 q1o)])), (Blk.mk Bool.true (Body.cells [(At.vw 0 0 q0g 1), (At.int .i64 q0l), (At.int .u64 q0m)])), (Blk.mk Bool.true (Body.cells [At.nilsl, At.nilsl, At.nilsl, At.nilsl, (At.int .i64 q1b), (At.flt .f32 q1a), (At.flt .f32 q1c)])), (Blk.mk Bool.true (Body.cells [At.nilsl, At.nilsl, At.nilsl]))]) K = z3t b0 q0g q0l q0m (fun _ => K .normal (St.mk [(0, (AV.v (TV.one (At.ptr 2 0 3))))] [(Blk.mk Bool.false (Body.il .u8 b0)), (Blk.mk Bool.true (Body.cells [At.nilsl, At.nilsl, At.nilsl, At.nilsl, (At.int .i64 q1q), (At.flt .f32 q1p), (At.flt .f32 q1o)])), (Blk.mk Bool.true (Body.cells [(At.vw 0 0 q0g 1), (At.int .i64 q0l), (At.int .u64 q0m)])), (Blk.mk Bool.true (Body.cells [At.nilsl, At.nilsl, At.nilsl, At.nilsl, (At.int .i64 q1b), (At.flt .f32 q1a), (At.flt .f32 q1c)])), (Blk.mk Bool.true (Body.cells [At.nilsl, At.nilsl, At.nilsl]))])) (fun c0_ c1_ c2_ => K Ex.ret (St.mk [(2, (AV.v (TV.one (At.int .i64 c0_))))] [(Blk.mk Bool.false (Body.il .u8 b0)), (Blk.mk Bool.true (Body.cells [At.nilsl, At.nilsl, At.nilsl, At.nilsl, (At.int .i64 q1q), (At.flt .f32 q1p), (At.flt .f32 q1o)])), (Blk.mk Bool.true (Body.cells [(At.vw 0 0 q0g 1), (At.int .i64 c1_), (At.int .u64 c2_)])), (Blk.mk Bool.true (Body.cells [At.nilsl, At.nilsl, At.nilsl, At.nilsl, (At.int .i64 q1b), (At.flt .f32 q1a), (At.flt .f32 q1c)])), (Blk.mk Bool.true (Body.cells [At.nilsl, At.nilsl, At.nilsl]))])) := by kernel_rfl
theorem zq1 (b0 : List Int) (q1q : Int) (q1p : Nat) (q1o : Nat) (q0g : Nat) (q0l : Int) (q0m : Int) (q1b : Int) (q1a : Nat) (q1c : Nat) : evC (R := Ex × St) Γ13 (evFn Γ13 8 8) 177 5 fi177.nt fi177.live fi177.nl 8 fi177.code (St.mk [(0, (AV.v (TV.one (At.ptr 2 0 3))))] [(Blk.mk Bool.false (Body.il .u8 b0)), (Blk.mk Bool.true (Body.cells [At.nilsl, At.nilsl, At.nilsl, At.nilsl, (At.int .i64 q1q), (At.flt .f32 q1p), (At.flt .f32 q1o)])), (Blk.mk Bool.true (Body.cells [(At.vw 0 0 q0g 1), (At.int .i64 q0l), (At.int .u64 q0m)])), (Blk.mk Bool.true (Body.cells [At.nilsl, At.nilsl, At.nilsl, At.nilsl, (At.int .i64 q1b), (At.flt .f32 q1a), (At.flt .f32 q1c)])), (Blk.mk Bool.true (Body.cells [At.nilsl, At.nilsl, At.nilsl]))]) (fun e st => some (e, st)) = (zak b0 q1q q1p q1o q0g q0l q0m q1b q1a q1c) (z1j b0 q0g q0l q0m big ) := by
  obtain ⟨n, hn⟩ := zd7
  rw [hn]
  refine Eq.trans (zq6 b0 q1q q1p q1o q0g q0l q0m q1b q1a q1c (fun e st => some (e, st))) (Eq.trans ?_ (zno (zak b0 q1q q1p q1o q0g q0l q0m q1b q1a q1c) rfl b0 q0g q0l q0m (fun _ => z1j b0 q0g q0l q0m n ) (fun c0_ c1_ c2_ => some (c0_, c1_, c2_))))
  unfold z3t
  rfl
theorem zob : LoopOne Try.prog fnTab 177 bodyId zgp := bd_of (Γ := Γ13) tyTab_ok (FnL.ok fnTab_ok _ _) (LpL.ok y78) (SumL.ok y6w _) mixed (fi := fi177) (by kernel_rfl) (by kernel_rfl) (by
  intro lo st out hp
  obtain ⟨hs, e1, e2, e3⟩ := z78 hp
  clear hp
  obtain rfl : st = (St.mk [(0, (AV.v (TV.one (At.ptr 2 0 3))))] [(Blk.mk Bool.false (Body.il .u8 (hvLi (hGet hs 0)))), (Blk.mk Bool.true (Body.cells [At.nilsl, At.nilsl, At.nilsl, At.nilsl, (At.int .i64 (hvI (hGet hs 1))), (At.flt .f32 (hvN (hGet hs 2))), (At.flt .f32 (hvN (hGet hs 3)))])), (Blk.mk Bool.true (Body.cells [(At.vw 0 0 (hvN (hGet hs 4)) 1), (At.int .i64 (hvI (hGet hs 5))), (At.int .u64 (hvI (hGet hs 6)))])), (Blk.mk Bool.true (Body.cells [At.nilsl, At.nilsl, At.nilsl, At.nilsl, (At.int .i64 (hvI (hGet hs 7))), (At.flt .f32 (hvN (hGet hs 8))), (At.flt .f32 (hvN (hGet hs 9)))])), (Blk.mk Bool.true (Body.cells [At.nilsl, At.nilsl, At.nilsl]))]) := e2.trans (by kernel_rfl)
  clear e2
  subst e1
  unfold zf3 at e3
  injection e3 with h1 h2
  subst h2
  exact ⟨8, 8, Eq.trans (zq1 (hvLi (hGet hs 0)) (hvI (hGet hs 1)) (hvN (hGet hs 2)) (hvN (hGet hs 3)) (hvN (hGet hs 4)) (hvI (hGet hs 5)) (hvI (hGet hs 6)) (hvI (hGet hs 7)) (hvN (hGet hs 8)) (hvN (hGet hs 9)) ) (zqk (hvLi (hGet hs 0)) (hvI (hGet hs 1)) (hvN (hGet hs 2)) (hvN (hGet hs 3)) (hvN (hGet hs 4)) (hvI (hGet hs 5)) (hvI (hGet hs 6)) (hvI (hGet hs 7)) (hvN (hGet hs 8)) (hvN (hGet hs 9)) (z1j (hvLi (hGet hs 0)) (hvN (hGet hs 4)) (hvI (hGet hs 5)) (hvI (hGet hs 6)) big ) h1)⟩)
noncomputable def tb14 : List (Nat × (List PT → Option (Bool × AV × List Blk))) := (36, znl) :: tb13
noncomputable def lt14 : List ((Nat × Nat) × (Nat → St → Option (Bool × LO))) := ((177, 1000000007), zgp) :: lt13
noncomputable def Γ14 : Ctx := ⟨tyTab, fnTab, tblSum tb14, tblLp lt14⟩
theorem zx4 : SumL Try.prog tb14 := SumL.cons zz4 (y6w)
theorem zyp : LpL Try.prog fnTab lt14 := LpL.cons zob (y78)
noncomputable def znp : List PT → Option (Bool × AV × List Blk)
  | [.agg [.row 1 q00 (.fl .f32 q04), .row 1 q01 (.fl .f32 q05), .row 1 q02 (.fl .f32 q06), .row 3 q07 (.fl .f32 q09), .s (.int .i64 q0b), .s (.flt .f32 q0e), .s (.flt .f32 q0d)], .one (.s (.int .i64 i))] => some ((zdn q00 q04 q01 q05 q02 q06 q07 q09 q0b q0e q0d i), ((AV.tup [(TV.one (At.flt .f32 (zcd q00 q04 q01 q05 q02 q06 q07 q09 q0b q0e q0d i))), (TV.one (At.bool (zcj q00 q04 q01 q05 q02 q06 q07 q09 q0b q0e q0d i)))]), []))
  | _ => none
def ztf (q00 : Nat) (q04 : List Nat) (q01 : Nat) (q05 : List Nat) (q02 : Nat) (q06 : List Nat) (q07 : Nat) (q09 : List Nat) (q0b : Int) (q0e : Nat) (q0d : Nat) (i : Int) : Option (Nat × Bool) → Option (AV × List Blk)
  | some r => some ((AV.tup [(TV.one (At.flt .f32 r.1)), (TV.one (At.bool r.2))]), [])
  | none => none
theorem y3y (q00 : Nat) (q04 : List Nat) (q01 : Nat) (q05 : List Nat) (q02 : Nat) (q06 : List Nat) (q07 : Nat) (q09 : List Nat) (q0b : Int) (q0e : Nat) (q0d : Nat) (i : Int) : evFn Γ14 8 8 31 (impTs 0 [.agg [.row 1 q00 (.fl .f32 q04), .row 1 q01 (.fl .f32 q05), .row 1 q02 (.fl .f32 q06), .row 3 q07 (.fl .f32 q09), .s (.int .i64 q0b), .s (.flt .f32 q0e), .s (.flt .f32 q0d)], .one (.s (.int .i64 i))]).1 (impTs 0 [.agg [.row 1 q00 (.fl .f32 q04), .row 1 q01 (.fl .f32 q05), .row 1 q02 (.fl .f32 q06), .row 3 q07 (.fl .f32 q09), .s (.int .i64 q0b), .s (.flt .f32 q0e), .s (.flt .f32 q0d)], .one (.s (.int .i64 i))]).2 (expo (impTs 0 [.agg [.row 1 q00 (.fl .f32 q04), .row 1 q01 (.fl .f32 q05), .row 1 q02 (.fl .f32 q06), .row 3 q07 (.fl .f32 q09), .s (.int .i64 q0b), .s (.flt .f32 q0e), .s (.flt .f32 q0d)], .one (.s (.int .i64 i))]).2.length) = zb0 q00 q04 q01 q05 q02 q06 q07 q09 q0b q0e q0d i (fun c0_ c1_ => some ((AV.tup [(TV.one (At.flt .f32 c0_)), (TV.one (At.bool c1_))]), [])) := by kernel_rfl
theorem zzl : SumOne Try.prog 31 znp := z16 (Γ := Γ14) (fuel := 8) (d := 8) tyTab_ok (FnL.ok fnTab_ok _ _) (LpL.ok zyp) (SumL.ok zx4 _) mixed (by
  intro pts v news hp hc
  clear hc
  unfold znp at hp
  split at hp
  · rename_i q00 q04 q01 q05 q02 q06 q07 q09 q0b q0e q0d i
    exact Eq.trans (Eq.trans (y3y q00 q04 q01 q05 q02 q06 q07 q09 q0b q0e q0d i) (zxt (ztf q00 q04 q01 q05 q02 q06 q07 q09 q0b q0e q0d i) rfl q00 q04 q01 q05 q02 q06 q07 q09 q0b q0e q0d i (fun c0_ c1_ => some (c0_, c1_)))) (z0y (o := (ztf q00 q04 q01 q05 q02 q06 q07 q09 q0b q0e q0d i)) (x := z6n q00 q04 q01 q05 q02 q06 q07 q09 q0b q0e q0d i) (d := default) (V := fun r => ((AV.tup [(TV.one (At.flt .f32 r.1)), (TV.one (At.bool r.2))]), [])) (fun r => rfl) hp)
  · cases hp)
noncomputable def znv : List PT → Option (Bool × AV × List Blk)
  | [.agg [.row 1 q00 (.fl .f32 q04), .row 1 q01 (.fl .f32 q05), .row 1 q02 (.fl .f32 q06), .row 3 q07 (.fl .f32 q09), .s (.int .i64 q0b), .s (.flt .f32 q0e), .s (.flt .f32 q0d)], .one (.s (.int .i64 i)), .one (.s (.flt .f32 q11))] => some ((zdj q00 q04 q01 q05 q02 q06 q07 q09 q0b q0e q0d i q11), ((AV.tup [(TV.one (At.flt .f32 (zce q00 q04 q01 q05 q02 q06 q07 q09 q0b q0e q0d i q11))), (TV.one (At.bool (zcf q00 q04 q01 q05 q02 q06 q07 q09 q0b q0e q0d i q11)))]), []))
  | _ => none
def zt2 (q00 : Nat) (q04 : List Nat) (q01 : Nat) (q05 : List Nat) (q02 : Nat) (q06 : List Nat) (q07 : Nat) (q09 : List Nat) (q0b : Int) (q0e : Nat) (q0d : Nat) (i : Int) (q11 : Nat) : Option (Nat × Bool) → Option (AV × List Blk)
  | some r => some ((AV.tup [(TV.one (At.flt .f32 r.1)), (TV.one (At.bool r.2))]), [])
  | none => none
theorem y39 (q00 : Nat) (q04 : List Nat) (q01 : Nat) (q05 : List Nat) (q02 : Nat) (q06 : List Nat) (q07 : Nat) (q09 : List Nat) (q0b : Int) (q0e : Nat) (q0d : Nat) (i : Int) (q11 : Nat) : evFn Γ14 8 8 32 (impTs 0 [.agg [.row 1 q00 (.fl .f32 q04), .row 1 q01 (.fl .f32 q05), .row 1 q02 (.fl .f32 q06), .row 3 q07 (.fl .f32 q09), .s (.int .i64 q0b), .s (.flt .f32 q0e), .s (.flt .f32 q0d)], .one (.s (.int .i64 i)), .one (.s (.flt .f32 q11))]).1 (impTs 0 [.agg [.row 1 q00 (.fl .f32 q04), .row 1 q01 (.fl .f32 q05), .row 1 q02 (.fl .f32 q06), .row 3 q07 (.fl .f32 q09), .s (.int .i64 q0b), .s (.flt .f32 q0e), .s (.flt .f32 q0d)], .one (.s (.int .i64 i)), .one (.s (.flt .f32 q11))]).2 (expo (impTs 0 [.agg [.row 1 q00 (.fl .f32 q04), .row 1 q01 (.fl .f32 q05), .row 1 q02 (.fl .f32 q06), .row 3 q07 (.fl .f32 q09), .s (.int .i64 q0b), .s (.flt .f32 q0e), .s (.flt .f32 q0d)], .one (.s (.int .i64 i)), .one (.s (.flt .f32 q11))]).2.length) = zau q00 q04 q01 q05 q02 q06 q07 q09 q0b q0e q0d i q11 (fun c0_ c1_ => some ((AV.tup [(TV.one (At.flt .f32 c0_)), (TV.one (At.bool c1_))]), [])) := by kernel_rfl
theorem zzb : SumOne Try.prog 32 znv := z16 (Γ := Γ14) (fuel := 8) (d := 8) tyTab_ok (FnL.ok fnTab_ok _ _) (LpL.ok zyp) (SumL.ok zx4 _) mixed (by
  intro pts v news hp hc
  clear hc
  unfold znv at hp
  split at hp
  · rename_i q00 q04 q01 q05 q02 q06 q07 q09 q0b q0e q0d i q11
    exact Eq.trans (Eq.trans (y39 q00 q04 q01 q05 q02 q06 q07 q09 q0b q0e q0d i q11) (zyg (zt2 q00 q04 q01 q05 q02 q06 q07 q09 q0b q0e q0d i q11) rfl q00 q04 q01 q05 q02 q06 q07 q09 q0b q0e q0d i q11 (fun c0_ c1_ => some (c0_, c1_)))) (z0y (o := (zt2 q00 q04 q01 q05 q02 q06 q07 q09 q0b q0e q0d i q11)) (x := z6o q00 q04 q01 q05 q02 q06 q07 q09 q0b q0e q0d i q11) (d := default) (V := fun r => ((AV.tup [(TV.one (At.flt .f32 r.1)), (TV.one (At.bool r.2))]), [])) (fun r => rfl) hp)
  · cases hp)
noncomputable def zqo : List PT → Option (Bool × AV × List Blk)
  | [.agg [.row 1 q00 (.fl .f32 q04), .row 1 q01 (.fl .f32 q05), .row 1 q02 (.fl .f32 q06), .row 3 q07 (.fl .f32 q09), .s (.int .i64 q0b), .s (.flt .f32 q0e), .s (.flt .f32 q0d)], .one (.s (.int .i64 i)), .one (.s (.flt .f32 q11)), .one (.s (.flt .f32 q29))] => some ((zhr q00 q04 q01 q05 q02 q06 q07 q09 q0b q0e q0d i q11 q29), ((AV.tup [(TV.one (At.flt .f32 (zez q00 q04 q01 q05 q02 q06 q07 q09 q0b q0e q0d i q11 q29))), (TV.one (At.flt .f32 (zeu q00 q04 q01 q05 q02 q06 q07 q09 q0b q0e q0d i q11 q29))), (TV.one (At.bool (zf7 q00 q04 q01 q05 q02 q06 q07 q09 q0b q0e q0d i q11 q29)))]), []))
  | _ => none
def zvz (q00 : Nat) (q04 : List Nat) (q01 : Nat) (q05 : List Nat) (q02 : Nat) (q06 : List Nat) (q07 : Nat) (q09 : List Nat) (q0b : Int) (q0e : Nat) (q0d : Nat) (i : Int) (q11 : Nat) (q29 : Nat) : Option (Nat × Nat × Bool) → Option (AV × List Blk)
  | some r => some ((AV.tup [(TV.one (At.flt .f32 r.1)), (TV.one (At.flt .f32 r.2.1)), (TV.one (At.bool r.2.2))]), [])
  | none => none
theorem y5p (q00 : Nat) (q04 : List Nat) (q01 : Nat) (q05 : List Nat) (q02 : Nat) (q06 : List Nat) (q07 : Nat) (q09 : List Nat) (q0b : Int) (q0e : Nat) (q0d : Nat) (i : Int) (q11 : Nat) (q29 : Nat) : evFn Γ14 8 8 34 (impTs 0 [.agg [.row 1 q00 (.fl .f32 q04), .row 1 q01 (.fl .f32 q05), .row 1 q02 (.fl .f32 q06), .row 3 q07 (.fl .f32 q09), .s (.int .i64 q0b), .s (.flt .f32 q0e), .s (.flt .f32 q0d)], .one (.s (.int .i64 i)), .one (.s (.flt .f32 q11)), .one (.s (.flt .f32 q29))]).1 (impTs 0 [.agg [.row 1 q00 (.fl .f32 q04), .row 1 q01 (.fl .f32 q05), .row 1 q02 (.fl .f32 q06), .row 3 q07 (.fl .f32 q09), .s (.int .i64 q0b), .s (.flt .f32 q0e), .s (.flt .f32 q0d)], .one (.s (.int .i64 i)), .one (.s (.flt .f32 q11)), .one (.s (.flt .f32 q29))]).2 (expo (impTs 0 [.agg [.row 1 q00 (.fl .f32 q04), .row 1 q01 (.fl .f32 q05), .row 1 q02 (.fl .f32 q06), .row 3 q07 (.fl .f32 q09), .s (.int .i64 q0b), .s (.flt .f32 q0e), .s (.flt .f32 q0d)], .one (.s (.int .i64 i)), .one (.s (.flt .f32 q11)), .one (.s (.flt .f32 q29))]).2.length) = zcs q00 q04 q01 q05 q02 q06 q07 q09 q0b q0e q0d i q11 q29 (fun c0_ c1_ c2_ => some ((AV.tup [(TV.one (At.flt .f32 c0_)), (TV.one (At.flt .f32 c1_)), (TV.one (At.bool c2_))]), [])) := by kernel_rfl
theorem y26 : SumOne Try.prog 34 zqo := z16 (Γ := Γ14) (fuel := 8) (d := 8) tyTab_ok (FnL.ok fnTab_ok _ _) (LpL.ok zyp) (SumL.ok zx4 _) mixed (by
  intro pts v news hp hc
  clear hc
  unfold zqo at hp
  split at hp
  · rename_i q00 q04 q01 q05 q02 q06 q07 q09 q0b q0e q0d i q11 q29
    exact Eq.trans (Eq.trans (y5p q00 q04 q01 q05 q02 q06 q07 q09 q0b q0e q0d i q11 q29) (y0j (zvz q00 q04 q01 q05 q02 q06 q07 q09 q0b q0e q0d i q11 q29) rfl q00 q04 q01 q05 q02 q06 q07 q09 q0b q0e q0d i q11 q29 (fun c0_ c1_ c2_ => some (c0_, c1_, c2_)))) (z0y (o := (zvz q00 q04 q01 q05 q02 q06 q07 q09 q0b q0e q0d i q11 q29)) (x := z94 q00 q04 q01 q05 q02 q06 q07 q09 q0b q0e q0d i q11 q29) (d := default) (V := fun r => ((AV.tup [(TV.one (At.flt .f32 r.1)), (TV.one (At.flt .f32 r.2.1)), (TV.one (At.bool r.2.2))]), [])) (fun r => rfl) hp)
  · cases hp)
noncomputable def zq7 : List PT → Option (Bool × AV × List Blk)
  | [.agg [.row 1 q00 (.fl .f32 q04), .row 1 q01 (.fl .f32 q05), .row 1 q02 (.fl .f32 q06), .row 3 q07 (.fl .f32 q09), .s (.int .i64 q0b), .s (.flt .f32 q0e), .s (.flt .f32 q0d)], .one (.s (.flt .f32 q3r)), .one (.s (.flt .f32 q3k))] => some ((zhx q00 q04 q01 q05 q02 q06 q07 q09 q0b q0e q0d q3r q3k), ((AV.tup [(TV.one (At.flt .f32 (zes q00 q04 q01 q05 q02 q06 q07 q09 q0b q0e q0d q3r q3k))), (TV.one (At.bool (zf6 q00 q04 q01 q05 q02 q06 q07 q09 q0b q0e q0d q3r q3k)))]), []))
  | _ => none
def zw7 (q00 : Nat) (q04 : List Nat) (q01 : Nat) (q05 : List Nat) (q02 : Nat) (q06 : List Nat) (q07 : Nat) (q09 : List Nat) (q0b : Int) (q0e : Nat) (q0d : Nat) (q3r : Nat) (q3k : Nat) : Option (Nat × Bool) → Option (AV × List Blk)
  | some r => some ((AV.tup [(TV.one (At.flt .f32 r.1)), (TV.one (At.bool r.2))]), [])
  | none => none
theorem y6l (q00 : Nat) (q04 : List Nat) (q01 : Nat) (q05 : List Nat) (q02 : Nat) (q06 : List Nat) (q07 : Nat) (q09 : List Nat) (q0b : Int) (q0e : Nat) (q0d : Nat) (q3r : Nat) (q3k : Nat) : evFn Γ14 8 8 35 (impTs 0 [.agg [.row 1 q00 (.fl .f32 q04), .row 1 q01 (.fl .f32 q05), .row 1 q02 (.fl .f32 q06), .row 3 q07 (.fl .f32 q09), .s (.int .i64 q0b), .s (.flt .f32 q0e), .s (.flt .f32 q0d)], .one (.s (.flt .f32 q3r)), .one (.s (.flt .f32 q3k))]).1 (impTs 0 [.agg [.row 1 q00 (.fl .f32 q04), .row 1 q01 (.fl .f32 q05), .row 1 q02 (.fl .f32 q06), .row 3 q07 (.fl .f32 q09), .s (.int .i64 q0b), .s (.flt .f32 q0e), .s (.flt .f32 q0d)], .one (.s (.flt .f32 q3r)), .one (.s (.flt .f32 q3k))]).2 (expo (impTs 0 [.agg [.row 1 q00 (.fl .f32 q04), .row 1 q01 (.fl .f32 q05), .row 1 q02 (.fl .f32 q06), .row 3 q07 (.fl .f32 q09), .s (.int .i64 q0b), .s (.flt .f32 q0e), .s (.flt .f32 q0d)], .one (.s (.flt .f32 q3r)), .one (.s (.flt .f32 q3k))]).2.length) = zd3 q00 q04 q01 q05 q02 q06 q07 q09 q0b q0e q0d q3r q3k (fun c0_ c1_ => some ((AV.tup [(TV.one (At.flt .f32 c0_)), (TV.one (At.bool c1_))]), [])) := by kernel_rfl
theorem y1t : SumOne Try.prog 35 zq7 := z16 (Γ := Γ14) (fuel := 8) (d := 8) tyTab_ok (FnL.ok fnTab_ok _ _) (LpL.ok zyp) (SumL.ok zx4 _) mixed (by
  intro pts v news hp hc
  clear hc
  unfold zq7 at hp
  split at hp
  · rename_i q00 q04 q01 q05 q02 q06 q07 q09 q0b q0e q0d q3r q3k
    exact Eq.trans (Eq.trans (y6l q00 q04 q01 q05 q02 q06 q07 q09 q0b q0e q0d q3r q3k) (y0u (zw7 q00 q04 q01 q05 q02 q06 q07 q09 q0b q0e q0d q3r q3k) rfl q00 q04 q01 q05 q02 q06 q07 q09 q0b q0e q0d q3r q3k (fun c0_ c1_ => some (c0_, c1_)))) (z0y (o := (zw7 q00 q04 q01 q05 q02 q06 q07 q09 q0b q0e q0d q3r q3k)) (x := z8g q00 q04 q01 q05 q02 q06 q07 q09 q0b q0e q0d q3r q3k) (d := default) (V := fun r => ((AV.tup [(TV.one (At.flt .f32 r.1)), (TV.one (At.bool r.2))]), [])) (fun r => rfl) hp)
  · cases hp)
noncomputable def tb15 : List (Nat × (List PT → Option (Bool × AV × List Blk))) := (31, znp) :: (32, znv) :: (34, zqo) :: (35, zq7) :: tb14
noncomputable def lt15 : List ((Nat × Nat) × (Nat → St → Option (Bool × LO))) := lt14
noncomputable def Γ15 : Ctx := ⟨tyTab, fnTab, tblSum tb15, tblLp lt15⟩
theorem y35 : SumL Try.prog tb15 := SumL.cons zzl (SumL.cons zzb (SumL.cons y26 (SumL.cons y1t (zx4))))
theorem y33 : LpL Try.prog fnTab lt15 := zyp
noncomputable def zny : List PT → Option (Bool × AV × List Blk)
  | [.agg [.row 1 q00 (.fl .f32 q04), .row 1 q01 (.fl .f32 q05), .row 1 q02 (.fl .f32 q06), .row 3 q07 (.fl .f32 q09), .s (.int .i64 q0b), .s (.flt .f32 q0e), .s (.flt .f32 q0d)], .one (.s (.int .i64 i)), .agg [.s (.flt .f32 q1j), .s (.flt .f32 q1x), .s (.flt .f32 q1w)]] => some ((zja q00 q04 q01 q05 q02 q06 q07 q09 q0b q0e q0d i q1j q1x q1w), ((AV.tup [(TV.agg [(At.sl 0 0 (zi6 q00 q04 q01 q05 q02 q06 q07 q09 q0b q0e q0d i q1j q1x q1w) 1), (At.sl 1 0 (zhm q00 q04 q01 q05 q02 q06 q07 q09 q0b q0e q0d i q1j q1x q1w) 1), (At.sl 2 0 (zhc q00 q04 q01 q05 q02 q06 q07 q09 q0b q0e q0d i q1j q1x q1w) 1), (At.sl 3 0 (zhg q00 q04 q01 q05 q02 q06 q07 q09 q0b q0e q0d i q1j q1x q1w) 3), (At.int .i64 (zh6 q00 q04 q01 q05 q02 q06 q07 q09 q0b q0e q0d i q1j q1x q1w)), (At.flt .f32 (zgo q00 q04 q01 q05 q02 q06 q07 q09 q0b q0e q0d i q1j q1x q1w)), (At.flt .f32 (zhw q00 q04 q01 q05 q02 q06 q07 q09 q0b q0e q0d i q1j q1x q1w))]), (TV.one (At.bool (zi8 q00 q04 q01 q05 q02 q06 q07 q09 q0b q0e q0d i q1j q1x q1w)))]), [(Blk.mk Bool.true (Body.fl .f32 (zhd q00 q04 q01 q05 q02 q06 q07 q09 q0b q0e q0d i q1j q1x q1w))), (Blk.mk Bool.true (Body.fl .f32 (zh1 q00 q04 q01 q05 q02 q06 q07 q09 q0b q0e q0d i q1j q1x q1w))), (Blk.mk Bool.true (Body.fl .f32 (zfg q00 q04 q01 q05 q02 q06 q07 q09 q0b q0e q0d i q1j q1x q1w))), (Blk.mk Bool.true (Body.fl .f32 (zfe q00 q04 q01 q05 q02 q06 q07 q09 q0b q0e q0d i q1j q1x q1w)))]))
  | _ => none
def zt1 (q00 : Nat) (q04 : List Nat) (q01 : Nat) (q05 : List Nat) (q02 : Nat) (q06 : List Nat) (q07 : Nat) (q09 : List Nat) (q0b : Int) (q0e : Nat) (q0d : Nat) (i : Int) (q1j : Nat) (q1x : Nat) (q1w : Nat) : Option (Nat × Nat × Nat × Nat × Int × Nat × Nat × Bool × (List Nat) × (List Nat) × (List Nat) × (List Nat)) → Option (AV × List Blk)
  | some r => some ((AV.tup [(TV.agg [(At.sl 0 0 r.1 1), (At.sl 1 0 r.2.1 1), (At.sl 2 0 r.2.2.1 1), (At.sl 3 0 r.2.2.2.1 3), (At.int .i64 r.2.2.2.2.1), (At.flt .f32 r.2.2.2.2.2.1), (At.flt .f32 r.2.2.2.2.2.2.1)]), (TV.one (At.bool r.2.2.2.2.2.2.2.1))]), [(Blk.mk Bool.true (Body.fl .f32 r.2.2.2.2.2.2.2.2.1)), (Blk.mk Bool.true (Body.fl .f32 r.2.2.2.2.2.2.2.2.2.1)), (Blk.mk Bool.true (Body.fl .f32 r.2.2.2.2.2.2.2.2.2.2.1)), (Blk.mk Bool.true (Body.fl .f32 r.2.2.2.2.2.2.2.2.2.2.2))])
  | none => none
theorem y3k (q00 : Nat) (q04 : List Nat) (q01 : Nat) (q05 : List Nat) (q02 : Nat) (q06 : List Nat) (q07 : Nat) (q09 : List Nat) (q0b : Int) (q0e : Nat) (q0d : Nat) (i : Int) (q1j : Nat) (q1x : Nat) (q1w : Nat) : evFn Γ15 8 8 40 (impTs 0 [.agg [.row 1 q00 (.fl .f32 q04), .row 1 q01 (.fl .f32 q05), .row 1 q02 (.fl .f32 q06), .row 3 q07 (.fl .f32 q09), .s (.int .i64 q0b), .s (.flt .f32 q0e), .s (.flt .f32 q0d)], .one (.s (.int .i64 i)), .agg [.s (.flt .f32 q1j), .s (.flt .f32 q1x), .s (.flt .f32 q1w)]]).1 (impTs 0 [.agg [.row 1 q00 (.fl .f32 q04), .row 1 q01 (.fl .f32 q05), .row 1 q02 (.fl .f32 q06), .row 3 q07 (.fl .f32 q09), .s (.int .i64 q0b), .s (.flt .f32 q0e), .s (.flt .f32 q0d)], .one (.s (.int .i64 i)), .agg [.s (.flt .f32 q1j), .s (.flt .f32 q1x), .s (.flt .f32 q1w)]]).2 (expo (impTs 0 [.agg [.row 1 q00 (.fl .f32 q04), .row 1 q01 (.fl .f32 q05), .row 1 q02 (.fl .f32 q06), .row 3 q07 (.fl .f32 q09), .s (.int .i64 q0b), .s (.flt .f32 q0e), .s (.flt .f32 q0d)], .one (.s (.int .i64 i)), .agg [.s (.flt .f32 q1j), .s (.flt .f32 q1x), .s (.flt .f32 q1w)]]).2.length) = zar q00 q04 q01 q05 q02 q06 q07 q09 q0b q0e q0d i q1j q1x q1w (fun c0_ c1_ c2_ c3_ c4_ c5_ c6_ c7_ c8_ c9_ c10_ c11_ => some ((AV.tup [(TV.agg [(At.sl 0 0 c0_ 1), (At.sl 1 0 c1_ 1), (At.sl 2 0 c2_ 1), (At.sl 3 0 c3_ 3), (At.int .i64 c4_), (At.flt .f32 c5_), (At.flt .f32 c6_)]), (TV.one (At.bool c7_))]), [(Blk.mk Bool.true (Body.fl .f32 c8_)), (Blk.mk Bool.true (Body.fl .f32 c9_)), (Blk.mk Bool.true (Body.fl .f32 c10_)), (Blk.mk Bool.true (Body.fl .f32 c11_))])) := by kernel_rfl
theorem zzc : SumOne Try.prog 40 zny := z16 (Γ := Γ15) (fuel := 8) (d := 8) tyTab_ok (FnL.ok fnTab_ok _ _) (LpL.ok y33) (SumL.ok y35 _) mixed (by
  intro pts v news hp hc
  clear hc
  unfold zny at hp
  split at hp
  · rename_i q00 q04 q01 q05 q02 q06 q07 q09 q0b q0e q0d i q1j q1x q1w
    exact Eq.trans (Eq.trans (y3k q00 q04 q01 q05 q02 q06 q07 q09 q0b q0e q0d i q1j q1x q1w) (zxd (zt1 q00 q04 q01 q05 q02 q06 q07 q09 q0b q0e q0d i q1j q1x q1w) rfl q00 q04 q01 q05 q02 q06 q07 q09 q0b q0e q0d i q1j q1x q1w (fun c0_ c1_ c2_ c3_ c4_ c5_ c6_ c7_ c8_ c9_ c10_ c11_ => some (c0_, c1_, c2_, c3_, c4_, c5_, c6_, c7_, c8_, c9_, c10_, c11_)))) (z0y (o := (zt1 q00 q04 q01 q05 q02 q06 q07 q09 q0b q0e q0d i q1j q1x q1w)) (x := z1w q00 q04 q01 q05 q02 q06 q07 q09 q0b q0e q0d i q1j q1x q1w) (d := default) (V := fun r => ((AV.tup [(TV.agg [(At.sl 0 0 r.1 1), (At.sl 1 0 r.2.1 1), (At.sl 2 0 r.2.2.1 1), (At.sl 3 0 r.2.2.2.1 3), (At.int .i64 r.2.2.2.2.1), (At.flt .f32 r.2.2.2.2.2.1), (At.flt .f32 r.2.2.2.2.2.2.1)]), (TV.one (At.bool r.2.2.2.2.2.2.2.1))]), [(Blk.mk Bool.true (Body.fl .f32 r.2.2.2.2.2.2.2.2.1)), (Blk.mk Bool.true (Body.fl .f32 r.2.2.2.2.2.2.2.2.2.1)), (Blk.mk Bool.true (Body.fl .f32 r.2.2.2.2.2.2.2.2.2.2.1)), (Blk.mk Bool.true (Body.fl .f32 r.2.2.2.2.2.2.2.2.2.2.2))])) (fun r => rfl) hp)
  · cases hp)
noncomputable def zdb (b0 : List Int) (q1q : Int) (q1p : Nat) (q1o : Nat) (q0g : Nat) (q0l : Int) (q0m : Int) (q1b : Int) (q1a : Nat) (q1c : Nat) (b4 : List Nat) (b5 : List Nat) (b6 : List Nat) : Bool × LO := ((z2o b0 q0g q0l q0m), (LO.one Ex.ret (St.mk [(2, (AV.v (TV.one (At.int .i64 (z28 b0 q0g q0l q0m)))))] [(Blk.mk Bool.false (Body.il .u8 b0)), (Blk.mk Bool.true (Body.cells [At.nilsl, At.nilsl, At.nilsl, At.nilsl, (At.int .i64 q1q), (At.flt .f32 q1p), (At.flt .f32 q1o)])), (Blk.mk Bool.true (Body.cells [(At.vw 0 0 q0g 1), (At.int .i64 (z25 b0 q0g q0l q0m)), (At.int .u64 (z24 b0 q0g q0l q0m))])), (Blk.mk Bool.true (Body.cells [At.nilsl, At.nilsl, At.nilsl, At.nilsl, (At.int .i64 q1b), (At.flt .f32 q1a), (At.flt .f32 q1c)])), (Blk.mk Bool.true (Body.fl .f32 b4)), (Blk.mk Bool.true (Body.fl .f32 b5)), (Blk.mk Bool.true (Body.fl .f32 b6))])))
noncomputable def zf8 : Nat → St → Option (Bool × LO) := lpT 7 (pSt [(pTm 0 (pV (pOne (pPtr 2 (liN 0) 3))))] [(pBlk Bool.false (pIl .u8)), (pBlk Bool.true (pCells [pNil, pNil, pNil, pNil, (pInt .i64), (pFlt .f32), (pFlt .f32)])), (pBlk Bool.true (pCells [(pVw 0 (liN 0) 1), (pInt .i64), (pInt .u64)])), (pBlk Bool.true (pCells [pNil, pNil, pNil, pNil, (pInt .i64), (pFlt .f32), (pFlt .f32)])), (pBlk Bool.true (pFl .f32)), (pBlk Bool.true (pFl .f32)), (pBlk Bool.true (pFl .f32))]) (fun hs => zdb (hvLi (hGet hs 0)) (hvI (hGet hs 1)) (hvN (hGet hs 2)) (hvN (hGet hs 3)) (hvN (hGet hs 4)) (hvI (hGet hs 5)) (hvI (hGet hs 6)) (hvI (hGet hs 7)) (hvN (hGet hs 8)) (hvN (hGet hs 9)) (hvLn (hGet hs 10)) (hvLn (hGet hs 11)) (hvLn (hGet hs 12)))
def z9o (b0 : List Int) (q1q : Int) (q1p : Nat) (q1o : Nat) (q0g : Nat) (q0l : Int) (q0m : Int) (q1b : Int) (q1a : Nat) (q1c : Nat) (b4 : List Nat) (b5 : List Nat) (b6 : List Nat) : Option ((Int × Int × Int)) → Option (Ex × St)
  | none => none
  | some r => some (Ex.ret, (St.mk [(2, (AV.v (TV.one (At.int .i64 r.1))))] [(Blk.mk Bool.false (Body.il .u8 b0)), (Blk.mk Bool.true (Body.cells [At.nilsl, At.nilsl, At.nilsl, At.nilsl, (At.int .i64 q1q), (At.flt .f32 q1p), (At.flt .f32 q1o)])), (Blk.mk Bool.true (Body.cells [(At.vw 0 0 q0g 1), (At.int .i64 r.2.1), (At.int .u64 r.2.2)])), (Blk.mk Bool.true (Body.cells [At.nilsl, At.nilsl, At.nilsl, At.nilsl, (At.int .i64 q1b), (At.flt .f32 q1a), (At.flt .f32 q1c)])), (Blk.mk Bool.true (Body.fl .f32 b4)), (Blk.mk Bool.true (Body.fl .f32 b5)), (Blk.mk Bool.true (Body.fl .f32 b6))]))
def zok (b0 : List Int) (q1q : Int) (q1p : Nat) (q1o : Nat) (q0g : Nat) (q0l : Int) (q0m : Int) (q1b : Int) (q1a : Nat) (q1c : Nat) (b4 : List Nat) (b5 : List Nat) (b6 : List Nat) (x : Option ((Int × Int × Int))) : LO := (LO.one Ex.ret (St.mk [(2, (AV.v (TV.one (At.int .i64 (x.getD default).1))))] [(Blk.mk Bool.false (Body.il .u8 b0)), (Blk.mk Bool.true (Body.cells [At.nilsl, At.nilsl, At.nilsl, At.nilsl, (At.int .i64 q1q), (At.flt .f32 q1p), (At.flt .f32 q1o)])), (Blk.mk Bool.true (Body.cells [(At.vw 0 0 q0g 1), (At.int .i64 (x.getD default).2.1), (At.int .u64 (x.getD default).2.2)])), (Blk.mk Bool.true (Body.cells [At.nilsl, At.nilsl, At.nilsl, At.nilsl, (At.int .i64 q1b), (At.flt .f32 q1a), (At.flt .f32 q1c)])), (Blk.mk Bool.true (Body.fl .f32 b4)), (Blk.mk Bool.true (Body.fl .f32 b5)), (Blk.mk Bool.true (Body.fl .f32 b6))]))
theorem zpi (b0 : List Int) (q1q : Int) (q1p : Nat) (q1o : Nat) (q0g : Nat) (q0l : Int) (q0m : Int) (q1b : Int) (q1a : Nat) (q1c : Nat) (b4 : List Nat) (b5 : List Nat) (b6 : List Nat) : ∀ x : Option ((Int × Int × Int)), x.isSome = true → (z9o b0 q1q q1p q1o q0g q0l q0m q1b q1a q1c b4 b5 b6) x = some (pick (zok b0 q1q q1p q1o q0g q0l q0m q1b q1a q1c b4 b5 b6 x))
  | none, h => by cases h
  | some r, _ => rfl
end Go.Proofs.Ytdhmognknjpemaa
