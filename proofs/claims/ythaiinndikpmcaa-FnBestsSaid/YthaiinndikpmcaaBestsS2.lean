/-
  What functions answer: that the evaluator answers so. Printed by a program.
-/
import Derived.Test.YthaiinndikpmcaaBestsMr7
set_option linter.unusedVariables false
set_option linter.unusedSimpArgs false
set_option maxRecDepth 100000
set_option maxHeartbeats 4000000
namespace Go.Proofs.Ythaiinndikpmcaa
open Go Go.Rf
noncomputable def zax : List PT → Option (Bool × AV × List Blk)
  | [.agg [.row 1 an (.fl .f32 al), .row 1 ln (.fl .f32 ll), .row 1 dn (.fl .f32 dl)]] => some ((z7f an al ln ll dn dl), ((AV.tup [(TV.agg [(At.sl 0 0 (z24 an al ln ll dn dl) 1), (At.sl 1 0 (z29 an al ln ll dn dl) 1), (At.sl 2 0 (z23 an al ln ll dn dl) 1)]), (TV.one (At.bool (z6u an al ln ll dn dl)))]), [(Blk.mk Bool.true (Body.fl .f32 (z3v an al ln ll dn dl))), (Blk.mk Bool.true (Body.fl .f32 (z3t an al ln ll dn dl))), (Blk.mk Bool.true (Body.fl .f32 (z3u an al ln ll dn dl)))]))
  | _ => none
theorem zfr : SumOne Try.prog 9 zax := by
  intro pts v news hp w vals hv
  unfold zax at hp
  split at hp
  · rename_i an al ln ll dn dl
    simp only [Option.some.injEq, Prod.mk.injEq] at hp
    obtain ⟨hp1, rfl, rfl⟩ := hp
    obtain ⟨r, hr⟩ := Option.isSome_iff_exists.1 hp1
    obtain ⟨_, q0, q1, q2, q3, q4, q5, q6⟩ := zdc hr
    rw [q0, q1, q2, q3, q4, q5, q6]
    have hr' := hr
    unfold z1y at hr'
    obtain ⟨hvp, hr'⟩ := grd_inv hr'
    cases hb : z18 an (pF al 0 (muN an 1)) ln (pF ll 0 (muN ln 1)) dn (pF dl 0 (muN dn 1)) with
    | false =>
      rw [hb] at hr'
      cases hr'
      exact mirror_call (A := al) (L := ll) (D := dl) false hvp hb (fun h => by cases h) hv
    | true =>
      rw [hb] at hr'
      obtain ⟨hok, hr'⟩ := grd_inv (hr' : grd (okMir an ln dn) _ = _)
      cases hr'
      unfold okMir at hok
      simp only [Bool.and_eq_true, decide_eq_true_eq] at hok
      exact mirror_call (A := al) (L := ll) (D := dl) true hvp hb (fun _ => ⟨hok.1, hok.2.1, hok.2.2.1, hok.2.2.2⟩) hv
  · cases hp
noncomputable def tb27 : List (Nat × (List PT → Option (Bool × AV × List Blk))) := (9, zax) :: tb26
noncomputable def lt27 : List ((Nat × Nat) × (Nat → St → Option (Bool × LO))) := lt26
noncomputable def Γ27 : Ctx := ⟨tyTab, fnTab, tblSum tb27, tblLp lt27⟩
theorem tb27_ok : SumL Try.prog tb27 := SumL.cons zfr (tb26_ok)
theorem lt27_ok : LpL Try.prog fnTab lt27 := lt26_ok
noncomputable def zby : List PT → Option (Bool × AV × List Blk)
  | [.one (.row 1 q00 (.il .u8 q04)), .one (.row 1 q0q (.il .u8 x1))] => some ((laws_FnBests_p q00 q04 q0q x1), ((AV.v (TV.one (At.bool (laws_FnBests_v0 q00 q04 q0q x1)))), []))
  | _ => none
def zh4 (q00 : Nat) (q04 : List Int) (q0q : Nat) (x1 : List Int) : Option (Bool) → Option (AV × List Blk)
  | some r => some ((AV.v (TV.one (At.bool r))), [])
  | none => none
theorem zm4 (q00 : Nat) (q04 : List Int) (q0q : Nat) (x1 : List Int) : evFn Γ27 8 8 3 (impTs 0 [.one (.row 1 q00 (.il .u8 q04)), .one (.row 1 q0q (.il .u8 x1))]).1 (impTs 0 [.one (.row 1 q00 (.il .u8 q04)), .one (.row 1 q0q (.il .u8 x1))]).2 (expo (impTs 0 [.one (.row 1 q00 (.il .u8 q04)), .one (.row 1 q0q (.il .u8 x1))]).2.length) = z7q q00 q04 q0q x1 (fun c0_ => some ((AV.v (TV.one (At.bool c0_))), [])) := by kernel_rfl
theorem zez : SumOne Try.prog 3 zby := sum_of (Γ := Γ27) (fuel := 8) (d := 8) tyTab_ok (FnL.ok fnTab_ok _ _) (LpL.ok lt27_ok) (SumL.ok tb27_ok _) mixed (by
  intro pts v news hp hc
  clear hc
  unfold zby at hp
  split at hp
  · rename_i q00 q04 q0q x1
    exact Eq.trans (Eq.trans (zm4 q00 q04 q0q x1) (zji q00 q04 q0q x1 (zh4 q00 q04 q0q x1) rfl (fun c0_ => some c0_))) (fin_out (o := (zh4 q00 q04 q0q x1)) (x := z7r q00 q04 q0q x1) (d := default) (V := fun r => ((AV.v (TV.one (At.bool r))), [])) (fun r => rfl) hp)
  · cases hp)
noncomputable def tb28 : List (Nat × (List PT → Option (Bool × AV × List Blk))) := (3, zby) :: tb27
noncomputable def lt28 : List ((Nat × Nat) × (Nat → St → Option (Bool × LO))) := lt27
noncomputable def Γ28 : Ctx := ⟨tyTab, fnTab, tblSum tb28, tblLp lt28⟩
theorem tb28_ok : SumL Try.prog tb28 := SumL.cons zez (tb27_ok)
theorem lt28_ok : LpL Try.prog fnTab lt28 := lt27_ok
noncomputable def tb29 : List (Nat × (List PT → Option (Bool × AV × List Blk))) := tb28
noncomputable def lt29 : List ((Nat × Nat) × (Nat → St → Option (Bool × LO))) := lt28
noncomputable def Γ29 : Ctx := ⟨tyTab, fnTab, tblSum tb29, tblLp lt29⟩
theorem tb29_ok : SumL Try.prog tb29 := tb28_ok
theorem lt29_ok : LpL Try.prog fnTab lt29 := lt28_ok
noncomputable def tb30 : List (Nat × (List PT → Option (Bool × AV × List Blk))) := tb29
noncomputable def lt30 : List ((Nat × Nat) × (Nat → St → Option (Bool × LO))) := lt29
noncomputable def Γ30 : Ctx := ⟨tyTab, fnTab, tblSum tb30, tblLp lt30⟩
theorem tb30_ok : SumL Try.prog tb30 := tb29_ok
theorem lt30_ok : LpL Try.prog fnTab lt30 := lt29_ok
noncomputable def tb31 : List (Nat × (List PT → Option (Bool × AV × List Blk))) := tb30
noncomputable def lt31 : List ((Nat × Nat) × (Nat → St → Option (Bool × LO))) := lt30
noncomputable def Γ31 : Ctx := ⟨tyTab, fnTab, tblSum tb31, tblLp lt31⟩
theorem tb31_ok : SumL Try.prog tb31 := tb30_ok
theorem lt31_ok : LpL Try.prog fnTab lt31 := lt30_ok
noncomputable def tb32 : List (Nat × (List PT → Option (Bool × AV × List Blk))) := tb31
noncomputable def lt32 : List ((Nat × Nat) × (Nat → St → Option (Bool × LO))) := lt31
noncomputable def Γ32 : Ctx := ⟨tyTab, fnTab, tblSum tb32, tblLp lt32⟩
theorem tb32_ok : SumL Try.prog tb32 := tb31_ok
theorem lt32_ok : LpL Try.prog fnTab lt32 := lt31_ok
noncomputable def tb33 : List (Nat × (List PT → Option (Bool × AV × List Blk))) := tb32
noncomputable def lt33 : List ((Nat × Nat) × (Nat → St → Option (Bool × LO))) := lt32
noncomputable def Γ33 : Ctx := ⟨tyTab, fnTab, tblSum tb33, tblLp lt33⟩
theorem tb33_ok : SumL Try.prog tb33 := tb32_ok
theorem lt33_ok : LpL Try.prog fnTab lt33 := lt32_ok
end Go.Proofs.Ythaiinndikpmcaa
