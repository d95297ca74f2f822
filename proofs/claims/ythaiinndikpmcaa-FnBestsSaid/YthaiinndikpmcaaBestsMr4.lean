/-
  MirrorProfile: a round, and what it comes to.
-/
import Derived.Test.YthaiinndikpmcaaBestsMr3
set_option linter.unusedVariables false
set_option linter.unusedSimpArgs false
set_option maxRecDepth 100000
set_option maxHeartbeats 4000000
namespace Go.Proofs.Ythaiinndikpmcaa
open Go Go.RowKit Go.Rf
section
variable {An : Nat} {A : List Nat} {Ln : Nat} {L : List Nat} {Dn : Nat} {D : List Nat} {β0 : Bm} {H0 : List Blk} {w0 : World}

abbrev Gx (A : List Nat) (An : Nat) (x : Nat × Nat) : Prop := x.1 < An ∧ wfW .f32 x.2 ∧ cn .f32 x.2 = A.getD x.1 0
abbrev El (A : List Nat) (An : Nat) := { x : Nat × Nat // Gx A An x }
def asOf (pre : List (El A An)) : List Nat := pre.map fun x => fneg .f32 (A.getD x.1.1 0)
def lsOf (L : List Nat) (pre : List (El A An)) : List Nat := pre.map fun x => fneg .f32 (L.getD x.1.1 0)
def dsOf (D : List Nat) (pre : List (El A An)) : List Nat := pre.map fun x => D.getD x.1.1 0
noncomputable def hP (Ln : Nat) (L : List Nat) (Dn : Nat) (D : List Nat) (pre : List (El A An)) : List Blk := hB An A Ln L Dn D pre.length (asOf pre) (lsOf L pre) (dsOf D pre)
def Im (Ln : Nat) (L : List Nat) (Dn : Nat) (D : List Nat) (β0 : Bm) (H0 : List Blk) (w0 : World) (t : Array Value) (n4 bs bA : Nat) (pre : List (El A An)) (W : World) : Prop :=
  n4 ≤ W.heap.size ∧ ∃ β, Inv β0 H0 w0 β (hP Ln L Dn D pre) W ∧ RTm β (hP Ln L Dn D pre) Ptm t ∧ ¬ OwnB β (hP Ln L Dn D pre) bs ∧ ¬ OwnB β (hP Ln L Dn D pre) bA
theorem Im_own {t : Array Value} {n4 bs bA : Nat} (hw : w0.heap.size ≤ n4) : OwnFrom n4 (Im (A := A) (An := An) Ln L Dn D β0 H0 w0 t n4 bs bA) := fun s W W' row ⟨hs, β, h1, h2, h3, h4⟩ hg hr =>
  ⟨Nat.le_trans hs hg.size, β, h1.grown hg (fun r e => ⟨Nat.le_trans hw (hr r e).1, (hr r e).2⟩), h2, h3, h4⟩
noncomputable def a1 (t : Array Value) (x : El A An) : Act := { tmps := (((t.setIfInBounds 15 (.int .i64 (x.1.1 : Int))).setIfInBounds 16 (.float .f32 x.1.2)).setIfInBounds 5 (.int .i64 (x.1.1 : Int))).setIfInBounds 6 (.float .f32 x.1.2), defers := [] }

theorem hHd : HdOk (R := Ex × St) Try.prog (evFn Γ26 8 8) := evFn_sound tyTab_ok (FnL.ok fnTab_ok _ _) (LpL.ok lt26_ok) (SumL.ok tb26_ok _) mixed 8
theorem round_in {l n : Nat} (h0 : H0.length = 3) {t : Array Value} {n4 bs bA : Nat} (hsz : t.size = 46) (h24 : An ≤ 24) (hL : An ≤ Ln) (hD : An ≤ Dn) (hbs : bs < n4) (hbA : bA < n4) (pre : List (El A An)) (x : El A An) (W : World) (hI : Im Ln L Dn D β0 H0 w0 t n4 bs bA pre W) (hlen : pre.length < An) :
    (Code.block 1 (.seq (.region 7 o7 false) (.region 8 o8 true))).wpIn (Fence.wide.inRound l) n Try.prog (ownPostG n4 (Kept2 bs bA) (Im Ln L Dn D β0 H0 w0 t n4 bs bA) (fun _ _ _ => False) (pre ++ [x]) W) (a1 t x) W := by
  obtain ⟨hs, β, h1, h2, h3, h4⟩ := hI
  refine wpIn_block ?_
  have hx := x.2
  have r1 := rtm_skip (rtm_skip h2 (d := 15) rfl (.int .i64 (x.1.1 : Int))) (d := 16) rfl (.float .f32 x.1.2)
  have r2 := rtm_cons (d := 5) (v := .v (.one (.int .i64 (x.1.1 : Int)))) (u := .int .i64 (x.1.1 : Int)) r1 (by rfl) (by simp [hsz])
  have r3 := rtm_cons (d := 6) (v := .v (.one (.flt .f32 (A.getD x.1.1 0)))) (u := .float .f32 x.1.2) r2 ⟨x.1.2, rfl, hx.2.1, hx.2.2⟩ (by simp [hsz])
  have hR : Rel β (hP Ln L Dn D pre) W 46 ⟨(6, .v (.one (.flt .f32 (A.getD x.1.1 0)))) :: (5, .v (.one (.int .i64 (x.1.1 : Int)))) :: Ptm, hP Ln L Dn D pre⟩ (a1 t x) W := ⟨β, Inv.start h1.wr, r3, by simp [a1, hsz], rfl⟩
  have q1 : okA2 pre.length 1 4 (nF (pF [fneg .f32 (A.getD x.1.1 0)] 0 (muN 1 1))) (nF (asOf pre)) 1 = true := decide_eq_true ⟨by omega, by omega, rfl, by simp [asOf]⟩
  have q2 : okA2 pre.length 1 4 (nF (pF [fneg .f32 (gF L (ixO 0 (x.1.1 : Int) 1))] 0 (muN 1 1))) (nF (lsOf L pre)) 1 = true := decide_eq_true ⟨by omega, by omega, rfl, by simp [lsOf]⟩
  have q3 : okA2 pre.length 1 4 (nF (pF [gF D (ixO 0 (x.1.1 : Int) 1)] 0 (muN 1 1))) (nF (dsOf D pre)) 1 = true := decide_eq_true ⟨by omega, by omega, rfl, by simp [dsOf]⟩
  have q4 : okIx (x.1.1 : Int) Ln = true := decide_eq_true ⟨by omega, by omega⟩
  have q5 : okIx (x.1.1 : Int) Dn = true := decide_eq_true ⟨by omega, by omega⟩
  have hx1 : ixO 0 (x.1.1 : Int) 1 = x.1.1 := by
    show 0 + (Int.toNat (x.1.1 : Int)) * 1 = x.1.1
    simp
  have he := e_body An A Ln L Dn D pre.length (asOf pre) (lsOf L pre) (dsOf D pre) (x.1.1 : Int) (A.getD x.1.1 0)
  rw [q1, q2, q3, q4, q5, hx1] at he
  have eA : asOf pre ++ [fneg .f32 (A.getD x.1.1 0)] = asOf (pre ++ [x]) := by simp [asOf]
  have eL : lsOf L pre ++ [fneg .f32 (L.getD x.1.1 0)] = lsOf L (pre ++ [x]) := by simp [lsOf]
  have eD : dsOf D pre ++ [D.getD x.1.1 0] = dsOf D (pre ++ [x]) := by simp [dsOf]
  have he' : evC (R := Ex × St) Γ26 (evFn Γ26 8 8) 9 12 46 lvB [] 8 (.seq (.region 7 o7 false) (.region 8 o8 true)) ⟨(6, .v (.one (.flt .f32 (A.getD x.1.1 0)))) :: (5, .v (.one (.int .i64 (x.1.1 : Int)))) :: Ptm, hP Ln L Dn D pre⟩ (fun e st => some (e, st)) =
      some (.normal, ⟨Ptm, hB2 An A Ln L Dn D (pre.length + 1) (asOf pre) (lsOf L pre) (dsOf D pre) (asOf pre ++ [fneg .f32 (A.getD x.1.1 0)]) (lsOf L pre ++ [fneg .f32 (L.getD x.1.1 0)]) (dsOf D pre ++ [D.getD x.1.1 0])⟩) := he
  rw [eA, eL, eD] at he'
  refine two_in (H0 := hP Ln L Dn D pre) tyTab_ok hHd (SumL.ok tb26_ok _) mixed rfl (by kernel_rfl) (by kernel_rfl) (by kernel_rfl) (by kernel_rfl) hR he' fun a3 w3 g3 => ?_
  obtain ⟨β', j1, j2, _, _⟩ := g3
  have t1 := h1.trans j1
  obtain ⟨β'', c1, c2, c3⟩ := compact_own t1 Ptm
  have ec : compact H0.length Ptm (hB2 An A Ln L Dn D (pre.length + 1) (asOf pre) (lsOf L pre) (dsOf D pre) (asOf (pre ++ [x])) (lsOf L (pre ++ [x])) (dsOf D (pre ++ [x]))) = ⟨Ptm, hP Ln L Dn D (pre ++ [x])⟩ := by
    rw [h0, e_comp]; unfold hP; simp
  simp only [ec] at c1 c2 c3
  obtain ⟨k1, k2⟩ := j1.kept (Nat.lt_of_lt_of_le hbs hs) h3
  obtain ⟨k3, k4⟩ := j1.kept (Nat.lt_of_lt_of_le hbA hs) h4
  exact ⟨(j1.others h1.wr).from _, ⟨k1, k3⟩, Nat.le_trans hs j1.fr.size, β'', c1, fun d => c2 d _ ((h2 d).move fun u _ => j1.mv u), fun ho => k2 (c3 _ ho), fun ho => k4 (c3 _ ho)⟩
end
end Go.Proofs.Ythaiinndikpmcaa
