/-
  MirrorProfile: as a call.
-/
import Derived.Test.YthaiinndikpmcaaBestsMr6
set_option linter.unusedVariables false
set_option linter.unusedSimpArgs false
set_option maxRecDepth 100000
set_option maxHeartbeats 4000000
namespace Go.Proofs.Ythaiinndikpmcaa
open Go Go.RowKit Go.Rf
section
variable {An : Nat} {A : List Nat} {Ln : Nat} {L : List Nat} {Dn : Nat} {D : List Nat} {w : World} {vals : Array Value}

theorem pre_in (b : Bool) (hvp : vpP An A Ln L Dn D = true) (hb : vpV An A Ln L Dn D = b) {β0 : Bm} {w0 : World} {a : Act} {W : World} {Q : Exit → Act → World → Prop} (hR : Rel β0 (hI9 An A Ln L Dn D) w0 46 ⟨argTm 0 (impTs 0 (pts9 An A Ln L Dn D)).1, hI9 An A Ln L Dn D⟩ a W)
    (hret : b = false → ∀ a w, Rel β0 (hI9 An A Ln L Dn D) w0 46 (stR A L D) a w → Q .ret a w) {B T : Code}
    (hgo : b = true → ∀ a w, Rel β0 (hI9 An A Ln L Dn D) w0 46 (stN An A Ln L Dn D) a w → B.wpIn Fence.wide 3 Try.prog (Exit.then (T.wpIn Fence.wide 3 Try.prog Q) Q) a w) :
    (Code.seq x0 (.seq x1 (.seq x3 (.seq (.seq x4 B) T)))).wpIn Fence.wide 3 Try.prog Q a W := by
  have hE : evC (R := Ex × St) Γ26 (evFn Γ26 8 8) 9 3 46 lv9 [] 8 (.seq x0 (.seq x1 (.seq x3 x4))) ⟨argTm 0 (impTs 0 (pts9 An A Ln L Dn D)).1, hI9 An A Ln L Dn D⟩ (fun e st => some (e, st)) = some (if b then (.normal, stN An A Ln L Dn D) else (.ret, stR A L D)) := by
    refine (e_pre An A Ln L Dn D).trans ?_
    rw [show z1t An (pF A 0 (muN An 1)) Ln (pF L 0 (muN Ln 1)) Dn (pF D 0 (muN Dn 1)) = true from hvp, show z18 An (pF A 0 (muN An 1)) Ln (pF L 0 (muN Ln 1)) Dn (pF D 0 (muN Dn 1)) = b from hb]
    cases b <;> rfl
  have hout : ∀ e a w, e ≠ .normal → KP β0 (hI9 An A Ln L Dn D) w0 46 (fun e st => some (e, st)) (if b then (Ex.normal, stN An A Ln L Dn D) else (Ex.ret, stR A L D)) e a w → Q e a w := by
    intro e a w he hq
    cases e with
    | normal => exact absurd rfl he
    | ret =>
      obtain ⟨st, g1, g2⟩ := hq
      cases b with
      | true => cases g2
      | false => cases g2; exact hret rfl _ _ g1
    | exit id =>
      obtain ⟨st, g1, g2⟩ := hq
      cases b <;> cases g2
    | goto l => exact hq.elim
    | panic ch => exact hq.elim
    | outgrown => exact hq.elim
  refine piece tyTab_ok hHd (SumL.ok tb26_ok _) mixed rfl (by kernel_rfl) (by kernel_rfl) hR hE hout fun st1 a1 w1 g1 e1 => ?_
  refine piece tyTab_ok hHd (SumL.ok tb26_ok _) mixed rfl (by kernel_rfl) (by kernel_rfl) g1 e1 hout fun st2 a2 w2 g2 e2 => ?_
  refine piece tyTab_ok hHd (SumL.ok tb26_ok _) mixed rfl (by kernel_rfl) (by kernel_rfl) g2 e2 hout fun st3 a3 w3 g3 e3 => ?_
  have hl4 : loopsIn x4 = [] := by kernel_rfl
  refine wpIn_seq (wpIn_seq (Go.wpIn_mono (wpIn_wide.2 (evC_sound tyTab_ok hHd (SumL.ok tb26_ok _) mixed x4 (fun c' h' => by rw [hl4] at h'; cases h') (by kernel_rfl) st3 _ a3 w3 g3 e3)) fun e a4 w4 hq => ?_))
  cases e with
  | normal =>
    obtain ⟨st4, g4, e4⟩ := hq
    cases b with
    | true => cases e4; exact hgo rfl _ _ g4
    | false => cases e4
  | ret => exact hout .ret _ _ (by simp) hq
  | exit id => exact hout (.exit id) _ _ (by simp) hq
  | goto l => exact hq.elim
  | panic ch => exact hq.elim
  | outgrown => exact hq.elim
theorem mirror_call (b : Bool) (hvp : vpP An A Ln L Dn D = true) (hb : vpV An A Ln L Dn D = b) (hok : b = true → 0 < An ∧ An ≤ 24 ∧ An ≤ Ln ∧ An ≤ Dn) (hv : All2 (DT w) (pts9 An A Ln L Dn D) vals.toList) : CallRes Try.prog 9 vals w fun u w' => Post9 A L D w b An u w' := by
  obtain ⟨⟨fn, h1, h2, h3, h4, h5⟩, _⟩ := fi9_ok
  right
  refine ⟨?_, ?_⟩
  · have h5' : fn.name ≠ "runtime.NumGoroutine" := by simpa using h5
    simp [callFunc, h1, h5', h2]
  · have hw : WR NoB [] w := ⟨(fun t b hb => by cases t <;> cases hb), (fun t t' b b' x x' _ hb => by cases t <;> cases hb)⟩
    have hf0 : Foreign [] := fun t b hb => by cases t <;> cases hb
    have hAl : A.length = An := by
      cases hvs : vals.toList with
      | nil => rw [hvs] at hv; cases hv
      | cons u r =>
        rw [hvs] at hv
        cases hv with
        | cons g1 g2 =>
          obtain ⟨arr, _, hall⟩ := g1
          cases ha : arr.toList with
          | nil => rw [ha] at hall; cases hall
          | cons u' r' => rw [ha] at hall; cases hall with | cons k1 k2 => exact row_len k1
    obtain ⟨β, a1, a2, a3, a4⟩ := impTs_sound hw hf0 hv
    simp only [List.length_nil, List.nil_append] at a1 a2 a4
    have hn : Try.f9.ntmps = 46 := by kernel_rfl
    have hst := rel_start (nt := 46) a1 a4 (show 1 ≤ 46 by omega)
    refine (callsIn_wide.1 (callsIn_of_wp_marks (F := Fence.wide) (n := 3) (R := fun e w' => ∃ u, e = .returned u ∧ Post9 A L D w b An u w') Try.func9 body9 trivial ?_))
    rw [hn]
    refine pre_in b hvp hb hst (fun e a' w' hR => ?_) (fun e a' w' hR => ?_)
    · subst e; exact ret_in rfl a2 hR
    · subst e
      obtain ⟨o1, o2, o3, o4⟩ := hok rfl
      obtain ⟨β', hI, _⟩ := id hR
      exact loop_in hI.fr.size o1 o2 o3 o4 hAl a2 hR
end
end Go.Proofs.Ythaiinndikpmcaa
