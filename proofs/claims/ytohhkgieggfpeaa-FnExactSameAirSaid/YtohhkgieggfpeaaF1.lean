/-
  The evaluator answers what the model's runs come to: code.
-/
import Derived.Test.YtohhkgieggfpeaaD3
set_option linter.unusedVariables false
namespace Go.Rf
open Go

section
variable {β0 : Bm} {H0 : List Blk} {w0 : World} {β : Bm} {H : List Blk} {w : World} {P : Program} {Γ : Ctx}

/-! ### Code -/
theorem iter_sound {R : Type} {nt : Nat} {c : Code} {F : St → (Ex → St → Option R) → Option R} {r : R}
    (hF : ∀ (st : St) (k : Ex → St → Option R) (a : Act) (w : World), Rel β0 H0 w0 nt st a w → F st k = some r → c.wp P (KP β0 H0 w0 nt k r) a w) {k : Ex → St → Option R} :
    ∀ (n : Nat) {st : St} {a : Act} {w : World}, Rel β0 H0 w0 nt st a w → iter F n st k = some r → Code.rounds P c (KP β0 H0 w0 nt k r) n a w
  | 0, st, a, w, hR, h => by cases h
  | n + 1, st, a, w, hR, h => by
    rw [rounds_succ]
    simp only [iter] at h
    refine wp_mono (hF st _ a w hR h) fun e a' w' hq => ?_
    cases e with
    | normal => obtain ⟨st', h1, h2⟩ := hq; exact iter_sound hF n h1 h2
    | exit id => exact hq
    | ret => exact hq
    | _ => exact hq.elim

theorem evC_sound {R : Type} (hT : chkTab P Γ.ty = true) {hd : FuncId → List AV → List Blk → (AV → List Blk → Option R) → Option R} (hH : HdOk P hd) (hS : SumOk P Γ) (hm : P.follows .mixedOrders = true) {nt : Nat} {live : List (Nat × List Nat)} {fuel : Nat} {r : R} :
    ∀ (c : Code) (hc : codeOk c = true) (st : St) (k : Ex → St → Option R) (a : Act) (w : World), Rel β0 H0 w0 nt st a w → evC Γ hd H0.length nt live fuel c st k = some r → c.wp P (KP β0 H0 w0 nt k r) a w := by
  intro c
  induction c with
  | skip => intro hc st k a w hR h; exact wp_skip ⟨st, hR, h⟩
  | region id ops draw =>
    intro hc st k a w hR h
    simp only [evC] at h
    have fin : ∀ (st' : St) (a' : Act) (w' : World), Rel β0 H0 w0 nt st' a' w' → k .normal (clean H0.length live id st') = some r → KP β0 H0 w0 nt k r .normal a' w' := fun st' a' w' h1 h2 => ⟨_, clean_sound h1 live id, h2⟩
    split at h
    · exact wp_region_list (evOps_sound hT hH hS fin ops.toList hR h)
    · simp only [codeOk] at hc
      split at hc
      · rename_i hs
        exact draw_sound hT hH hS hm (k := fun st' => k .normal (clean H0.length live id st')) hR hs hc h fin
      · cases hc
  | seq x y ihx ihy =>
    intro hc st k a w hR h
    simp only [evC] at h
    simp only [codeOk] at hc
    split at hc
    case h_2 => cases hc
    rename_i hcx
    refine wp_seq (wp_mono (ihx hcx st _ a w hR h) fun e a' w' hq => ?_)
    cases e with
    | normal => obtain ⟨st', h1, h2⟩ := hq; exact ihy hc st' k a' w' h1 h2
    | exit id => exact hq
    | ret => exact hq
    | _ => exact hq.elim
  | cond x y z ihy ihz =>
    intro hc st k a w hR h
    simp only [evC] at h
    simp only [codeOk] at hc
    split at hc
    case h_2 => cases hc
    rename_i hcy
    split at h
    · rename_i b hb
      obtain ⟨β, hI, hv, hs, hdf⟩ := id hR
      have e := opnd_rel hv x
      rw [hb] at e
      have e : a.eval x = .bool b := e
      refine wp_cond e ?_
      cases b
      · exact ihz hc st k a w hR h
      · exact ihy hcy st k a w hR h
    · cases h
  | block id x ih =>
    intro hc st k a w hR h
    simp only [evC] at h
    refine wp_block (wp_mono (ih hc st _ a w hR h) fun e a' w' hq => ?_)
    cases e with
    | normal => exact hq
    | exit id' =>
      obtain ⟨st', h1, h2⟩ := hq
      simp only at h2
      show (if id' = id then KP β0 H0 w0 nt k r .normal a' w' else KP β0 H0 w0 nt k r (.exit id') a' w')
      split at h2
      · rename_i hb
        rw [if_pos (beq_eq hb)]
        exact ⟨st', h1, h2⟩
      · rename_i hb
        rw [if_neg (fun e => by subst e; simp [Nat.beq_refl] at hb)]
        exact ⟨st', h1, h2⟩
    | ret => exact hq
    | _ => exact hq.elim
  | loop x ih =>
    intro hc st k a w hR h
    simp only [evC] at h
    exact wp_loop_rounds fuel (iter_sound (ih hc) fuel hR h)
  | exit id => intro hc st k a w hR h; exact wp_exit ⟨st, hR, h⟩
  | ret => intro hc st k a w hR h; exact wp_ret ⟨st, hR, h⟩
  | rangeFunc => intro hc st k a w hR h; cases h
  | scope => intro hc st k a w hR h; cases h
  | label => intro hc st k a w hR h; cases h
  | goto => intro hc st k a w hR h; cases h
  | refuse => intro hc st k a w hR h; cases h
end
end Go.Rf
