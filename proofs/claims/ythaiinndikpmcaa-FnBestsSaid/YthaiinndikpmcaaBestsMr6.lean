/-
  MirrorProfile: its calls.
-/
import Derived.Test.YthaiinndikpmcaaBestsMr5
set_option linter.unusedVariables false
set_option linter.unusedSimpArgs false
set_option maxRecDepth 100000
set_option maxHeartbeats 4000000
namespace Go.Proofs.Ythaiinndikpmcaa
open Go Go.RowKit Go.Rf
section
variable {An : Nat} {A : List Nat} {Ln : Nat} {L : List Nat} {Dn : Nat} {D : List Nat}

noncomputable abbrev vpP (An : Nat) (A : List Nat) (Ln : Nat) (L : List Nat) (Dn : Nat) (D : List Nat) : Bool := z1t An (pF A 0 (muN An 1)) Ln (pF L 0 (muN Ln 1)) Dn (pF D 0 (muN Dn 1))
noncomputable abbrev vpV (An : Nat) (A : List Nat) (Ln : Nat) (L : List Nat) (Dn : Nat) (D : List Nat) : Bool := z18 An (pF A 0 (muN An 1)) Ln (pF L 0 (muN Ln 1)) Dn (pF D 0 (muN Dn 1))
noncomputable abbrev hI9 (An : Nat) (A : List Nat) (Ln : Nat) (L : List Nat) (Dn : Nat) (D : List Nat) : List Blk := (impTs 0 (pts9 An A Ln L Dn D)).2
theorem row_len {w : World} {u : Value} (h : DA w (.row 1 An (.fl .f32 A)) u) : A.length = An := by
  have := h.2.1
  simpa [Body.size] using this
theorem loop_in {β0 : Bm} {w0 w4 : World} {a4 : Act} (hw0 : w0.heap.size ≤ w4.heap.size) (h0 : 0 < An) (h24 : An ≤ 24) (hL : An ≤ Ln) (hD : An ≤ Dn) (hAl : A.length = An) (hf : Foreign (hI9 An A Ln L Dn D)) (hR : Rel β0 (hI9 An A Ln L Dn D) w0 46 (stN An A Ln L Dn D) a4 w4) :
    (Code.block 0 (.rangeFunc (.tmp 14) #[15, 16] as9 (.block 1 (.seq (.region 7 o7 false) (.region 8 o8 true))))).wpIn Fence.wide 3 Try.prog
      (Exit.then ((Code.seq (.region 9 o9 false) .ret).wpIn Fence.wide 3 Try.prog (bodyPostM Fence.wide 3 Try.prog Try.f9 fun e w' => ∃ u, e = .returned u ∧ Post9 A L D w0 true An u w')) (bodyPostM Fence.wide 3 Try.prog Try.f9 fun e w' => ∃ u, e = .returned u ∧ Post9 A L D w0 true An u w')) a4 w4 := by
  have gd := denilL_sound hR [(0, (.fl .f32, 1))] 0
  rw [show denilL (hI9 An A Ln L Dn D).length [(0, (.fl .f32, 1))] 0 (stN An A Ln L Dn D) = _ from e_denil An A Ln L Dn D] at gd
  obtain ⟨β4, hI, hv4, hsz, hdf⟩ := gd
  generalize hH : hB An A Ln L Dn D 0 [] [] [] ++ [⟨true, .cells [.vw 0 0 An 1]⟩] = H at hI hv4
  have n12 : nth H 12 = some ⟨true, .cells [.vw 0 0 An 1]⟩ := by rw [← hH]; rfl
  have n0 : nth H 0 = some ⟨false, .fl .f32 A⟩ := by rw [← hH]; rfl
  obtain ⟨cs, hcs, hall⟩ : ∃ cs : Array Value, a4.tmps.getD 14 undef = .func (.func 51) #[] cs ∧ All2 (R0 β4 H) [.ptr 12 0 1] cs.toList := hv4 14
  obtain ⟨u, hcs2, ⟨bs, ob, C, b1, _, _, rfl⟩⟩ : ∃ u, cs = #[u] ∧ R0 β4 H (.ptr 12 0 1) u := by
    cases hc : cs.toList with
    | nil => rw [hc] at hall; cases hall
    | cons u r =>
      rw [hc] at hall
      cases hall with
      | cons h1 h2 =>
        cases h2
        exact ⟨u, by rw [← Array.toArray_toList (xs := cs), hc], h1⟩
  have B12 := hI.wr.blk 12 _ n12
  rw [b1] at B12
  simp only at B12
  obtain ⟨rfl, _, _⟩ := B12.own rfl
  obtain ⟨sv, s1, s2⟩ := B12.cell 0 (.vw 0 0 An 1) (by simp [Body.size]) rfl
  obtain ⟨ad, cap, rfl, hcap, hlt⟩ : ∃ a cap, sv = .slice a An cap ∧ An ≤ cap ∧ (0 < An → ∃ B o C, β4 0 = some (B, o, C) ∧ 0 < H.length ∧ 0 + An * 1 ≤ szH H 0 ∧ a = some ⟨B, o + 0, none⟩) := s2
  obtain ⟨bA, oA, CA, e1, _, _, rfl⟩ := hlt h0
  have B0 := hI.wr.blk 0 _ n0
  rw [e1] at B0
  simp only at B0
  have cells : ∀ j, j < An → ∃ bits, w4.cell? ⟨bA, oA + 0 + j, none⟩ = some (.float .f32 bits) ∧ wfW .f32 bits ∧ cn .f32 bits = A.getD j 0 := by
    intro j hj
    obtain ⟨v, g1, b, rfl, g2, g3⟩ := B0.cell j (.flt .f32 (A.getD j 0)) (by show j < A.length; omega) rfl
    exact ⟨b, g1, g2, g3⟩
  let f : Nat → El A An := fun j => if h : j < An then ⟨(j, (cells j h).choose), h, (cells j h).choose_spec.2⟩ else ⟨(0, (cells 0 h0).choose), h0, (cells 0 h0).choose_spec.2⟩
  have hf1 : ∀ j, j < An → (f j).1.1 = j := fun j hj => by simp only [f, dif_pos hj]
  have hf2 : ∀ j, j < An → w4.cell? ⟨bA, oA + 0 + j, none⟩ = some (.float .f32 (f j).1.2) := fun j hj => by simp only [f, dif_pos hj]; exact (cells j hj).choose_spec.1
  -- the box is told no more
  have hdead := hI.dead n12
  have hmv := mv_set (β := β4) n12 (b' := ⟨false, .dead (Body.size (.cells [.vw 0 0 An 1]))⟩) (Nat.le_refl _)
  have hl12 : 12 < H.length := nth_lt n12
  obtain ⟨β5, c1, c2, c3⟩ := compact_own hdead Ptm
  have ec : compact (hI9 An A Ln L Dn D).length Ptm (setL H 12 ⟨false, .dead (Body.size (.cells [.vw 0 0 An 1]))⟩) = ⟨Ptm, hP (A := A) (An := An) Ln L Dn D []⟩ := by rw [← hH]; kernel_rfl
  simp only [ec] at c1 c2 c3
  have ownOf : ∀ B, OwnB β4 (setL H 12 ⟨false, .dead (Body.size (.cells [.vw 0 0 An 1]))⟩) B → ∃ t b o C, t ≠ 12 ∧ nth H t = some b ∧ b.own = true ∧ β4 t = some (B, o, C) := by
    rintro B ⟨t, b, o, C, q1, q2, q3⟩
    rw [nth_set _ _ _ _ hl12] at q1
    by_cases ht : t = 12
    · rw [if_pos ht] at q1; cases q1; cases q2
    · rw [if_neg ht] at q1; exact ⟨t, b, o, C, ht, q1, q2, q3⟩
  have nbs : ¬ OwnB β5 (hP (A := A) (An := An) Ln L Dn D []) bs := fun ho => by
    obtain ⟨t, b, o, C', q1, q2, q3, q4⟩ := ownOf _ (c3 _ ho)
    exact hI.wr.sep t 12 b _ _ _ q1 q2 n12 q3 rfl q4 b1 rfl
  have nbA : ¬ OwnB β5 (hP (A := A) (An := An) Ln L Dn D []) bA := fun ho => by
    obtain ⟨t, b, o, C', q1, q2, q3, q4⟩ := ownOf _ (c3 _ ho)
    have ht0 : t ≠ 0 := fun e => by subst e; rw [n0] at q2; cases q2; cases q3
    exact hI.wr.sep t 0 b _ _ _ ht0 q2 n0 q3 rfl q4 e1 rfl
  have hP0 : ∀ d, RV β4 H (get Ptm d) (a4.tmps.getD d undef) := fun d => by
    have := hv4 d
    by_cases hd : d = 14
    · subst hd; trivial
    · have eg : get (Ptm ++ [(14, AV.v (.one (.fn 51 [.ptr 12 0 1])))]) d = get Ptm d := by
        simp only [Ptm, List.cons_append, List.nil_append]
        simp only [look_put]
        have hd' : ¬ 14 = d := fun e => hd e.symm
        rw [if_neg hd']
      rw [eg] at this
      exact this
  have hIm0 : Im (A := A) (An := An) Ln L Dn D β0 (hI9 An A Ln L Dn D) w0 a4.tmps w4.heap.size bs bA [] w4 := ⟨Nat.le_refl _, β5, c1, fun d => c2 d _ ((hP0 d).move fun u _ => hmv u), nbs, nbA⟩
  refine wpIn_block ?_
  refine wpIn_rangeFunc_ownG rfl (by omega) (gf := 51) (lb := #[.pointer (some ⟨bs, 0 + 0, none⟩)]) (by show a4.tmps.getD 14 undef = _; rw [hcs, hcs2]) trivial (enters_of Try.func51 (by kernel_rfl) rfl)
    (back_stops Fence.wide (3 - 1) trivial rfl (by omega) bs bA (oA + 0) An cap h24 f hf1 w4 B12.lt B0.lt s1 hf2) (fun h k => h.trans k)
    (fun W l o o' hl h _ _ => ⟨World.putObj_heap_other (by have := B12.lt; omega), World.putObj_heap_other (by have := B0.lt; omega)⟩) (Below.refl _ _) (fun _ => rfl)
    (Im Ln L Dn D β0 (hI9 An A Ln L Dn D) w0 a4.tmps w4.heap.size bs bA) (fun _ _ _ => False) (Im_own hw0) (fun _ _ _ _ _ hs _ _ => hs) hIm0 (a1 a4.tmps) ?assign ?body ?done ?stop
  case assign => exact fun l x W K hK => assign_in hsz hK
  case body => exact fun l pre x W hI' hlen => round_in rfl hsz h24 hL hD B12.lt B0.lt pre x W hI' hlen
  case done =>
    rintro Dm xs W hDm rfl hI' hK
    show (Code.seq (.region 9 o9 false) .ret).wpIn _ _ _ _ _ _
    rw [hdf]
    have hxl : (backTo An f An).length = An := backTo_length An f An
    have hmap : ∀ {α : Type} (g : Nat → α), (backTo An f An).map (fun x => g x.1.1) = (List.range An).map fun j => g (An - 1 - j) := fun g => by
      unfold backTo
      rw [List.map_map]
      refine List.map_congr_left fun j hj => ?_
      rw [List.mem_range] at hj
      show g (f (An - 1 - j)).1.1 = _
      rw [hf1 _ (by omega)]
    exact post_in rfl hf hsz (Nat.le_trans hw0 hDm) hI' hK hxl (hmap fun i => fneg .f32 (A.getD i 0)) (hmap fun i => fneg .f32 (L.getD i 0)) (hmap fun i => D.getD i 0)
  case stop =>
    rintro Dm c pre W _ _ h _
    exact h.elim
end
end Go.Proofs.Ythaiinndikpmcaa
