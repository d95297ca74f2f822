/-
  What a piece of code keeps while it runs: the abstract memory and the world go together; the rest of the world is as it was. New blocks, stores.
-/
import Derived.Test.YtohhkgieggfpeaaQ3
set_option linter.unusedVariables false
namespace Go.Rf
open Go

structure Inv (β0 : Bm) (H0 : List Blk) (w0 : World) (β : Bm) (H : List Blk) (w : World) : Prop where
  wr : WR β H w
  agree : ∀ t x, t < H0.length → β0 t = some x → β t = some x
  ext : Ext H0 H
  own : ∀ B, OwnB β H B → OwnB β0 H0 B ∨ w0.heap.size ≤ B
  fr : Fr (OwnB β0 H0) w0 w

theorem Inv.start {β : Bm} {H : List Blk} {w : World} (h : WR β H w) : Inv β H w β H w :=
  ⟨h, fun _ _ _ h => h, Ext.refl H, fun B h => .inl h, Fr.refl _ w⟩

section
variable {β0 : Bm} {H0 : List Blk} {w0 : World} {β : Bm} {H : List Blk} {w w' : World}

theorem Inv.same (h : Inv β0 H0 w0 β H w) (hs : Same w w') : Inv β0 H0 w0 β H w' :=
  ⟨hs.wr h.wr, h.agree, h.ext, h.own, hs.fr h.fr⟩

def upd (β : Bm) (n : Nat) (x : Option (Nat × Nat × Nat)) : Bm := fun t => if t = n then x else β t
theorem upd_same (β : Bm) (n : Nat) (x) : upd β n x n = x := by simp [upd]
theorem upd_ne (β : Bm) {n t : Nat} (x) (h : t ≠ n) : upd β n x t = β t := by simp [upd, h]

theorem nth_lt {H : List Blk} {t : Nat} {b : Blk} (h : nth H t = some b) : t < H.length := by
  rw [nth_eq] at h
  exact (List.getElem?_eq_some_iff.1 h).1
theorem szH_of {H : List Blk} {t : Nat} {b : Blk} (h : nth H t = some b) : szH H t = b.body.size := by simp [szH, h]
theorem nth_set (H : List Blk) (t : Nat) (b : Blk) (u : Nat) (ht : t < H.length) : nth (setL H t b) u = if u = t then some b else nth H u := by
  rw [setL_eq, nth_eq, nth_eq]
  by_cases e : u = t
  · subst e; rw [if_pos rfl, List.getElem?_set_self ht]
  · rw [if_neg e, List.getElem?_set_ne (Ne.symm e)]
theorem length_set (H : List Blk) (t : Nat) (b : Blk) : (setL H t b).length = H.length := by rw [setL_eq]; simp
theorem szH_set (H : List Blk) (t : Nat) (b : Blk) (u : Nat) (ht : t < H.length) : szH (setL H t b) u = if u = t then b.body.size else szH H u := by
  unfold szH
  rw [nth_set H t b u ht]
  by_cases e : u = t
  · simp [e]
  · simp [e]

theorem WR.bl {β : Bm} {H : List Blk} {w : World} (h : WR β H w) {t : Nat} {b : Blk} (hb : nth H t = some b) {B o C : Nat} (hβ : β t = some (B, o, C)) : BRel β H w b B o C := by
  have := h.blk t b hb
  rw [hβ] at this
  exact this
theorem cell_of_blk {w w' : World} {a : Addr} (h : w'.heap[a.block]? = w.heap[a.block]?) : w'.cell? a = w.cell? a := by unfold World.cell?; rw [h]

/-! ### Places that are kept free -/
theorem nth_app (H G : List Blk) (t : Nat) : nth (H ++ G) t = if t < H.length then nth H t else nth G (t - H.length) := by
  rw [nth_eq, nth_eq, nth_eq]
  by_cases h : t < H.length
  · rw [if_pos h, List.getElem?_append_left h]
  · rw [if_neg h, List.getElem?_append_right (by omega)]
theorem phs_nth (n t : Nat) {b : Blk} (h : nth (phs n) t = some b) : b = ph := by
  induction n generalizing t with
  | zero => cases t <;> cases h
  | succ n ih =>
    cases t with
    | zero => cases h; rfl
    | succ t => exact ih t h
theorem phs_length (n : Nat) : (phs n).length = n := by induction n with | zero => rfl | succ n ih => simp [phs, ih]
/-- Behind the last block nothing lies. -/
def cutB (β : Bm) (n : Nat) : Bm := fun t => if t < n then β t else none
theorem cutB_lt (β : Bm) {n t : Nat} (h : t < n) : cutB β n t = β t := by simp [cutB, h]
theorem cutB_ge (β : Bm) {n t : Nat} (h : n ≤ t) : cutB β n t = none := by simp [cutB, Nat.not_lt.2 h]

theorem mv_phs (β : Bm) (H : List Blk) (n t : Nat) : Mv β H (cutB β H.length) (H ++ phs n) t := fun x hx ht =>
  ⟨by rw [cutB_lt _ ht]; exact hx, by simp; omega, by unfold szH; rw [nth_app, if_pos ht]; exact Nat.le_refl _⟩

theorem Inv.phs (h : Inv β0 H0 w0 β H w) (n : Nat) : Inv β0 H0 w0 (cutB β H.length) (H ++ phs n) w := by
  have hlen := h.ext.len
  have old : ∀ {t : Nat} {b : Blk} {x}, nth (H ++ Go.Rf.phs n) t = some b → cutB β H.length t = some x → nth H t = some b ∧ β t = some x := by
    intro t b x hb hx
    by_cases ht : t < H.length
    · rw [nth_app, if_pos ht] at hb
      rw [cutB_lt _ ht] at hx
      exact ⟨hb, hx⟩
    · rw [cutB_ge _ (by omega)] at hx; cases hx
  refine ⟨⟨fun t b hb => ?_, fun t t' b b' x x' hne h1 h2 ho hd hx hx' => ?_⟩, fun t x ht hx => ?_, ⟨by simp; omega, fun t ht => ?_⟩, fun B hB => ?_, h.fr⟩
  · by_cases ht : t < H.length
    · rw [nth_app, if_pos ht] at hb
      rw [cutB_lt _ ht]
      have := h.wr.blk t b hb
      split
      · rename_i e; rw [e] at this; exact this
      · rename_i B o C e
        rw [e] at this
        exact ⟨fun j a q1 q2 => (this.cell j a q1 q2).imp fun v hv => ⟨hv.1, hv.2.move fun t _ => mv_phs β H n t⟩, this.own, this.lt⟩
    · rw [cutB_ge _ (by omega)]
      rw [nth_app, if_neg ht] at hb
      rw [phs_nth n _ hb]; rfl
  · obtain ⟨k1, k2⟩ := old h1 hx
    obtain ⟨k3, k4⟩ := old h2 hx'
    exact h.wr.sep t t' b b' x x' hne k1 k3 ho hd k2 k4
  · rw [cutB_lt _ (by omega)]; exact h.agree t x ht hx
  · refine Nat.le_trans (h.ext.size t ht) ?_
    unfold szH
    rw [nth_app, if_pos (by omega)]
    exact Nat.le_refl _
  · obtain ⟨t, b, o, C, h1, h2, h3⟩ := hB
    obtain ⟨k1, k2⟩ := old h1 h3
    exact h.own B ⟨t, b, o, C, k1, h2, k2⟩

/-! ### What is made is put in its place -/
/-- New memory: blocks numbered from 0 on, all of them new in the world. -/
structure Fresh (γ : Bm) (news : List Blk) (w w' : World) : Prop where
  wr : WR γ news w'
  new : ∀ t x, γ t = some x → w.heap.size ≤ x.1
  fr : Fr (fun _ => False) w w'

theorem mades_length (s : Nat) : ∀ (i : Nat) (news : List Blk), (mades s i news).length = news.length
  | _, [] => rfl
  | i, b :: r => by simp [mades, mades_length s (i + 1) r]
theorem edit_length : ∀ (ed : List (Nat × Blk)) (H : List Blk), (edit ed H).length = H.length
  | [], H => rfl
  | (t, b) :: r, H => by simp only [edit]; rw [edit_length r, length_set]
theorem edit_mades (s : Nat) : ∀ (news : List Blk) (i : Nat) (H : List Blk) (hs : s + i + news.length ≤ H.length) (t : Nat),
    nth (edit (mades s i news) H) t = if s + i ≤ t ∧ t < s + i + news.length then (nth news (t - (s + i))).map (fun b => ⟨b.own, shB s b.body⟩) else nth H t
  | [], i, H, hs, t => by
    simp only [mades, edit, List.length_nil]
    rw [if_neg (by omega)]
  | b :: r, i, H, hs, t => by
    simp only [List.length_cons] at hs
    simp only [mades, edit]
    rw [edit_mades s r (i + 1) _ (by rw [length_set]; omega) t, nth_set _ _ _ _ (by omega)]
    by_cases h1 : s + (i + 1) ≤ t ∧ t < s + (i + 1) + r.length
    · rw [if_pos h1, if_pos (by simp only [List.length_cons]; omega)]
      obtain ⟨k, hk⟩ : ∃ k, t - (s + i) = k + 1 := ⟨t - (s + i) - 1, by omega⟩
      rw [hk, show t - (s + (i + 1)) = k by omega]
      rfl
    · rw [if_neg h1]
      by_cases h2 : t = s + i
      · subst h2
        rw [if_pos rfl, if_pos (by simp only [List.length_cons]; omega), Nat.sub_self]
        rfl
      · rw [if_neg h2, if_neg (by simp only [List.length_cons]; omega)]

section shift
variable {γ : Bm} {news : List Blk} {s : Nat}
theorem R0.shift (hm : ∀ t x, γ t = some x → t < news.length → β (t + s) = some x ∧ t + s < H.length ∧ szH news t ≤ szH H (t + s)) {a : At} {v : Value} (h : R0 γ news a v) : R0 β H (sh0 s a) v := by
  cases a with
  | ptr t off ext =>
    obtain ⟨B, o, C, h1, h2, h3, h4⟩ := h
    obtain ⟨k1, k2, k3⟩ := hm t _ h1 h2
    exact ⟨B, o, C, k1, k2, Nat.le_trans h3 k3, h4⟩
  | sl t off len sz =>
    rcases h with ⟨B, o, C, cap, h1, h2, h3, h4, h5, h6⟩ | h
    · obtain ⟨k1, k2, k3⟩ := hm t _ h1 h2
      exact .inl ⟨B, o, C, cap, k1, k2, Nat.le_trans h3 k3, h4, h5, h6⟩
    · exact .inr h
  | vw t off len sz =>
    obtain ⟨a, cap, h1, h2, h3⟩ := h
    refine ⟨a, cap, h1, h2, fun hl => ?_⟩
    obtain ⟨B, o, C, h4, h5, h6, h7⟩ := h3 hl
    obtain ⟨k1, k2, k3⟩ := hm t _ h4 h5
    exact ⟨B, o, C, k1, k2, Nat.le_trans h6 k3, h7⟩
  | _ => exact h
theorem R0s.shift (hm : ∀ t x, γ t = some x → t < news.length → β (t + s) = some x ∧ t + s < H.length ∧ szH news t ≤ szH H (t + s)) {as : List At} {vs : List Value} (h : All2 (R0 γ news) as vs) : All2 (R0 β H) (sh0s s as) vs := by
  induction h with
  | nil => exact .nil
  | cons h _ ih => exact .cons (h.shift hm) ih
theorem RAt.shift (hm : ∀ t x, γ t = some x → t < news.length → β (t + s) = some x ∧ t + s < H.length ∧ szH news t ≤ szH H (t + s)) {a : At} {v : Value} (h : RAt γ news a v) : RAt β H (sh1 s a) v := by
  rcases (RAt_iff γ news a v).1 h with ⟨f, caps, rfl, cs, h1, h2⟩ | h0
  · exact ⟨cs, h1, R0s.shift hm h2⟩
  · refine (RAt_iff β H _ v).2 (.inr ?_)
    have := h0.shift hm
    cases a <;> first | exact this | exact h0.elim
theorem RAts.shift (hm : ∀ t x, γ t = some x → t < news.length → β (t + s) = some x ∧ t + s < H.length ∧ szH news t ≤ szH H (t + s)) {as : List At} {vs : List Value} (h : All2 (RAt γ news) as vs) : All2 (RAt β H) (sh1s s as) vs := by
  induction h with
  | nil => exact .nil
  | cons h _ ih => exact .cons (h.shift hm) ih
theorem RT.shift (hm : ∀ t x, γ t = some x → t < news.length → β (t + s) = some x ∧ t + s < H.length ∧ szH news t ≤ szH H (t + s)) {a : TV} {v : Value} (h : RT γ news a v) : RT β H (shT s a) v := by
  cases a with
  | one a => exact RAt.shift hm h
  | agg cs => obtain ⟨arr, h1, h2⟩ := h; exact ⟨arr, h1, RAts.shift hm h2⟩
theorem RTs.shift (hm : ∀ t x, γ t = some x → t < news.length → β (t + s) = some x ∧ t + s < H.length ∧ szH news t ≤ szH H (t + s)) {as : List TV} {vs : List Value} (h : All2 (RT γ news) as vs) : All2 (RT β H) (shTs s as) vs := by
  induction h with
  | nil => exact .nil
  | cons h _ ih => exact .cons (h.shift hm) ih
theorem RV.shift (hm : ∀ t x, γ t = some x → t < news.length → β (t + s) = some x ∧ t + s < H.length ∧ szH news t ≤ szH H (t + s)) {a : AV} {v : Value} (h : RV γ news a v) : RV β H (shV s a) v := by
  cases a with
  | top => trivial
  | v x => exact RT.shift hm h
  | tup vs => obtain ⟨arr, h1, h2⟩ := h; exact ⟨arr, h1, RTs.shift hm h2⟩
theorem shB_size (s : Nat) (b : Body) : (shB s b).size = b.size := by
  cases b with
  | cells cs =>
    simp only [shB, Body.size]
    induction cs with
    | nil => rfl
    | cons a r ih => simp [sh1s, ih]
  | _ => rfl
theorem sh1s_get (s : Nat) : ∀ (cs : List At) (j : Nat) (a : At), (sh1s s cs)[j]? = some a → ∃ c, cs[j]? = some c ∧ a = sh1 s c
  | [], j, a, h => by simp [sh1s] at h
  | c :: r, 0, a, h => by simp only [sh1s, List.getElem?_cons_zero] at h; cases h; exact ⟨c, rfl, rfl⟩
  | c :: r, j + 1, a, h => by simp only [sh1s, List.getElem?_cons_succ] at h; exact sh1s_get s r j a h
theorem shB_get (s : Nat) (b : Body) (j : Nat) (a : At) (h : (shB s b).get j = some a) : ∃ c, b.get j = some c ∧ a = sh1 s c := by
  cases b with
  | cells cs =>
    simp only [shB, Body.get, nth_eq] at h ⊢
    exact sh1s_get s cs j a h
  | dead n => cases h
  | _ => exact ⟨a, h, by cases h; rfl⟩
theorem shB_dead (s : Nat) (b : Body) : isDead (shB s b) = isDead b := by cases b <;> rfl
end shift

/-- Where what is made lies. -/
def placeB (β γ : Bm) (s n : Nat) : Bm := fun t => if s ≤ t ∧ t < s + n then γ (t - s) else β t

theorem placeB_in (β γ : Bm) {s n t : Nat} (h : t < n) : placeB β γ s n (t + s) = γ t := by
  unfold placeB
  rw [if_pos (by omega), Nat.add_sub_cancel]
theorem placeB_out (β γ : Bm) {s n t : Nat} (h : ¬ (s ≤ t ∧ t < s + n)) : placeB β γ s n t = β t := by unfold placeB; rw [if_neg h]

section place
variable {γ : Bm} {news : List Blk} {s : Nat}
theorem mv_place (hs : s + news.length ≤ H.length) (hfree : ∀ t, s ≤ t → t < s + news.length → β t = none) (t : Nat) : Mv β H (placeB β γ s news.length) (edit (mades s 0 news) H) t := fun x hx ht => by
  have hn : ¬ (s ≤ t ∧ t < s + news.length) := fun ⟨h1, h2⟩ => by rw [hfree t h1 h2] at hx; cases hx
  refine ⟨by rw [placeB_out _ _ hn]; exact hx, by rw [edit_length]; exact ht, ?_⟩
  unfold szH
  rw [edit_mades s news 0 H (by omega), if_neg (by simpa using hn)]
  exact Nat.le_refl _
theorem sh_place (hs : s + news.length ≤ H.length) : ∀ t x, γ t = some x → t < news.length → placeB β γ s news.length (t + s) = some x ∧ t + s < (edit (mades s 0 news) H).length ∧ szH news t ≤ szH (edit (mades s 0 news) H) (t + s) := fun t x hx ht => by
  refine ⟨by rw [placeB_in _ _ ht]; exact hx, by rw [edit_length]; omega, ?_⟩
  unfold szH
  rw [edit_mades s news 0 H (by omega), if_pos (by omega), show t + s - (s + 0) = t by omega]
  cases nth news t with
  | none => simp
  | some b => simp [shB_size]

theorem Inv.place (h : Inv β0 H0 w0 β H w) (hf : Fresh γ news w w') (hlo : H0.length ≤ s) (hs : s + news.length ≤ H.length) (hfree : ∀ t, s ≤ t → t < s + news.length → β t = none) :
    Inv β0 H0 w0 (placeB β γ s news.length) (edit (mades s 0 news) H) w' := by
  have hnth := edit_mades s news 0 H (by omega)
  have hblk : ∀ {B : Nat}, B < w.heap.size → w'.heap[B]? = w.heap[B]? := fun hB => hf.fr.block _ hB (fun h => h)
  -- each block is an old one or a new one
  have parts : ∀ {t : Nat} {b : Blk}, nth (edit (mades s 0 news) H) t = some b →
      (¬ (s ≤ t ∧ t < s + news.length) ∧ nth H t = some b) ∨ (∃ i c, t = i + s ∧ i < news.length ∧ nth news i = some c ∧ b = ⟨c.own, shB s c.body⟩) := by
    intro t b hb
    rw [hnth t] at hb
    by_cases hin : s ≤ t ∧ t < s + news.length
    · rw [if_pos (by omega)] at hb
      right
      cases hc : nth news (t - (s + 0)) with
      | none => rw [hc] at hb; cases hb
      | some c =>
        rw [hc] at hb
        cases hb
        exact ⟨t - s, c, by omega, by omega, by rw [← hc]; rfl, rfl⟩
    · rw [if_neg (by omega)] at hb
      exact .inl ⟨hin, hb⟩
  have oldlt : ∀ {t : Nat} {b : Blk} {x}, nth H t = some b → β t = some x → x.1 < w.heap.size := by
    intro t b x hb hx
    obtain ⟨B, o, C⟩ := x
    exact (h.wr.bl hb hx).lt
  refine ⟨⟨fun t b hb => ?_, fun t t' b b' x x' hne h1 h2 ho hd hx hx' => ?_⟩, fun t x ht hx => ?_, h.ext.trans ⟨by rw [edit_length]; exact Nat.le_refl _, fun t ht => ?_⟩, fun B hB => ?_, ?_⟩
  · rcases parts hb with ⟨hn, hb⟩ | ⟨i, c, rfl, hi, hc, rfl⟩
    · rw [placeB_out _ _ hn]
      have := h.wr.blk t b hb
      split
      · rename_i e; rw [e] at this; exact this
      · rename_i B o C e
        rw [e] at this
        refine ⟨fun j a q1 q2 => ?_, fun ho => ?_, Nat.lt_of_lt_of_le this.lt hf.fr.size⟩
        · obtain ⟨v, h3, h4⟩ := this.cell j a q1 q2
          exact ⟨v, by rw [cell_of_blk (hblk this.lt)]; exact h3, h4.move fun t _ => mv_place hs hfree t⟩
        · rw [hblk this.lt]; exact this.own ho
    · rw [placeB_in _ _ hi]
      have := hf.wr.blk i c hc
      split
      · rename_i e; rw [e] at this; simpa [shB_size] using this
      · rename_i B o C e
        rw [e] at this
        refine ⟨fun j a q1 q2 => ?_, fun ho => ?_, this.lt⟩
        · simp only [shB_size] at q1
          obtain ⟨q, q3, rfl⟩ := shB_get s c.body j a q2
          obtain ⟨v, h3, h4⟩ := this.cell j q q1 q3
          exact ⟨v, h3, h4.shift (sh_place hs)⟩
        · obtain ⟨k1, k2, k3⟩ := this.own ho
          exact ⟨k1, by simp only [shB_dead]; exact k2, k3⟩
  · rcases parts h1 with ⟨n1, g1⟩ | ⟨i, c, rfl, hi, hc, rfl⟩
    · rw [placeB_out _ _ n1] at hx
      rcases parts h2 with ⟨n2, g2⟩ | ⟨i', c', rfl, hi', hc', rfl⟩
      · rw [placeB_out _ _ n2] at hx'
        exact h.wr.sep t t' b b' x x' hne g1 g2 ho hd hx hx'
      · rw [placeB_in _ _ hi'] at hx'
        have := oldlt g1 hx
        have := hf.new _ _ hx'
        omega
    · rw [placeB_in _ _ hi] at hx
      rcases parts h2 with ⟨n2, g2⟩ | ⟨i', c', rfl, hi', hc', rfl⟩
      · rw [placeB_out _ _ n2] at hx'
        have := oldlt g2 hx'
        have := hf.new _ _ hx
        omega
      · rw [placeB_in _ _ hi'] at hx'
        exact hf.wr.sep i i' c c' x x' (fun e => hne (by rw [e])) hc hc' ho (by rw [← shB_dead s]; exact hd) hx hx'
  · have := h.agree t x ht hx
    rw [placeB_out _ _ (fun ⟨k1, k2⟩ => by omega)]
    exact this
  · unfold szH
    rw [hnth t]
    by_cases hin : s ≤ t ∧ t < s + news.length
    · have hz : szH H t = 0 ∨ True := .inr trivial
      rw [if_pos (by omega)]
      have hbn := hfree t hin.1 hin.2
      cases hHt : nth H t with
      | none => simp
      | some b =>
        have := h.wr.blk t b hHt
        rw [hbn] at this
        simp only at this
        show b.body.size ≤ _
        rw [this]
        exact Nat.zero_le _
    · rw [if_neg (by omega)]; exact Nat.le_refl _
  · obtain ⟨t, b, o, C, h1, h2, h3⟩ := hB
    rcases parts h1 with ⟨n1, g1⟩ | ⟨i, c, rfl, hi, hc, rfl⟩
    · rw [placeB_out _ _ n1] at h3
      exact h.own B ⟨t, b, o, C, g1, h2, h3⟩
    · rw [placeB_in _ _ hi] at h3
      exact .inr (Nat.le_trans h.fr.size (hf.new _ _ h3))
  · exact h.fr.trans hf.fr (fun _ hf => hf.elim)
end place

/-- One new block. -/
theorem Fresh.one (c : Array Value) (e : TypeId) (b : Body) (hsz : b.size ≤ c.size) (hdead : isDead b = false) {γ : Bm}
    (hγ : ∀ t x, γ t = some x → t = 0 ∧ x = (w.heap.size, 0, c.size)) (h0 : γ 0 = some (w.heap.size, 0, c.size))
    (hb : ∀ j a, j < b.size → b.get j = some a → ∃ v, c[j]? = some v ∧ RAt γ [⟨true, b⟩] a v) : Fresh γ [⟨true, b⟩] w (w.alloc (.cells c e)) := by
  refine ⟨⟨fun t b' hb' => ?_, fun t t' b1 b2 x x' hne h1 h2 _ _ hx hx' => ?_⟩, fun t x hx => ?_, ⟨rfl, rfl, rfl, by simp, fun k hk _ => ?_⟩⟩
  · cases t with
    | succ t => cases t <;> cases hb'
    | zero =>
      cases hb'
      rw [h0]
      refine ⟨fun j a h1 h2 => ?_, fun _ => ⟨rfl, hdead, c, e, ?_, rfl⟩, by simp⟩
      · obtain ⟨v, h3, h4⟩ := hb j a h1 h2
        exact ⟨v, by rw [Nat.zero_add, World.cell?_alloc_new]; exact h3, h4⟩
      · show (w.heap.push _)[w.heap.size]? = _
        simp
  · exact absurd ((hγ t x hx).1.trans (hγ t' x' hx').1.symm) hne
  · obtain ⟨_, rfl⟩ := hγ t x hx; exact Nat.le_refl _
  · show (w.heap.push _)[k]? = _
    rw [Array.getElem?_push, if_neg (by omega)]

theorem Fresh.none (b : Body) (hsz : b.size = 0) : Fresh (fun _ => Option.none) [⟨true, b⟩] w w :=
  ⟨⟨(fun t b' hb' => by
    cases t with
    | succ t => cases t <;> cases hb'
    | zero => cases hb'; exact hsz), (fun _ _ _ _ _ _ _ _ _ _ _ hx _ => by cases hx)⟩, (fun _ _ hx => by cases hx), Fr.refl _ w⟩

/-! ### Stores -/
theorem set_facts {b b' : Body} {j : Nat} {a : At} (h : b.set j a = some b') (hj : j < b.size) :
    b'.size = b.size ∧ ∀ i x, i < b.size → b'.get i = some x → (i = j ∧ x = a) ∨ (i ≠ j ∧ b.get i = some x) := by
  cases b with
  | cells cs =>
    simp only [Body.set] at h
    cases h
    rw [setL_eq]
    refine ⟨by simp [Body.size], fun i x hi hx => ?_⟩
    simp only [Body.get, nth_eq] at hx ⊢
    by_cases e : i = j
    · subst e
      have hj : i < cs.length := hj
      rw [List.getElem?_set_self hj] at hx
      cases hx
      exact .inl ⟨rfl, rfl⟩
    · rw [List.getElem?_set_ne (Ne.symm e)] at hx
      exact .inr ⟨e, hx⟩
  | fl k xs =>
    cases a <;> simp only [Body.set] at h <;> try cases h
    rename_i k' x
    have : k' = k ∧ b' = .fl k (xs.set j x) := by
      cases k <;> cases k' <;> simp only at h <;> cases h <;> exact ⟨rfl, rfl⟩
    obtain ⟨rfl, rfl⟩ := this
    refine ⟨by simp [Body.size], fun i y hi hy => ?_⟩
    simp only [Body.get] at hy ⊢
    have hj : j < xs.length := hj
    by_cases e : i = j
    · subst e
      left
      refine ⟨rfl, ?_⟩
      cases hy
      congr 1
      rw [List.getD_eq_getElem?_getD, List.getElem?_set_self hj]
      rfl
    · right
      refine ⟨e, ?_⟩
      cases hy
      congr 2
      rw [List.getD_eq_getElem?_getD, List.getD_eq_getElem?_getD, List.getElem?_set_ne (Ne.symm e)]
  | il k xs =>
    cases a <;> simp only [Body.set] at h <;> try cases h
    rename_i k' x
    split at h
    · rename_i hk
      have hk := of_decide_eq_true hk
      subst hk
      cases h
      refine ⟨by simp [Body.size], fun i y hi hy => ?_⟩
      simp only [Body.get] at hy ⊢
      have hj : j < xs.length := hj
      by_cases e : i = j
      · subst e
        left
        refine ⟨rfl, ?_⟩
        cases hy
        congr 1
        rw [List.getD_eq_getElem?_getD, List.getElem?_set_self hj]
        rfl
      · right
        refine ⟨e, ?_⟩
        cases hy
        congr 2
        rw [List.getD_eq_getElem?_getD, List.getD_eq_getElem?_getD, List.getElem?_set_ne (Ne.symm e)]
    · cases h
  | dead n => cases a <;> simp only [Body.set] at h <;> cases h
  | bl xs =>
    cases a <;> simp only [Body.set] at h <;> try cases h
    refine ⟨by simp [Body.size], fun i y hi hy => ?_⟩
    simp only [Body.get] at hy ⊢
    have hj : j < xs.length := hj
    by_cases e : i = j
    · subst e
      left
      refine ⟨rfl, ?_⟩
      cases hy
      congr 1
      rw [List.getD_eq_getElem?_getD, List.getElem?_set_self hj]
      rfl
    · right
      refine ⟨e, ?_⟩
      cases hy
      congr 2
      rw [List.getD_eq_getElem?_getD, List.getD_eq_getElem?_getD, List.getElem?_set_ne (Ne.symm e)]


theorem mv_set {t : Nat} {b b' : Blk} (hb : nth H t = some b) (hsz : b.body.size ≤ b'.body.size) (u : Nat) : Mv β H β (setL H t b') u := fun x hx hu =>
  ⟨hx, by rw [length_set]; exact hu, by
    rw [szH_set H t b' u (nth_lt hb)]
    by_cases e : u = t
    · subst e; rw [if_pos rfl, szH_of hb]; exact hsz
    · rw [if_neg e]; exact Nat.le_refl _⟩
theorem Ext.set {t : Nat} {b b' : Blk} (hb : nth H t = some b) (hsz : b.body.size ≤ b'.body.size) : Ext H (setL H t b') :=
  ⟨by rw [length_set]; exact Nat.le_refl _, fun u hu => by
    rw [szH_set H t b' u (nth_lt hb)]
    by_cases e : u = t
    · subst e; rw [if_pos rfl, szH_of hb]; exact hsz
    · rw [if_neg e]; exact Nat.le_refl _⟩

/-- A block's cells turn in the world as they turn in the abstract memory: of an own block. -/
theorem Inv.set_blk (h : Inv β0 H0 w0 β H w) {t : Nat} {b : Blk} (hb : nth H t = some b) (ho : b.own = true) {B o C : Nat} (hβ : β t = some (B, o, C)) {b' : Body} (hsz : b.body.size ≤ b'.size) (hdead : isDead b' = false)
    {w' : World} (hos : w'.os = w.os) (htp : w'.tape = w.tape) (hou : w'.output = w.output) (hzz : w'.heap.size = w.heap.size) (hoth : ∀ k, k ≠ B → w'.heap[k]? = w.heap[k]?)
    (hown : ∃ c e, w'.heap[B]? = some (.cells c e (0, 0)) ∧ c.size = C)
    (hcell : ∀ j a, j < b'.size → b'.get j = some a → ∃ v, w'.cell? ⟨B, j, none⟩ = some v ∧ RAt β (setL H t ⟨true, b'⟩) a v) :
    Inv β0 H0 w0 β (setL H t ⟨true, b'⟩) w' := by
  have htl := nth_lt hb
  have hbr := h.wr.bl hb hβ
  have hm : ∀ u, Mv β H β (setL H t ⟨true, b'⟩) u := mv_set hb hsz
  obtain ⟨ho0, hbd, _⟩ := hbr.own ho
  subst ho0
  have key : ∀ {u : Nat} {c : Blk}, nth (setL H t ⟨true, b'⟩) u = some c → ∃ d, nth H u = some d ∧ d.own = c.own ∧ isDead d.body = isDead c.body := by
    intro u c hc
    rw [nth_set H t _ u htl] at hc
    by_cases e : u = t
    · subst e; rw [if_pos rfl] at hc; cases hc; exact ⟨b, hb, ho, by rw [hbd, hdead]⟩
    · rw [if_neg e] at hc; exact ⟨c, hc, rfl, rfl⟩
  refine ⟨⟨fun u c hc => ?_, fun u u' c c' x x' hne h1 h2 hoc hd hx hx' => ?_⟩, h.agree, h.ext.trans (Ext.set hb hsz), fun D hD => ?_, ?_⟩
  · rw [nth_set H t _ u htl] at hc
    by_cases e : u = t
    · subst e
      rw [if_pos rfl] at hc
      cases hc
      rw [hβ]
      exact ⟨fun j a q1 q2 => by rw [Nat.zero_add]; exact hcell j a q1 q2, fun _ => ⟨rfl, hdead, hown⟩, by rw [hzz]; exact hbr.lt⟩
    · rw [if_neg e] at hc
      have := h.wr.blk u c hc
      split
      · rename_i e1; rw [e1] at this; exact this
      · rename_i D p E e1
        rw [e1] at this
        by_cases hcd : isDead c.body = true
        · refine ⟨fun j a q1 q2 => ?_, fun hoo => ?_, by rw [hzz]; exact this.lt⟩
          · cases hcb : c.body <;> rw [hcb] at hcd q2 <;> cases hcd
            cases q2
          · have := (this.own hoo).2.1
            rw [hcd] at this; cases this
        · have hD : D ≠ B := fun q => h.wr.sep t u b c (B, 0, C) (D, p, E) (Ne.symm e) hb hc ho (by simpa using hcd) hβ e1 q.symm
          refine ⟨fun j a q1 q2 => ?_, fun hoo => ?_, by rw [hzz]; exact this.lt⟩
          · obtain ⟨v, h3, h4⟩ := this.cell j a q1 q2
            exact ⟨v, by rw [cell_of_blk (hoth D hD)]; exact h3, h4.move fun t _ => hm t⟩
          · rw [hoth D hD]; exact this.own hoo
  · obtain ⟨d, k1, k2, k3⟩ := key h1
    obtain ⟨d', k4, k5, k6⟩ := key h2
    exact h.wr.sep u u' d d' x x' hne k1 k4 (k2.trans hoc) (k6.trans hd) hx hx'
  · obtain ⟨u, c, o, E, h1, h2, h3⟩ := hD
    obtain ⟨d, k1, k2, k3⟩ := key h1
    exact h.own D ⟨u, d, o, E, k1, k2.trans h2, h3⟩
  · refine h.fr.trans (M' := fun k => k = B) ⟨hos, htp, hou, by rw [hzz]; exact Nat.le_refl _, fun k _ hk => hoth k hk⟩ (fun k hk => ?_)
    subst hk
    exact h.own k ⟨t, b, 0, C, hb, ho, hβ⟩

/-- A block that is not looked at any more. -/
theorem Inv.dead (h : Inv β0 H0 w0 β H w) {t : Nat} {b : Blk} (hb : nth H t = some b) : Inv β0 H0 w0 β (setL H t ⟨false, .dead b.body.size⟩) w := by
  have htl := nth_lt hb
  have hm : ∀ u, Mv β H β (setL H t ⟨false, .dead b.body.size⟩) u := mv_set hb (Nat.le_refl _)
  have key : ∀ {u : Nat} {c : Blk}, nth (setL H t ⟨false, .dead b.body.size⟩) u = some c → u ≠ t → nth H u = some c := by
    intro u c hc e
    rw [nth_set H t _ u htl, if_neg e] at hc
    exact hc
  have same : ∀ {c : Blk}, nth (setL H t ⟨false, .dead b.body.size⟩) t = some c → c = ⟨false, .dead b.body.size⟩ := by
    intro c hc
    rw [nth_set H t _ t htl, if_pos rfl] at hc
    cases hc; rfl
  refine ⟨⟨fun u c hc => ?_, fun u u' c c' x x' hne h1 h2 hoc hd hx hx' => ?_⟩, h.agree, h.ext.trans (Ext.set hb (Nat.le_refl _)), fun D hD => ?_, h.fr⟩
  · by_cases e : u = t
    · subst e
      rw [same hc]
      have := h.wr.blk u b hb
      split
      · rename_i q; rw [q] at this; exact this
      · rename_i D p E q
        rw [q] at this
        exact ⟨(fun j a _ q2 => by cases q2), (fun hh => by cases hh), this.lt⟩
    · have hc := key hc e
      have := h.wr.blk u c hc
      split
      · rename_i q; rw [q] at this; exact this
      · rename_i D p E q
        rw [q] at this
        exact ⟨fun j a q1 q2 => (this.cell j a q1 q2).imp fun v hv => ⟨hv.1, hv.2.move fun t _ => hm t⟩, this.own, this.lt⟩
  · by_cases e : u = t
    · subst e; rw [same h1] at hoc; cases hoc
    · by_cases e' : u' = t
      · subst e'; rw [same h2] at hd; cases hd
      · exact h.wr.sep u u' c c' x x' hne (key h1 e) (key h2 e') hoc hd hx hx'
  · obtain ⟨u, c, o, E, h1, h2, h3⟩ := hD
    by_cases e : u = t
    · subst e; rw [same h1] at h2; cases h2
    · exact h.own D ⟨u, c, o, E, key h1 e, h2, h3⟩

/-- A row goes on under another number, at the place where it lies. -/
theorem Inv.take (h : Inv β0 H0 w0 β H w) {t s : Nat} {b : Blk} (hb : nth H t = some b) (ho : b.own = true) {B o C : Nat} (hβ : β t = some (B, o, C)) (hs : s < H.length) (hlo : H0.length ≤ s) (hfree : β s = none) {b' : Body} (hdead : isDead b' = false)
    {w' : World} (hos : w'.os = w.os) (htp : w'.tape = w.tape) (hou : w'.output = w.output) (hzz : w'.heap.size = w.heap.size) (hoth : ∀ k, k ≠ B → w'.heap[k]? = w.heap[k]?)
    (hown : ∃ c e, w'.heap[B]? = some (.cells c e (0, 0)) ∧ c.size = C)
    (hcell : ∀ j a, j < b'.size → b'.get j = some a → ∃ v, w'.cell? ⟨B, j, none⟩ = some v ∧ ∀ β' H', RAt β' H' a v) :
    Inv β0 H0 w0 (upd β s (some (B, 0, C))) (edit [(t, ⟨false, .dead b.body.size⟩), (s, ⟨true, b'⟩)] H) w' ∧ (∀ u, Mv β H (upd β s (some (B, 0, C))) (edit [(t, ⟨false, .dead b.body.size⟩), (s, ⟨true, b'⟩)] H) u) := by
  have hbr := h.wr.bl hb hβ
  obtain ⟨ho0, hbd, _⟩ := hbr.own ho
  subst ho0
  have htl := nth_lt hb
  have hts : s ≠ t := fun e => by subst e; rw [hfree] at hβ; cases hβ
  have hI := h.dead hb
  have hsl : s < (setL H t ⟨false, .dead b.body.size⟩).length := by rw [length_set]; exact hs
  have hnth : ∀ u, nth (edit [(t, ⟨false, .dead b.body.size⟩), (s, ⟨true, b'⟩)] H) u = if u = s then some ⟨true, b'⟩ else nth (setL H t ⟨false, .dead b.body.size⟩) u := fun u => nth_set _ _ _ _ hsl
  have hszs : szH H s = 0 := by
    unfold szH
    cases hHs : nth H s with
    | none => rfl
    | some c =>
      have := h.wr.blk s c hHs
      rw [hfree] at this
      exact this
  have hmv : ∀ u, Mv (β) (setL H t ⟨false, .dead b.body.size⟩) (upd β s (some (B, 0, C))) (edit [(t, ⟨false, .dead b.body.size⟩), (s, ⟨true, b'⟩)] H) u := fun u x hx hu => by
    have hne : u ≠ s := fun e => by subst e; rw [hfree] at hx; cases hx
    refine ⟨by rw [upd_ne _ _ hne]; exact hx, by rw [edit_length]; rw [length_set] at hu; exact hu, ?_⟩
    unfold szH
    rw [hnth u, if_neg hne]
    exact Nat.le_refl _
  refine ⟨⟨⟨fun u c hc => ?_, fun u u' c c' x x' hne h1 h2 hoc hd hx hx' => ?_⟩, fun u x hu hx => ?_, hI.ext.trans ⟨by rw [edit_length, length_set]; exact Nat.le_refl _, fun u hu => ?_⟩, fun D hD => ?_, ?_⟩, fun u x hx hu => ?_⟩
  · rw [hnth u] at hc
    by_cases e : u = s
    · subst e
      rw [if_pos rfl] at hc
      cases hc
      rw [upd_same]
      refine ⟨fun j a q1 q2 => ?_, fun _ => ⟨rfl, hdead, hown⟩, by rw [hzz]; exact hbr.lt⟩
      obtain ⟨v, h3, h4⟩ := hcell j a q1 q2
      exact ⟨v, by rw [Nat.zero_add]; exact h3, h4 _ _⟩
    · rw [if_neg e] at hc
      rw [upd_ne _ _ e]
      have := hI.wr.blk u c hc
      split
      · rename_i q; rw [q] at this; exact this
      · rename_i D p E q
        rw [q] at this
        by_cases hcd : isDead c.body = true
        · refine ⟨fun j a q1 q2 => ?_, fun hoo => ?_, by rw [hzz]; exact this.lt⟩
          · cases hcb : c.body <;> rw [hcb] at hcd q2 <;> cases hcd
            cases q2
          · have := (this.own hoo).2.1
            rw [hcd] at this; cases this
        · have hut : u ≠ t := fun e' => by
            subst e'
            rw [nth_set _ _ _ _ htl, if_pos rfl] at hc
            cases hc
            exact hcd rfl
          have hcH : nth H u = some c := by rw [nth_set _ _ _ _ htl, if_neg hut] at hc; exact hc
          have hD : D ≠ B := fun q' => h.wr.sep t u b c (B, 0, C) (D, p, E) (Ne.symm hut) hb hcH ho (by simpa using hcd) hβ q q'.symm
          refine ⟨fun j a q1 q2 => ?_, fun hoo => ?_, by rw [hzz]; exact this.lt⟩
          · obtain ⟨v, h3, h4⟩ := this.cell j a q1 q2
            exact ⟨v, by rw [cell_of_blk (hoth D hD)]; exact h3, h4.move fun t _ => hmv t⟩
          · rw [hoth D hD]; exact this.own hoo
  · have alive : ∀ {u : Nat} {c : Blk}, u ≠ s → nth (setL H t ⟨false, .dead b.body.size⟩) u = some c → isDead c.body = false → u ≠ t ∧ nth H u = some c := by
      intro u c hus hc hd
      have hut : u ≠ t := fun e' => by
        subst e'
        rw [nth_set _ _ _ _ htl, if_pos rfl] at hc
        cases hc; cases hd
      exact ⟨hut, by rw [nth_set _ _ _ _ htl, if_neg hut] at hc; exact hc⟩
    have odead : ∀ {u : Nat} {c : Blk} {x}, u ≠ s → nth (setL H t ⟨false, .dead b.body.size⟩) u = some c → c.own = true → β u = some x → isDead c.body = false := by
      intro u c x hus hc hoc hx
      obtain ⟨D, p, E⟩ := x
      exact ((hI.wr.bl hc hx).own hoc).2.1
    rw [hnth u] at h1
    rw [hnth u'] at h2
    by_cases e : u = s
    · subst e
      rw [upd_same] at hx
      cases hx
      have e' : u' ≠ u := Ne.symm hne
      rw [if_neg e'] at h2
      rw [upd_ne _ _ e'] at hx'
      obtain ⟨k1, k2⟩ := alive e' h2 hd
      exact h.wr.sep t u' b c' (B, 0, C) x' (Ne.symm k1) hb k2 ho hd hβ hx'
    · rw [if_neg e] at h1
      rw [upd_ne _ _ e] at hx
      have hcd := odead e h1 hoc hx
      obtain ⟨k1, k2⟩ := alive e h1 hcd
      by_cases e' : u' = s
      · subst e'
        rw [upd_same] at hx'
        cases hx'
        exact h.wr.sep u t c b x (B, 0, C) k1 k2 hb hoc hbd hx hβ
      · rw [if_neg e'] at h2
        rw [upd_ne _ _ e'] at hx'
        obtain ⟨k3, k4⟩ := alive e' h2 hd
        exact h.wr.sep u u' c c' x x' hne k2 k4 hoc hd hx hx'
  · rw [upd_ne _ _ (by omega)]; exact h.agree u x hu hx
  · unfold szH
    rw [hnth u]
    by_cases e : u = s
    · subst e
      rw [if_pos rfl]
      have : szH (setL H t ⟨false, .dead b.body.size⟩) u = szH H u := by rw [szH_set _ _ _ _ htl, if_neg hts]
      unfold szH at this hszs
      rw [this, hszs]
      exact Nat.zero_le _
    · rw [if_neg e]; exact Nat.le_refl _
  · obtain ⟨u, c, o, E, h1, h2, h3⟩ := hD
    rw [hnth u] at h1
    by_cases e : u = s
    · subst e
      rw [upd_same] at h3
      cases h3
      exact h.own B ⟨t, b, 0, C, hb, ho, hβ⟩
    · rw [if_neg e] at h1
      rw [upd_ne _ _ e] at h3
      exact hI.own D ⟨u, c, o, E, h1, h2, h3⟩
  · refine h.fr.trans (M' := fun k => k = B) ⟨hos, htp, hou, by rw [hzz]; exact Nat.le_refl _, fun k _ hk => hoth k hk⟩ (fun k hk => ?_)
    subst hk
    exact h.own k ⟨t, b, 0, C, hb, ho, hβ⟩
  · obtain ⟨k1, k2, k3⟩ := mv_set (β := β) hb (b' := ⟨false, .dead b.body.size⟩) (Nat.le_refl _) u x hx hu
    obtain ⟨q1, q2, q3⟩ := hmv u x k1 k2
    exact ⟨q1, q2, Nat.le_trans k3 q3⟩

theorem cells_modify {c : Array Value} {e : TypeId} {z : Nat × Nat} {B : Nat} (h : w.heap[B]? = some (.cells c e z)) (j : Nat) (v : Value) :
    (w.setCell ⟨B, j, none⟩ v).heap[B]? = some (.cells (c.setIfInBounds j v) e z) := by
  unfold World.setCell
  simp only [Array.getElem?_modify, h]
  simp
theorem setCell_block (w : World) (a : Addr) (u : Value) (k : Nat) (h : k ≠ a.block) : (w.setCell a u).heap[k]? = w.heap[k]? := by
  simp only [World.setCell, Array.getElem?_modify]
  rw [if_neg (by omega)]
theorem get_some (b : Body) {j : Nat} (h : j < b.size) (hd : isDead b = false) : ∃ a, b.get j = some a := by
  cases b with
  | cells cs => exact ⟨_, by simp only [Body.get, nth_eq]; exact List.getElem?_eq_getElem h⟩
  | dead n => cases hd
  | _ => exact ⟨_, rfl⟩

theorem OwnRow {t : Nat} {b : Blk} (hI : Inv β0 H0 w0 β H w) (hb : nth H t = some b) (ho : b.own = true) {B o C : Nat} (hβ : β t = some (B, o, C)) :
    o = 0 ∧ isDead b.body = false ∧ ∃ c e, w.heap[B]? = some (.cells c e (0, 0)) ∧ c.size = C ∧ b.body.size ≤ c.size ∧ ∀ j a, j < b.body.size → b.body.get j = some a → ∃ v, c[j]? = some v ∧ RAt β H a v := by
  have hbr := hI.wr.bl hb hβ
  obtain ⟨h0, hd, c, e, hc, hs⟩ := hbr.own ho
  subst h0
  have hcell : ∀ j a, j < b.body.size → b.body.get j = some a → ∃ v, c[j]? = some v ∧ RAt β H a v := by
    intro j a h1 h2
    obtain ⟨v, h3, h4⟩ := hbr.cell j a h1 h2
    refine ⟨v, ?_, h4⟩
    simpa [World.cell?, hc] using h3
  refine ⟨rfl, hd, c, e, hc, hs, ?_, hcell⟩
  by_cases hz : b.body.size = 0
  · omega
  · obtain ⟨a, ha⟩ := get_some b.body (j := b.body.size - 1) (by omega) hd
    obtain ⟨v, hv, _⟩ := hcell _ a (by omega) ha
    have := (Array.getElem?_eq_some_iff.1 hv).1
    omega

theorem set_alive {b b' : Body} {j : Nat} {a : At} (h : b.set j a = some b') : isDead b' = false := by
  cases b with
  | cells cs => simp only [Body.set] at h; cases h; rfl
  | fl k xs =>
    cases a <;> simp only [Body.set] at h <;> try cases h
    rename_i k' x
    cases k <;> cases k' <;> simp only at h <;> cases h <;> rfl
  | il k xs =>
    cases a <;> simp only [Body.set] at h <;> try cases h
    split at h
    · cases h; rfl
    · cases h
  | bl xs => cases a <;> simp only [Body.set] at h <;> first | (cases h; done) | (cases h; rfl)
  | dead n => cases a <;> simp only [Body.set] at h <;> cases h

/-- One cell of an own block is written. -/
theorem Inv.store1 (h : Inv β0 H0 w0 β H w) {t : Nat} {b : Blk} (hb : nth H t = some b) (ho : b.own = true) {B o C : Nat} (hβ : β t = some (B, o, C)) {j : Nat} (hj : j < b.body.size) {a : At} {v : Value} (hR : RAt β H a v)
    {b' : Body} (hset : b.body.set j a = some b') {P : Program} : (store ⟨B, j, none⟩ v).run P w = .ok () (w.setCell ⟨B, j, none⟩ v) ∧ Inv β0 H0 w0 β (setL H t ⟨true, b'⟩) (w.setCell ⟨B, j, none⟩ v) := by
  obtain ⟨ho0, hd, c, e, hc, hcs, hle, hcell⟩ := OwnRow h hb ho hβ
  obtain ⟨hs1, hs2⟩ := set_facts hset hj
  have hjc : j < c.size := by omega
  have hu : w.cell? ⟨B, j, none⟩ = some c[j] := by simp [World.cell?, hc, hjc]
  have hfz : w.frozen? ⟨B, j, none⟩ = false := by simp [World.frozen?, hc]
  have hone : v.oneCell' = true := by
    have := hR.any_one
    cases v <;> first | rfl | cases this
  refine ⟨by rw [run_store P w _ v .plain hone]; simp [hu, hfz], ?_⟩
  have hm : ∀ u, Mv β H β (setL H t ⟨true, b'⟩) u := mv_set hb (by simp only; omega)
  refine h.set_blk hb ho hβ (by omega) (set_alive hset) rfl rfl rfl (by simp) (fun k hk => setCell_block w _ v k hk) ⟨_, e, cells_modify hc j v, by simpa using hcs⟩ ?_
  intro i x hi hx
  rcases hs2 i x (by omega) hx with ⟨rfl, rfl⟩ | ⟨hne, hx⟩
  · exact ⟨v, by simp [World.cell?, cells_modify hc i v, hjc], hR.move fun t _ => hm t⟩
  · obtain ⟨y, h3, h4⟩ := hcell i x (by omega) hx
    refine ⟨y, ?_, h4.move fun t _ => hm t⟩
    rw [World.cell?_setCell_other]
    · simpa [World.cell?, hc] using h3
    · intro e
      have : j = i := by injection e
      exact hne this.symm

theorem setL_setL {α : Type} (l : List α) (n : Nat) (a b : α) : setL (setL l n a) n b = setL l n b := by
  rw [setL_eq, setL_eq, setL_eq, List.set_set]

theorem store_cells {P : Program} : ∀ (cs : List At) (vs : List Value) {H : List Blk} {w : World} (h : Inv β0 H0 w0 β H w) {t : Nat} {b : Blk} (hb : nth H t = some b) (ho : b.own = true) {B o C : Nat} (hβ : β t = some (B, o, C)) {off i : Nat}
    (hj : off + i + cs.length ≤ b.body.size) (hR : All2 (RAt β H) cs vs) {b' : Body} (hset : setN b.body (off + i) cs = some b'),
    ∃ w', (storeCells ⟨B, off, none⟩ vs i).run P w = .ok () w' ∧ Inv β0 H0 w0 β (setL H t ⟨true, b'⟩) w' ∧ b'.size = b.body.size
  | [], vs, H, w, h, t, b, hb, ho, B, o, C, hβ, off, i, hj, hR, b', hset => by
    cases hR
    simp only [setN] at hset
    cases hset
    refine ⟨w, by simp [storeCells], ?_, rfl⟩
    have : setL H t ⟨true, b.body⟩ = H := by
      rw [setL_eq]
      have hb2 := hb
      rw [nth_eq] at hb2
      obtain ⟨own, body⟩ := b
      simp only at ho
      subst ho
      obtain ⟨hlt, hget⟩ := List.getElem?_eq_some_iff.1 hb2
      rw [← hget, List.set_getElem_self]
    rw [this]
    exact h
  | a :: cs, vs, H, w, h, t, b, hb, ho, B, o, C, hβ, off, i, hj, hR, b', hset => by
    cases hR with
    | cons h1 h2 =>
      rename_i v vs
      simp only [List.length_cons] at hj
      simp only [setN] at hset
      split at hset
      · rename_i b1 hb1
        obtain ⟨hrun, hinv⟩ := h.store1 (P := P) hb ho hβ (j := off + i) (by omega) h1 hb1
        have hsz := (set_facts hb1 (by omega)).1
        have hm : ∀ u, Mv β H β (setL H t ⟨true, b1⟩) u := mv_set hb (by simp only; omega)
        obtain ⟨w', k1, k2, k3⟩ := store_cells cs vs hinv (t := t) (b := ⟨true, b1⟩) (by rw [nth_set H t _ t (nth_lt hb)]; simp) rfl hβ (off := off) (i := i + 1)
          (by simp only; omega) (h2.mono fun x y _ hxy => hxy.move fun t _ => hm t) (by rw [← Nat.add_assoc]; exact hset)
        refine ⟨w', ?_, by rw [setL_setL] at k2; exact k2, by rw [k3]; exact hsz⟩
        simp only [storeCells, Sem.run_bind, add_none, hrun, Result.andThen_ok]
        exact k1
      · cases hset
end
end Go.Rf
