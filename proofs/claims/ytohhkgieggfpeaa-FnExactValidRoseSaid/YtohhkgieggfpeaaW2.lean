/-
  The evaluator answers what the model's runs come to: every operation that makes memory or writes.
-/
import Derived.Test.YtohhkgieggfpeaaW
set_option linter.unusedVariables false
namespace Go.Rf
open Go

section
variable {β0 : Bm} {H0 : List Blk} {w0 : World} {β : Bm} {H : List Blk} {w : World} {P : Program} {Γ : Ctx}

theorem app_facts {b s c : Body} (h : b.app s = some c) : c.size = b.size + s.size ∧ ∀ j x, j < c.size → c.get j = some x → (j < b.size ∧ b.get j = some x) ∨ (b.size ≤ j ∧ s.get (j - b.size) = some x) := by
  have key : ∀ {α : Type} (a b : List α) (d : α) (j : Nat), (a ++ b).getD j d = if j < a.length then a.getD j d else b.getD (j - a.length) d := by
    intro α a b d j
    simp only [List.getD_eq_getElem?_getD]
    by_cases h : j < a.length
    · rw [if_pos h, List.getElem?_append_left h]
    · rw [if_neg h, List.getElem?_append_right (by omega)]
  unfold Body.app at h
  split at h
  · split at h
    · rename_i hk
      have hk := of_decide_eq_true hk
      subst hk
      cases h
      refine ⟨by simp [Body.size], fun j x hj hx => ?_⟩
      simp only [Body.get, Body.size, key] at hx ⊢
      split at hx
      · exact .inl ⟨by assumption, hx⟩
      · exact .inr ⟨by omega, hx⟩
    · cases h
  · split at h
    · rename_i hk
      have hk := of_decide_eq_true hk
      subst hk
      cases h
      refine ⟨by simp [Body.size], fun j x hj hx => ?_⟩
      simp only [Body.get, Body.size, key] at hx ⊢
      split at hx
      · exact .inl ⟨by assumption, hx⟩
      · exact .inr ⟨by omega, hx⟩
    · cases h
  · cases h
    refine ⟨by simp [Body.size], fun j x hj hx => ?_⟩
    simp only [Body.get, Body.size, key] at hx ⊢
    split at hx
    · exact .inl ⟨by assumption, hx⟩
    · exact .inr ⟨by omega, hx⟩
  · cases h

theorem part_facts (b : Body) (off n : Nat) : (b.part off n).size = min n (b.size - off) ∧ ∀ j x, j < (b.part off n).size → (b.part off n).get j = some x → b.get (off + j) = some x := by
  have key : ∀ {α : Type} (a : List α) (d : α) (j : Nat), j < min n (a.length - off) → ((a.drop off).take n).getD j d = a.getD (off + j) d := by
    intro α a d j hj
    simp only [List.getD_eq_getElem?_getD]
    rw [List.getElem?_take_of_lt (by omega), List.getElem?_drop]
  have key2 : ∀ (a : List At) (j : Nat), j < min n (a.length - off) → ((a.drop off).take n)[j]? = a[off + j]? := by
    intro a j hj
    rw [List.getElem?_take_of_lt (by omega), List.getElem?_drop]
  cases b with
  | cells cs =>
    refine ⟨by simp [Body.part, Body.size], fun j x hj hx => ?_⟩
    simp only [Body.part, Body.size, List.length_take, List.length_drop] at hj
    simp only [Body.part, Body.get, nth_eq] at hx ⊢
    rw [key2 _ _ hj] at hx
    exact hx
  | fl k xs =>
    refine ⟨by simp [Body.part, Body.size], fun j x hj hx => ?_⟩
    simp only [Body.part, Body.size, List.length_take, List.length_drop] at hj
    simp only [Body.part, Body.get] at hx ⊢
    rw [key _ _ _ hj] at hx
    exact hx
  | il k xs =>
    refine ⟨by simp [Body.part, Body.size], fun j x hj hx => ?_⟩
    simp only [Body.part, Body.size, List.length_take, List.length_drop] at hj
    simp only [Body.part, Body.get] at hx ⊢
    rw [key _ _ _ hj] at hx
    exact hx
  | bl xs =>
    refine ⟨by simp [Body.part, Body.size], fun j x hj hx => ?_⟩
    simp only [Body.part, Body.size, List.length_take, List.length_drop] at hj
    simp only [Body.part, Body.get] at hx ⊢
    rw [key _ _ _ hj] at hx
    exact hx
  | dead m => exact ⟨rfl, fun j x hj hx => by cases hx⟩
theorem part_dead (b : Body) (off n : Nat) : isDead (b.part off n) = isDead b := by cases b <;> rfl

/-- A slice that is read: its cells. -/
theorem rd_rel (hw : WR β H w) {x : AV} {v : Value} (hx : RV β H x v) {m : Nat} {src : Body} (h : rdSl H x = some (m, src)) (hdead : isDead src = false) :
    ∃ a c, v = .slice a m c ∧ m ≤ c ∧ ∃ news : List Value, news.length = src.size ∧ (∀ ad, a = some ad → ∀ (j : Nat) (u : Value), news[j]? = some u → w.cell? (ad.add j) = some u) ∧ (a = none → m = 0) ∧ (m = 0 → src.size = 0) ∧
      ∀ j q, j < src.size → src.get j = some q → ∃ u, news[j]? = some u ∧ RAt β H q u := by
  have mk : ∀ {b : Blk} {B o C off n : Nat}, BRel β H w b B o C → isDead b.body = false → off + n ≤ b.body.size →
      ∃ news : List Value, news.length = (b.body.part off n).size ∧ (∀ (j : Nat) (u : Value), news[j]? = some u → w.cell? ⟨B, o + off + j, none⟩ = some u) ∧ ∀ j q, j < (b.body.part off n).size → (b.body.part off n).get j = some q → ∃ u, news[j]? = some u ∧ RAt β H q u := by
    intro b B o C off n hb hd hle
    obtain ⟨p1, p2⟩ := part_facts b.body off n
    have hsz : (b.body.part off n).size = n := by rw [p1]; omega
    rw [hsz] at p2 ⊢
    have hall : ∀ j, j < n → ∃ u a, w.cell? ⟨B, o + off + j, none⟩ = some u ∧ b.body.get (off + j) = some a ∧ RAt β H a u := by
      intro j hj
      obtain ⟨a, ha⟩ := get_some b.body (j := off + j) (by omega) hd
      obtain ⟨u, h1, h2⟩ := hb.cell (off + j) a (by omega) ha
      exact ⟨u, a, by rw [Nat.add_assoc]; exact h1, ha, h2⟩
    have : ∀ n', n' ≤ n → ∃ news : List Value, news.length = n' ∧ ∀ j, j < n' → ∃ u, news[j]? = some u ∧ w.cell? ⟨B, o + off + j, none⟩ = some u ∧ ∀ a, b.body.get (off + j) = some a → RAt β H a u := by
      intro n'
      induction n' with
      | zero => intro _; exact ⟨[], rfl, fun j hj => by omega⟩
      | succ n' ih =>
        intro hn
        obtain ⟨news, h1, h2⟩ := ih (by omega)
        obtain ⟨u, a, h3, h4, h5⟩ := hall n' (by omega)
        refine ⟨news ++ [u], by simp [h1], fun j hj => ?_⟩
        by_cases e : j < n'
        · obtain ⟨u', k1, k2⟩ := h2 j e
          exact ⟨u', by rw [List.getElem?_append_left (by omega)]; exact k1, k2⟩
        · obtain rfl : j = n' := by omega
          refine ⟨u, by rw [List.getElem?_append_right (by omega), h1, Nat.sub_self]; rfl, h3, fun a' ha' => ?_⟩
          rw [h4] at ha'; cases ha'; exact h5
    obtain ⟨news, h1, h2⟩ := this n (Nat.le_refl _)
    refine ⟨news, h1, fun j u hu => ?_, fun j q hj hq => ?_⟩
    · have hj : j < n := by rw [← h1]; exact (List.getElem?_eq_some_iff.1 hu).1
      obtain ⟨u', k1, k2, _⟩ := h2 j hj
      rw [hu] at k1; cases k1; exact k2
    · obtain ⟨u', k1, k2, k3⟩ := h2 j hj
      exact ⟨u', k1, k3 q (p2 j q hj hq)⟩
  have zero : ∀ {b : Blk} {off : Nat}, ∃ news : List Value, news.length = (b.body.part off 0).size ∧ ∀ (j : Nat) (u : Value), ¬ news[j]? = some u := by
    intro b off
    exact ⟨[], by rw [(part_facts b.body off 0).1]; simp, fun j u h => by simp at h⟩
  unfold rdSl at h
  split at h
  · rename_i t off len sz
    split at h
    · rename_i b hb
      cases h
      rcases hx with ⟨B, o, C, cap, h1, h2, h3, h4, h5, rfl⟩ | ⟨rfl, a, rfl⟩
      · rw [szH_of hb] at h3
        obtain ⟨news, k1, k2, k3⟩ := mk (hw.bl hb h1) (by rw [part_dead] at hdead; exact hdead) h3
        refine ⟨_, cap, rfl, h4, news, k1, fun ad ha j u hu => ?_, by simp, fun hm => ?_, k3⟩
        · cases ha; rw [add_none]; exact k2 j u hu
        · subst hm; rw [(part_facts b.body off _).1]; simp
      · rw [Nat.zero_mul]
        obtain ⟨news, k1, k2⟩ := zero (b := b) (off := off)
        refine ⟨a, 0, rfl, Nat.le_refl _, news, k1, fun ad _ j u hu => absurd hu (k2 j u), fun _ => rfl, fun _ => by rw [(part_facts b.body off _).1]; simp, fun j q hj _ => ?_⟩
        rw [(part_facts b.body off 0).1] at hj; simp at hj
    · cases h
  · rename_i t off len sz
    split at h
    · rename_i b hb
      cases h
      obtain ⟨a, cap, rfl, h1, h2⟩ := hx
      by_cases hl : 0 < m
      · obtain ⟨B, o, C, h3, h4, h5, rfl⟩ := h2 hl
        rw [szH_of hb] at h5
        obtain ⟨news, k1, k2, k3⟩ := mk (hw.bl hb h3) (by rw [part_dead] at hdead; exact hdead) h5
        refine ⟨_, cap, rfl, h1, news, k1, fun ad ha j u hu => ?_, by simp, fun hm => by omega, k3⟩
        cases ha; rw [add_none]; exact k2 j u hu
      · obtain rfl : m = 0 := by omega
        rw [Nat.zero_mul]
        obtain ⟨news, k1, k2⟩ := zero (b := b) (off := off)
        refine ⟨a, cap, rfl, Nat.zero_le _, news, k1, fun ad _ j u hu => absurd hu (k2 j u), fun _ => rfl, fun _ => by rw [(part_facts b.body off _).1]; simp, fun j q hj _ => ?_⟩
        rw [(part_facts b.body off 0).1] at hj; simp at hj
    · cases h
  · cases h

theorem run_first {ei : Nat} {a : Option Addr} {m c : Nat} {news : List Value} (hl : news.length = m * ei) (h : ∀ ad, a = some ad → ∀ (j : Nat) (u : Value), news[j]? = some u → w.cell? (ad.add j) = some u) (hn : a = none → m = 0) :
    (Builtin.firstCells ei m (.slice a m c)).run P w = .ok news.toArray w := by
  cases a with
  | none =>
    have := hn rfl
    subst this
    have : news = [] := List.length_eq_zero_iff.1 (by simpa using hl)
    subst this
    exact run_firstCells_none _ _ _ _ _
  | some ad => exact run_firstCells_some w ei m ad m c news hl (h ad rfl)

/-- Room is left: the cells are written behind the slice's own. -/
theorem run_append_in {t ty e : Nat} {i : TypeInfo} (ht : P.underlying t = some (.slice e)) (hi : P.info? e = some i) {base : Option Addr} {sLen sCap n c : Nat} {x : Option Addr} {news : List Value}
    (hf : (Builtin.firstCells i.size n (.slice x n c)).run P w = .ok news.toArray w) (hfit : sLen + n ≤ sCap) {w' : World} (hst : (match base with | some a => storeCells (a.add (sLen * i.size)) news | none => pure ()).run P w = .ok () w') :
    (Builtin.append_ #[t, t] ty #[.slice base sLen sCap, .slice x n c]).run P w = .ok (.slice base (sLen + n) sCap) w' := by
  cases base with
  | none =>
    simp at hst
    subst hst
    simp [Builtin.append_, run_underlying ht, sizeOf, typeInfo, hi, Builtin.lenOf, hfit, hf]
  | some a =>
    simp only at hst
    simp [Builtin.append_, run_underlying ht, sizeOf, typeInfo, hi, Builtin.lenOf, hfit, hf, hst]

theorem run_append_new {t ty e : Nat} {i : TypeInfo} {z : Value} (ht : P.underlying t = some (.slice e)) (hi : P.info? e = some i) (hz : i.zero = some z) (hzs : z.cells.size = i.size) {base : Option Addr} {sLen sCap n c : Nat} {x : Option Addr} {olds news : List Value}
    (hlo : olds.length = sLen * i.size) (holds : ∀ b, base = some b → ∀ (j : Nat) (v : Value), olds[j]? = some v → w.cell? (b.add j) = some v) (hb : base = none → sLen = 0 ∧ sCap = 0)
    (hl : news.length = n * i.size) (hnews : ∀ ad, x = some ad → ∀ (j : Nat) (u : Value), news[j]? = some u → w.cell? (ad.add j) = some u) (hx : x = none → n = 0)
    (hg : sCap < sLen + n) (hle : sLen ≤ sCap) (h40 : sLen + n ≤ 1099511627776) (hby : i.bytes ≤ 64) :
    ∃ cap cs, (Builtin.append_ #[t, t] ty #[.slice base sLen sCap, .slice x n c]).run P w = .ok (.slice (some ⟨w.heap.size, 0, none⟩) (sLen + n) cap) (w.drew.alloc (.cells cs e)) ∧
      sLen + n ≤ cap ∧ cs.size = cap * i.size ∧ (∀ j, j < olds.length → cs[j]? = olds[j]?) ∧ (∀ j, j < news.length → cs[olds.length + j]? = news[j]?) := by
  have hn : 0 < n := by omega
  obtain ⟨ad, rfl⟩ : ∃ ad, x = some ad := by
    cases x with
    | none => have := hx rfl; omega
    | some ad => exact ⟨ad, rfl⟩
  have hmul : (sLen + n) * i.bytes ≤ 140737488355328 := Nat.le_trans (Nat.mul_le_mul h40 hby) (by decide)
  have hsz : ∀ cap, sLen + n ≤ cap → (olds.toArray ++ news.toArray ++ Builtin.zeroCells z.cells (cap - (sLen + n))).size = cap * i.size := by
    intro cap hc
    simp only [Array.size_append, List.size_toArray, Builtin.zeroCells, Array.size_map, Array.size_range, hlo, hl, hzs]
    rw [← Nat.add_mul, ← Nat.add_mul]
    congr 1; omega
  have hold : ∀ (rest : Array Value) j, j < olds.length → (olds.toArray ++ news.toArray ++ rest)[j]? = olds[j]? := by
    intro rest j hj
    rw [Array.getElem?_append_left (by simp; omega), Array.getElem?_append_left (by simpa using hj)]
    simp
  have hnew : ∀ (rest : Array Value) j, j < news.length → (olds.toArray ++ news.toArray ++ rest)[olds.length + j]? = news[j]? := by
    intro rest j hj
    rw [Array.getElem?_append_left (by simp; omega), Array.getElem?_append_right (by simp)]
    simp
  cases base with
  | some b =>
    have hr := run_append_grow (P := P) w t ty e i z ht hi hz b sLen sCap olds hlo (holds b rfl) ad n c news hl (hnews ad rfl) hg (by omega) (growslice_fits hg hmul)
    exact ⟨_, _, hr, grownCap_ge w _ _ e, hsz _ (grownCap_ge w _ _ e), hold _, hnew _⟩
  | none =>
    obtain ⟨rfl, rfl⟩ := hb rfl
    have ho : olds = [] := List.length_eq_zero_iff.1 (by simpa using hlo)
    subst ho
    have hb48 : n * i.bytes ≤ 281474976710656 := by rw [Nat.zero_add] at hmul; omega
    have hr := run_append_nil (P := P) w t ty e i z ht hi hz ad n c news hl (hnews ad rfl) hn (by omega) hb48
    have h2 := hsz (grownCap w n 0 e) (by rw [Nat.zero_add]; exact grownCap_ge w n 0 e)
    rw [Nat.zero_add] at h2
    refine ⟨grownCap w n 0 e, _, by rw [Nat.zero_add]; exact hr, by rw [Nat.zero_add]; exact grownCap_ge w n 0 e, by simpa using h2, by simp, fun j hj => ?_⟩
    have := hnew (Builtin.zeroCells z.cells (grownCap w n 0 e - n)) j hj
    simpa using this

/-- No cell of a row of numbers names a block. -/
theorem app_plain {b s c : Body} (h : b.app s = some c) : ∀ j x u, c.get j = some x → m1 u x = false := by
  unfold Body.app at h
  split at h
  · split at h
    · cases h; intro j x u hx; cases hx; rfl
    · cases h
  · split at h
    · cases h; intro j x u hx; cases hx; rfl
    · cases h
  · cases h; intro j x u hx; cases hx; rfl
  · cases h

end
end Go.Rf
