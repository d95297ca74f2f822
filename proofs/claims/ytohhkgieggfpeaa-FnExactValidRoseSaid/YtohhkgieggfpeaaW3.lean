/-
  The evaluator answers what the model's runs come to: appends.
-/
import Derived.Test.YtohhkgieggfpeaaW2
set_option linter.unusedVariables false
namespace Go.Rf
open Go

section
variable {β0 : Bm} {H0 : List Blk} {w0 : World} {β : Bm} {H : List Blk} {w : World} {P : Program} {Γ : Ctx}

theorem app_row {b s c : Body} (h : b.app s = some c) : isDead b = false ∧ isDead s = false ∧ isDead c = false ∧ ∀ n, shB n c = c := by
  unfold Body.app at h
  split at h
  · split at h
    · cases h; exact ⟨rfl, rfl, rfl, fun _ => rfl⟩
    · cases h
  · split at h
    · cases h; exact ⟨rfl, rfl, rfl, fun _ => rfl⟩
    · cases h
  · cases h; exact ⟨rfl, rfl, rfl, fun _ => rfl⟩
  · cases h

/-- A row without cells at a free place. -/
theorem Inv.put0 (h : Inv β0 H0 w0 β H w) {s : Nat} (hlo : H0.length ≤ s) (hs : s < H.length) (hfree : β s = none) (b : Body) (hsz : b.size = 0) (hsh : ∀ n, shB n b = b) :
    Inv β0 H0 w0 β (setL H s ⟨true, b⟩) w ∧ ∀ u, Mv β H β (setL H s ⟨true, b⟩) u := by
  have hfr : ∀ t, s ≤ t → t < s + [(⟨true, b⟩ : Blk)].length → β t = none := fun t h1 h2 => by
    simp at h2
    obtain rfl : t = s := by omega
    exact hfree
  have hsl : s + [(⟨true, b⟩ : Blk)].length ≤ H.length := by simp; omega
  have hI := h.place (Fresh.none (w := w) b hsz) hlo hsl hfr
  have hm1 := mv_place (γ := fun _ => Option.none) hsl hfr
  have hβ : placeB β (fun _ => Option.none) s [(⟨true, b⟩ : Blk)].length = β := by
    funext t
    unfold placeB
    by_cases ht : s ≤ t ∧ t < s + [(⟨true, b⟩ : Blk)].length
    · rw [if_pos ht, hfr t ht.1 ht.2]
    · rw [if_neg ht]
  have hH : edit (mades s 0 [(⟨true, b⟩ : Blk)]) H = setL H s ⟨true, b⟩ := by
    simp only [mades, edit, hsh, Nat.add_zero]
  rw [hβ, hH] at hI
  simp only [hβ, hH] at hm1
  exact ⟨hI, hm1⟩

theorem Mv.trans {β' β'' : Bm} {H' H'' : List Blk} {t : Nat} (h : Mv β H β' H' t) (k : Mv β' H' β'' H'' t) : Mv β H β'' H'' t := fun x hx ht => by
  obtain ⟨a, b, c⟩ := h x hx ht
  obtain ⟨d, e, f⟩ := k x a b
  exact ⟨d, e, Nat.le_trans c f⟩

/-- An append onto a row of the call's own. -/
theorem append_own {R : Type} (hI : Inv β0 H0 w0 β H w) {slot : Nat} (hlo : H0.length ≤ slot) (hsl : slot < H.length) (hfree : β slot = none) {t len sz T e : Nat} {ei : TI} (ht : P.underlying T = some (.slice e)) (hE : TFact P e ei) {ty : TypeId}
    {s x : Value} (hs : RAt β H (.sl t 0 len sz) s) {b : Blk} (hb : nth H t = some b) (ho : b.own = true) (hsz : sz = ei.size) {src b' : Body} {m : Nat} {ax : AV} (hx : RV β H ax x) (hrd : rdSl H ax = some (m, src)) (happ : b.body.app src = some b')
    (h40 : len + m ≤ 1099511627776) (hby : ei.bytes ≤ 64) (hss : src.size = m * ei.size) (hbs : b.body.size = len * ei.size) {k : AV → List (Nat × Blk) → List Nat → Option R} {r : R} {rd : List Nat}
    (hk : k (A1 (.sl slot 0 (len + m) sz)) [(t, ⟨false, .dead b.body.size⟩), (slot, ⟨true, b'⟩)] rd = some r) :
    GivesE β0 H0 w0 P w β H slot (do pure (.value (← Builtin.append_ #[T, T] ty #[s, x]))) k r := by
  subst hsz
  obtain ⟨ti, z, hi, hi1, hi2, hz, _, hzs⟩ := hE.info
  obtain ⟨dd1, dd2, dd3, dd4⟩ := app_row happ
  obtain ⟨a, c, rfl, hmc, news, n1, n2, n3, n4, n5⟩ := rd_rel hI.wr hx hrd dd2
  have hnl : news.length = m * ti.size := by rw [n1, hss, hi1]
  have hf := run_first (P := P) (w := w) (c := c) hnl n2 n3
  obtain ⟨p1, p2⟩ := app_facts happ
  have htl := nth_lt hb
  have hplain := app_plain happ
  have hnone : ∀ v ∈ news, oneV v = true := by
    intro v hvm
    obtain ⟨j, hj, hjv⟩ := List.getElem_of_mem hvm
    obtain ⟨q, hq⟩ := get_some src (j := j) (by omega) dd2
    obtain ⟨u, h1, h2⟩ := n5 j q (by omega) hq
    rw [List.getElem?_eq_getElem hj, hjv] at h1
    cases h1
    exact h2.any_one
  -- what a cell of the longer row asks
  have carry : ∀ {β' : Bm} {H' : List Blk} {q : At} {u : Value} {j : Nat}, b'.get j = some q → RAt β H q u → RAt β' H' q u := fun {β' H' q u j} hq hR =>
    hR.move fun s hs => by rw [hplain j q s hq] at hs; cases hs
  have hsl' : slot < (setL H t ⟨false, .dead b.body.size⟩).length := by rw [length_set]; exact hsl
  have hmd : ∀ u, Mv β H β (setL H t ⟨false, .dead b.body.size⟩) u := mv_set hb (Nat.le_refl _)
  have realloc : ∀ {base : Option Addr} {cap : Nat} {olds : List Value}, olds.length = b.body.size → (∀ bb, base = some bb → ∀ (j : Nat) (v : Value), olds[j]? = some v → w.cell? (bb.add j) = some v) → (base = none → len = 0 ∧ cap = 0) →
      (∀ j q, j < b.body.size → b.body.get j = some q → ∃ u, olds[j]? = some u ∧ RAt β H q u) → len ≤ cap → cap < len + m →
      GivesE β0 H0 w0 P w β H slot (do pure (.value (← Builtin.append_ #[T, T] ty #[.slice base len cap, .slice a m c]))) k r := by
    intro base cap olds hol hoc hbn hor hlc hg
    obtain ⟨ncap, cs, hr, c1, c2, c3, c4⟩ := run_append_new (P := P) (w := w) (ty := ty) (c := c) ht hi hz (by rw [hzs, hi1]) (by rw [hol, hbs, hi1]) hoc hbn hnl n2 n3 hg hlc h40 (by rw [hi2]; exact hby)
    have hcs : b'.size ≤ cs.size := by
      rw [p1, hbs, hss, c2, hi1, ← Nat.add_mul]
      exact Nat.mul_le_mul_right _ c1
    obtain ⟨hI', hm'⟩ := ((hI.same (Same.drew w)).dead hb).put hlo hsl' hfree cs e b' hcs dd3 (fun j q hj hq => by
      rcases p2 j q hj hq with ⟨h1, h2⟩ | ⟨h1, h2⟩
      · obtain ⟨u, h3, h4⟩ := hor j q h1 h2
        exact ⟨u, by rw [c3 j (by omega)]; exact h3, carry hq h4⟩
      · obtain ⟨u, h3, h4⟩ := n5 (j - b.body.size) q (by omega) h2
        refine ⟨u, ?_, carry hq h4⟩
        have := c4 (j - b.body.size) (by omega)
        rw [hol, Nat.add_sub_cancel' h1] at this
        rw [this]; exact h3)
    refine ⟨A1 (.sl slot 0 (len + m) ei.size), .slice (some ⟨w.heap.size, 0, none⟩) (len + m) ncap, w.drew.alloc (.cells cs e), _, _, _, .inl (by simp [hr]), hI', fun u => (hmd u).trans (hm' u), ?_, fun u hu hn => ?_, hk⟩
    · refine .inl ⟨w.heap.size, 0, cs.size, ncap, ?_, ?_, ?_, c1, ?_, ?_⟩
      · rw [upd_same]; rfl
      · rw [edit_length]; exact hsl
      · simp only [edit]; rw [szH_set _ _ _ _ hsl', if_pos rfl, p1, hbs, hss, Nat.add_mul]; omega
      · rw [c2, hi1]; omega
      · simp
    · rw [upd_ne _ _ (fun e => hu ⟨by omega, by unfold room; omega⟩)]; exact hn
  rcases hs with ⟨B, o, C, cap, h1, h2, h3, h4, h5, rfl⟩ | ⟨rfl, a0, rfl⟩
  · obtain ⟨rfl, _, cc, e', hc, hcs, hle, hcell⟩ := OwnRow hI hb ho h1
    have hmul : len * ei.size ≤ cap * ei.size := Nat.mul_le_mul_right _ h4
    by_cases hfit : len + m ≤ cap
    · -- there is room
      have hm2 : (len + m) * ei.size ≤ cap * ei.size := Nat.mul_le_mul_right _ hfit
      rw [Nat.add_mul] at hm2
      obtain ⟨w', c', k1, k2, k3, k4, k5, k6, k7, k8, k9, k10⟩ := store_row (P := P) news hc (off := len * ei.size) (i := 0) (by rw [n1, hss]; omega) hnone
      obtain ⟨hI', hm'⟩ := hI.take hb ho h1 hsl hlo hfree (b' := b') dd3 k2 k3 k4 k5 k6 ⟨c', e', k7, by rw [k8, hcs]⟩ (fun j q hj hq => by
        have hcj : w'.cell? ⟨B, j, none⟩ = c'[j]? := by simp [World.cell?, k7]
        rw [hcj]
        rcases p2 j q hj hq with ⟨g1, g2⟩ | ⟨g1, g2⟩
        · obtain ⟨u, q1, q2⟩ := hcell j q g1 g2
          exact ⟨u, by rw [k9 j (by omega)]; exact q1, fun _ _ => carry hq q2⟩
        · obtain ⟨u, q1, q2⟩ := n5 (j - b.body.size) q (by omega) g2
          refine ⟨u, ?_, fun _ _ => carry hq q2⟩
          have := k10 (j - b.body.size) (by omega)
          rw [show len * ei.size + 0 + (j - b.body.size) = j by omega] at this
          rw [this]; exact q1)
      have hrun := run_append_in (P := P) (w := w) (ty := ty) ht hi (base := some ⟨B, 0 + 0, none⟩) (sLen := len) (sCap := cap) hf hfit (w' := w') (by
        simp only [add_none, Nat.zero_add, hi1]; exact k1)
      refine ⟨A1 (.sl slot 0 (len + m) ei.size), .slice (some ⟨B, 0 + 0, none⟩) (len + m) cap, w', _, _, _, .inl (by simp only [Sem.run_bind, hrun, Result.andThen_ok, Sem.run_pure]), hI', hm', ?_, fun u hu hn => ?_, hk⟩
      · refine .inl ⟨B, 0, C, cap, upd_same _ _ _, ?_, ?_, hfit, h5, rfl⟩
        · rw [edit_length]; exact hsl
        · simp only [edit]; rw [szH_set _ _ _ _ hsl', if_pos rfl, p1, hbs, hss, Nat.add_mul]; omega
      · rw [upd_ne _ _ (fun e => hu ⟨by omega, by unfold room; omega⟩)]; exact hn
    · refine realloc (olds := cc.toList.take b.body.size) (by simp; omega) (fun bb hbb j v hv' => ?_) (fun h => by cases h) (fun j q g1 g2 => ?_) h4 (by omega)
      · cases hbb
        have hj : j < b.body.size := by
          have := (List.getElem?_eq_some_iff.1 hv').1
          simp at this; omega
        rw [add_none]
        rw [List.getElem?_take_of_lt hj] at hv'
        simpa [World.cell?, hc] using hv'
      · obtain ⟨u, q1, q2⟩ := hcell j q g1 g2
        exact ⟨u, by rw [List.getElem?_take_of_lt g1]; simpa using q1, q2⟩
  · have hb0 : b.body.size = 0 := by rw [hbs]; simp
    by_cases hm : m = 0
    · subst hm
      have hs0 : src.size = 0 := by rw [hss]; simp
      have hn0 : news = [] := List.length_eq_zero_iff.1 (by omega)
      subst hn0
      have hrun := run_append_in (P := P) (w := w) (ty := ty) ht hi (base := a0) (sLen := 0) (sCap := 0) hf (Nat.le_refl _) (w' := w) (by cases a0 <;> simp [storeCells])
      obtain ⟨hI', hm'⟩ := (hI.dead hb).put0 hlo hsl' hfree b' (by omega) dd4
      refine ⟨A1 (.sl slot 0 (0 + 0) ei.size), .slice a0 (0 + 0) 0, w, _, _, _, .inl (by simp only [Sem.run_bind, hrun, Result.andThen_ok, Sem.run_pure]), hI', fun u => (hmd u).trans (hm' u), ?_, fun u _ hn => hn, hk⟩
      exact .inr ⟨rfl, a0, rfl⟩
    · refine realloc (olds := []) (by simp [hb0]) (fun bb _ j v hv' => by simp at hv') (fun _ => ⟨rfl, rfl⟩) (fun j q g1 _ => by omega) (Nat.le_refl _) (by omega)

theorem row_facts {b : Body} (h : b.isRow = true) : isDead b = false ∧ (∀ n, shB n b = b) ∧ ∀ j q u, b.get j = some q → m1 u q = false := by
  cases b with
  | cells cs => cases h
  | dead n => cases h
  | _ => exact ⟨rfl, fun _ => rfl, fun j q u hq => by cases hq; rfl⟩

/-- An append onto nothing. -/
theorem append_nil {R : Type} (hI : Inv β0 H0 w0 β H w) {slot : Nat} (hlo : H0.length ≤ slot) (hsl : slot < H.length) (hfree : β slot = none) {T e : Nat} {ei : TI} (ht : P.underlying T = some (.slice e)) (hE : TFact P e ei) {ty : TypeId}
    {s x : Value} (hs : RAt β H .nilsl s) {src : Body} {m : Nat} {ax : AV} (hx : RV β H ax x) (hrd : rdSl H ax = some (m, src)) (hrow : src.isRow = true)
    (h40 : m ≤ 1099511627776) (hby : ei.bytes ≤ 64) (hss : src.size = m * ei.size) {k : AV → List (Nat × Blk) → List Nat → Option R} {r : R} {rd : List Nat}
    (hk : k (A1 (.sl slot 0 m ei.size)) [(slot, ⟨true, src⟩)] rd = some r) :
    GivesE β0 H0 w0 P w β H slot (do pure (.value (← Builtin.append_ #[T, T] ty #[s, x]))) k r := by
  obtain ⟨ti, z, hi, hi1, hi2, hz, _, hzs⟩ := hE.info
  obtain ⟨hd, hsh, hsp⟩ := row_facts hrow
  obtain ⟨a, c, rfl, hmc, news, n1, n2, n3, n4, n5⟩ := rd_rel hI.wr hx hrd hd
  have hnl : news.length = m * ti.size := by rw [n1, hss, hi1]
  have hf := run_first (P := P) (w := w) (c := c) hnl n2 n3
  obtain ⟨a0, rfl⟩ := hs
  by_cases hm : m = 0
  · subst hm
    have hs0 : src.size = 0 := by rw [hss]; simp
    have hn0 : news = [] := List.length_eq_zero_iff.1 (by omega)
    subst hn0
    have hrun := run_append_in (P := P) (w := w) (ty := ty) ht hi (base := a0) (sLen := 0) (sCap := 0) hf (Nat.le_refl _) (w' := w) (by cases a0 <;> simp [storeCells])
    obtain ⟨hI', hm'⟩ := hI.put0 hlo hsl hfree src hs0 hsh
    refine ⟨A1 (.sl slot 0 0 ei.size), .slice a0 (0 + 0) 0, w, _, _, _, .inl (by simp only [Sem.run_bind, hrun, Result.andThen_ok, Sem.run_pure]), hI', hm', ?_, fun u _ hn => hn, hk⟩
    exact .inr ⟨rfl, a0, rfl⟩
  · obtain ⟨ncap, cs, hr, c1, c2, c3, c4⟩ := run_append_new (P := P) (w := w) (ty := ty) (c := c) (base := a0) (sLen := 0) (sCap := 0) (olds := []) ht hi hz (by rw [hzs, hi1]) (by simp) (fun bb _ j v hv' => by simp at hv') (fun _ => ⟨rfl, rfl⟩) hnl n2 n3 (by omega) (Nat.le_refl _) (by omega) (by rw [hi2]; exact hby)
    simp only [List.length_nil, Nat.zero_add] at c1 c4 hr
    have hcs : m * ei.size ≤ cs.size := by rw [c2, hi1]; exact Nat.mul_le_mul_right _ c1
    obtain ⟨hI', hm'⟩ := (hI.same (Same.drew w)).put hlo hsl hfree cs e src (by omega) hd (fun j q hj hq => by
      obtain ⟨u, h3, h4⟩ := n5 j q hj hq
      exact ⟨u, by rw [c4 j (by omega)]; exact h3, h4⟩)
    refine ⟨A1 (.sl slot 0 m ei.size), .slice (some ⟨w.heap.size, 0, none⟩) m ncap, w.drew.alloc (.cells cs e), _, _, _, .inl (by simp [hr]), hI', hm', ?_, fun u hu hn => ?_, hk⟩
    · refine .inl ⟨w.heap.size, 0, cs.size, ncap, ?_, ?_, ?_, c1, ?_, ?_⟩
      · rw [upd_same]; rfl
      · rw [edit_length]; exact hsl
      · simp only [edit]; rw [szH_set _ _ _ _ hsl, if_pos rfl]; simp only; omega
      · rw [c2, hi1]; omega
      · simp
    · rw [upd_ne _ _ (fun e => hu ⟨by omega, by unfold room; omega⟩)]; exact hn
end
end Go.Rf
