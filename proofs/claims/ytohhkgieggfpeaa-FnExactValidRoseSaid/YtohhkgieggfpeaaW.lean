/-
  The evaluator answers what the model's runs come to: operations that make memory or write.
-/
import Derived.Test.YtohhkgieggfpeaaInv
import Derived.Laws.MakeOwn
import Derived.Laws.Append
set_option linter.unusedVariables false
namespace Go.Rf
open Go

section
variable {β0 : Bm} {H0 : List Blk} {w0 : World} {β : Bm} {H : List Blk} {w : World} {P : Program} {Γ : Ctx}

theorem zOk_rel {a : At} {v : Value} (h : zOk a v = true) : RAt β H a v := by
  unfold zOk at h
  split at h
  · exact h
  · rw [beq_iff_eq] at h; subst h; rfl
  · simp only [Bool.and_eq_true, decide_eq_true_eq] at h
    obtain ⟨rfl, rfl⟩ := h; rfl
  · simp only [Bool.and_eq_true, decide_eq_true_eq, Bool.not_eq_true'] at h
    obtain ⟨⟨⟨rfl, rfl⟩, h1⟩, h2⟩ := h
    exact ⟨_, rfl, h2, cn_of_not h1⟩
  · simp only [Bool.and_eq_true, decide_eq_true_eq, Bool.not_eq_true'] at h
    obtain ⟨⟨⟨⟨⟨⟨rfl, rfl⟩, rfl⟩, h1⟩, h2⟩, h3⟩, h4⟩ := h
    exact ⟨_, _, rfl, h3, h4, cn_of_not h1, cn_of_not h2⟩
  · exact ⟨_, rfl⟩
  · cases h
theorem zOks_rel : ∀ {as : List At} {vs : List Value}, zOks as vs = true → All2 (RAt β H) as vs
  | [], [], _ => .nil
  | a :: as, v :: vs, h => by
    simp only [zOks, Bool.and_eq_true] at h
    exact .cons (zOk_rel h.1) (zOks_rel h.2)
  | [], _ :: _, h => by cases h
  | _ :: _, [], h => by cases h

theorem cells_rel {x : AV} {v : Value} {cs : List At} (h : cellsV x = some cs) (hR : RV β H x v) : All2 (RAt β H) cs v.cells.toList := by
  cases x with
  | top => cases h
  | tup vs => cases h
  | v x =>
    cases x with
    | agg ds =>
      simp only [cellsV] at h
      cases h
      obtain ⟨arr, rfl, h2⟩ := hR
      exact h2
    | one a =>
      have hone := RAt.any_one hR
      have : cs = [a] := by cases a <;> simp only [cellsV] at h <;> first | (cases h; done) | (cases h; rfl)
      subst this
      rw [oneV_cells hone]
      exact .cons hR .nil

/-- What a making or writing operation comes to. -/
def Comes1 (P : Program) (w : World) (m : Sem Next) (u : Value) (w' : World) : Prop := m.run P w = .ok (.value u) w' ∨ (m.run P w = .ok .skip w' ∧ u = undef)

theorem RTm.move {tm : List (Nat × AV)} {tmps : Array Value} (h : RTm β H tm tmps) {β' : Bm} {H' : List Blk} (hm : ∀ t, Mv β H β' H' t) : RTm β' H' tm tmps := fun t => (h t).move fun u _ => hm u

/-- The result of such an operation, for the evaluator: what is made stands at number 's'. -/
def GivesE {R : Type} (β0 : Bm) (H0 : List Blk) (w0 : World) (P : Program) (w : World) (β : Bm) (H : List Blk) (s : Nat) (m : Sem Next) (k : AV → List (Nat × Blk) → List Nat → Option R) (r : R) : Prop :=
  ∃ v u w' ed rd β', Comes1 P w m u w' ∧ Inv β0 H0 w0 β' (edit ed H) w' ∧ (∀ t, Mv β H β' (edit ed H) t) ∧ RV β' (edit ed H) v u ∧ (∀ t, ¬ (s ≤ t ∧ t < s + room) → β t = none → β' t = none) ∧ k v ed rd = some r

theorem body_cells (cs : List At) (c : Array Value) (h : All2 (RAt β H) cs c.toList) : (Body.cells cs).size ≤ c.size ∧ ∀ j a, j < (Body.cells cs).size → (Body.cells cs).get j = some a → ∃ v, c[j]? = some v ∧ RAt β H a v := by
  have hl := h.length
  refine ⟨by simp [Body.size]; simpa using Nat.le_of_eq hl, fun j a _ ha => ?_⟩
  simp only [Body.get, nth_eq] at ha
  obtain ⟨v, h1, h2⟩ := h.get j a ha
  exact ⟨v, by simpa using h1, h2⟩

/-- A new block at a free place. -/
theorem Inv.put (h : Inv β0 H0 w0 β H w) {s : Nat} (hlo : H0.length ≤ s) (hs : s < H.length) (hfree : β s = none) (c : Array Value) (e : TypeId) (b : Body) (hsz : b.size ≤ c.size) (hdead : isDead b = false)
    (hb : ∀ j a, j < b.size → b.get j = some a → ∃ v, c[j]? = some v ∧ RAt β H a v) :
    Inv β0 H0 w0 (upd β s (some (w.heap.size, 0, c.size))) (setL H s ⟨true, b⟩) (w.alloc (.cells c e)) ∧ ∀ u, Mv β H (upd β s (some (w.heap.size, 0, c.size))) (setL H s ⟨true, b⟩) u := by
  have hfr : ∀ t, s ≤ t → t < s + [(⟨true, .cells []⟩ : Blk)].length → β t = none := fun t h1 h2 => by
    simp at h2
    obtain rfl : t = s := by omega
    exact hfree
  have hsl : s + [(⟨true, .cells []⟩ : Blk)].length ≤ H.length := by simp; omega
  have hF : Fresh (fun t => if t = 0 then some (w.heap.size, 0, c.size) else none) [⟨true, .cells []⟩] w (w.alloc (.cells c e)) :=
    Fresh.one c e (.cells []) (Nat.zero_le _) rfl (fun t x hx => by
      by_cases ht : t = 0
      · rw [if_pos ht] at hx; cases hx; exact ⟨ht, rfl⟩
      · rw [if_neg ht] at hx; cases hx) rfl (fun j a hj _ => by simp [Body.size] at hj)
  have hI := h.place hF hlo hsl hfr
  have hm1 := mv_place (γ := fun t => if t = 0 then some (w.heap.size, 0, c.size) else none) hsl hfr
  have hβ : placeB β (fun t => if t = 0 then some (w.heap.size, 0, c.size) else none) s [(⟨true, .cells []⟩ : Blk)].length = upd β s (some (w.heap.size, 0, c.size)) := by
    funext t
    unfold placeB upd
    by_cases ht : t = s
    · subst ht; simp
    · rw [if_neg ht, if_neg (by simp; omega)]
  have hH : edit (mades s 0 [(⟨true, .cells []⟩ : Blk)]) H = setL H s ⟨true, .cells []⟩ := rfl
  rw [hβ, hH] at hI
  simp only [hβ, hH] at hm1
  have hn : nth (setL H s ⟨true, .cells []⟩) s = some ⟨true, .cells []⟩ := by rw [nth_set _ _ _ _ hs, if_pos rfl]
  have hm2 : ∀ u, Mv (upd β s (some (w.heap.size, 0, c.size))) (setL H s ⟨true, .cells []⟩) (upd β s (some (w.heap.size, 0, c.size))) (setL H s ⟨true, b⟩) u := fun u => by
    have := mv_set (β := upd β s (some (w.heap.size, 0, c.size))) hn (b' := ⟨true, b⟩) (Nat.zero_le _) u
    rw [setL_setL] at this
    exact this
  have hm : ∀ u, Mv β H (upd β s (some (w.heap.size, 0, c.size))) (setL H s ⟨true, b⟩) u := fun u x hx hu => by
    obtain ⟨k1, k2, k3⟩ := hm1 u x hx hu
    obtain ⟨q1, q2, q3⟩ := hm2 u x k1 k2
    exact ⟨q1, q2, Nat.le_trans k3 q3⟩
  have hheap : (w.alloc (.cells c e)).heap[w.heap.size]? = some (.cells c e (0, 0)) := by show (w.heap.push _)[w.heap.size]? = _; simp
  have := hI.set_blk hn rfl (upd_same β s _) (b' := b) (Nat.zero_le _) hdead rfl rfl rfl rfl (fun _ _ => rfl) ⟨c, e, hheap, rfl⟩ (fun j a hj ha => by
    obtain ⟨v, h1, h2⟩ := hb j a hj ha
    refine ⟨v, ?_, ?_⟩
    · unfold World.cell?
      simp only [hheap]
      exact h1
    · rw [setL_setL]
      exact h2.move fun t _ => hm t)
  rw [setL_setL] at this
  exact ⟨this, hm⟩

/-- A new variable. -/
theorem new_cells {R : Type} (hI : Inv β0 H0 w0 β H w) {s : Nat} (hlo : H0.length ≤ s) (hs : s < H.length) (hfree : β s = none) {cs : List At} {c : Array Value} (hc : All2 (RAt β H) cs c.toList) (e : TypeId)
    {m : Sem Next} (hm : m.run P w = .ok (.value (.pointer (some ⟨w.heap.size, 0, none⟩))) (w.alloc (.cells c e))) {k : AV → List (Nat × Blk) → List Nat → Option R} {r : R}
    (hk : k (A1 (.ptr s 0 cs.length)) [(s, ⟨true, .cells cs⟩)] [] = some r) : GivesE β0 H0 w0 P w β H s m k r := by
  obtain ⟨h1, h2⟩ := body_cells cs c hc
  obtain ⟨k1, k2⟩ := hI.put hlo hs hfree c e (.cells cs) h1 rfl h2
  refine ⟨_, _, _, _, _, _, .inl hm, k1, k2, ?_, fun t ht hn => ?_, hk⟩
  · exact ⟨w.heap.size, 0, c.size, upd_same _ _ _, by rw [edit_length]; exact hs, by simp only [edit]; rw [szH_set _ _ _ _ hs, if_pos rfl]; simp [Body.size], rfl⟩
  · rw [upd_ne _ _ (fun e => ht ⟨by omega, by unfold room; omega⟩)]; exact hn

/-! ### A struct put together -/
def setSeq {α : Type} : List α → Nat → List α → List α
  | l, _, [] => l
  | l, off, x :: r => setSeq (l.set off x) (off + 1) r

theorem setN_cells : ∀ (ds : List At) (cs : List At) (off : Nat), setN (.cells cs) off ds = some (.cells (setSeq cs off ds))
  | [], _, _ => rfl
  | a :: r, cs, off => by
    simp only [setN, Body.set, setL_eq, setSeq]
    exact setN_cells r _ _

theorem All2.set {α β : Type} {R : α → β → Prop} : ∀ {as : List α} {bs : List β}, All2 R as bs → ∀ (i : Nat) {a : α} {b : β}, R a b → All2 R (as.set i a) (bs.set i b)
  | [], [], .nil, _, _, _, _ => .nil
  | _ :: _, _ :: _, .cons h k, 0, _, _, hab => .cons hab k
  | _ :: _, _ :: _, .cons h k, i + 1, _, _, hab => .cons h (k.set i hab)
theorem All2.setSeq {α β : Type} {R : α → β → Prop} {cs : List α} {ds : List β} (h : All2 R cs ds) : ∀ {as : List α} {bs : List β}, All2 R as bs → ∀ (off : Nat), All2 R (setSeq as off cs) (setSeq bs off ds) := by
  induction h with
  | nil => intro as bs h off; exact h
  | cons h _ ih => intro as bs k off; exact ih (k.set off h) (off + 1)

theorem foldl_set (off : Nat) : ∀ (xs : List Value) (n : Nat) (cells : Array Value),
    ((xs.zipIdx n).foldl (fun (cs : Array Value) (p : Value × Nat) => cs.setIfInBounds (off + p.2) p.1) cells).toList = setSeq cells.toList (off + n) xs
  | [], _, _ => rfl
  | x :: r, n, cells => by
    simp only [List.zipIdx_cons, List.foldl_cons, setSeq]
    rw [foldl_set off r (n + 1)]
    simp [Nat.add_assoc]

theorem setSeq_length {α : Type} : ∀ (xs : List α) (l : List α) (off : Nat), (setSeq l off xs).length = l.length
  | [], _, _ => rfl
  | x :: r, l, off => by simp only [setSeq]; rw [setSeq_length r]; simp

/-- The parts, as the model has them beside the evaluator's. -/
inductive Parts (β : Bm) (H : List Blk) (place : Nat → Option (Nat × Nat)) : List (Nat × Nat × AV) → List (Nat × Value) → Prop
  | nil : Parts β H place [] []
  | cons {off sz i x v ps vs} : place i = some (off, sz) → RV β H x v → Parts β H place ps vs → Parts β H place ((off, sz, x) :: ps) ((i, v) :: vs)

theorem fill_rel {place : Nat → Option (Nat × Nat)} {ps : List (Nat × Nat × AV)} {vs : List (Nat × Value)} (h : Parts β H place ps vs) : ∀ {cs cs' : List At} {cells : Array Value}, All2 (RAt β H) cs cells.toList → fillA cs ps = some cs' →
    ∃ cells', Instr.fill place cells vs = some cells' ∧ All2 (RAt β H) cs' cells'.toList := by
  induction h with
  | nil => intro cs cs' cells hR hf; simp only [fillA] at hf; cases hf; exact ⟨cells, rfl, hR⟩
  | @cons off sz i x v ps vs hp hx _ ih =>
    intro cs cs' cells hR hf
    simp only [fillA] at hf
    split at hf
    · rename_i ds hds
      split at hf
      · rename_i h1
        split at hf
        · rename_i h2
          have h1 := beq_eq h1
          have h2 := ble_le h2
          rw [setN_cells] at hf
          simp only at hf
          have hc := cells_rel hds hx
          have hl := hc.length
          have hl' : v.cells.size = sz := by rw [← h1, hl]; simp
          have hcl : cells.size = cs.length := by rw [hR.length]; simp
          have hset : All2 (RAt β H) (setSeq cs off ds) (v.cells.zipIdx.foldl (fun (cs : Array Value) (p : Value × Nat) => cs.setIfInBounds (off + p.2) p.1) cells).toList := by
            have := foldl_set off v.cells.toList 0 cells
            rw [← Array.foldl_toList, Array.toList_zipIdx, this]
            exact hc.setSeq hR off
          obtain ⟨cells', k1, k2⟩ := ih hset hf
          refine ⟨cells', ?_, k2⟩
          unfold Instr.fill
          simp only [hp, hl', hcl]
          rw [if_neg (by simp; omega)]
          exact k1
        · cases hf
      · cases hf
    · cases hf

/-! ### A row of a block is written -/
theorem store_row {P : Program} {B : Nat} {e : TypeId} : ∀ (vs : List Value) {w : World} {c : Array Value} (hc : w.heap[B]? = some (.cells c e (0, 0))) {off i : Nat} (hle : off + i + vs.length ≤ c.size) (h1 : ∀ v ∈ vs, oneV v = true),
    ∃ w' c', (storeCells ⟨B, off, none⟩ vs i).run P w = .ok () w' ∧ w'.os = w.os ∧ w'.tape = w.tape ∧ w'.output = w.output ∧ w'.heap.size = w.heap.size ∧ (∀ k, k ≠ B → w'.heap[k]? = w.heap[k]?) ∧
      w'.heap[B]? = some (.cells c' e (0, 0)) ∧ c'.size = c.size ∧ (∀ j, j < off + i → c'[j]? = c[j]?) ∧ (∀ j, j < vs.length → c'[off + i + j]? = vs[j]?)
  | [], w, c, hc, off, i, hle, h1 => ⟨w, c, by simp [storeCells], rfl, rfl, rfl, rfl, fun _ _ => rfl, hc, rfl, fun _ _ => rfl, fun j hj => by simp at hj⟩
  | v :: vs, w, c, hc, off, i, hle, h1 => by
    simp only [List.length_cons] at hle
    have hfz : w.frozen? ⟨B, off + i, none⟩ = false := by simp [World.frozen?, hc]
    have hcl : ∃ u, w.cell? ⟨B, off + i, none⟩ = some u := by
      have : off + i < c.size := by omega
      exact ⟨c[off + i], by simp [World.cell?, hc, this]⟩
    obtain ⟨u, hu⟩ := hcl
    have hone : v.oneCell' = true := by
      have := h1 v (by simp)
      cases v <;> first | rfl | cases this
    have hrun : (store ⟨B, off + i, none⟩ v).run P w = .ok () (w.setCell ⟨B, off + i, none⟩ v) := by rw [run_store P w _ v .plain hone]; simp [hu, hfz]
    obtain ⟨w', c', k1, k2, k3, k4, k5, k6, k7, k8, k9, k10⟩ := store_row vs (cells_modify hc (off + i) v) (off := off) (i := i + 1) (by simp; omega) (fun v hv => h1 v (by simp [hv]))
    refine ⟨w', c', ?_, k2, k3, k4, by rw [k5]; simp, fun k hk => (k6 k hk).trans (setCell_block w _ v k hk), k7, by rw [k8]; simp, fun j hj => ?_, fun j hj => ?_⟩
    · simp only [storeCells, Sem.run_bind, add_none, hrun, Result.andThen_ok]
      exact k1
    · rw [k9 j (by omega), Array.getElem?_setIfInBounds_ne (by omega)]
    · cases j with
      | zero =>
        rw [k9 _ (by omega)]
        simp only [Nat.add_zero, List.getElem?_cons_zero]
        rw [Array.getElem?_setIfInBounds_self_of_lt (by omega)]
      | succ j =>
        have := k10 j (by simpa using hj)
        rw [show off + i + (j + 1) = off + (i + 1) + j by omega, this]
        simp

end
end Go.Rf
