/-
  A region whose order is drawn: every order comes to what the text's order comes to.
-/
import Derived.Test.YtohhkgieggfpeaaD1
set_option linter.unusedVariables false
namespace Go.Rf
open Go

/-! ### Folds looked at in one place -/
theorem fold_loc {α β : Type} {f : β → Nat → β} {obs : β → α} {g : Nat → α → α} (h : ∀ b i, obs (f b i) = g i (obs b)) : ∀ (L : List Nat) (b : β), obs (L.foldl f b) = L.foldl (fun c i => g i c) (obs b)
  | [], b => rfl
  | i :: L, b => by simp only [List.foldl_cons]; rw [fold_loc h L, h]
theorem fold_filter {α : Type} {g : Nat → α → α} {p : Nat → Bool} (h : ∀ i c, p i = false → g i c = c) : ∀ (L : List Nat) (c : α), L.foldl (fun c i => g i c) c = (L.filter p).foldl (fun c i => g i c) c
  | [], c => rfl
  | i :: L, c => by
    simp only [List.foldl_cons, List.filter_cons]
    cases hp : p i with
    | true => simp only [if_true, List.foldl_cons]; exact fold_filter h L _
    | false => simp only [Bool.false_eq_true, if_false]; rw [h i c hp]; exact fold_filter h L _

theorem sorted_ext : ∀ {l l' : List Nat}, l.Pairwise (· < ·) → l'.Pairwise (· < ·) → (∀ x, x ∈ l ↔ x ∈ l') → l = l'
  | [], [], _, _, _ => rfl
  | [], b :: l', _, _, h => by have := (h b).2 (by simp); cases this
  | a :: l, [], _, _, h => by have := (h a).1 (by simp); cases this
  | a :: l, b :: l', h1, h2, h => by
    obtain ⟨p1, q1⟩ := List.pairwise_cons.1 h1
    obtain ⟨p2, q2⟩ := List.pairwise_cons.1 h2
    have hab : a = b := by
      have ha := (h a).1 (by simp)
      have hb := (h b).2 (by simp)
      rcases List.mem_cons.1 ha with e | ha
      · exact e
      · rcases List.mem_cons.1 hb with e | hb
        · exact e.symm
        · have := p2 a ha; have := p1 b hb; omega
    subst hab
    congr 1
    refine sorted_ext q1 q2 fun x => ⟨fun hx => ?_, fun hx => ?_⟩
    · rcases List.mem_cons.1 ((h x).1 (by simp [hx])) with e | h'
      · subst e; have := p1 x hx; omega
      · exact h'
    · rcases List.mem_cons.1 ((h x).2 (by simp [hx])) with e | h'
      · subst e; have := p2 x hx; omega
      · exact h'

/-! ### The state, place by place -/
section
variable (E : List (Oper × Deed)) (S0 : St)
def apI (S : St) (i : Nat) : St := match E[i]? with | some p => ap p S | none => S
def sOf (L : List Nat) : St := L.foldl (apI E) S0
def effT (d i : Nat) (c : AV) : AV := match E[i]? with | some p => if p.1.dst = some d then p.2.v else c | none => c
def effB : List (Nat × Blk) → Nat → Option Blk → Option Blk
  | [], _, x => x
  | (u, b) :: r, t, x => effB r t (if t = u then x.map fun _ => b else x)
def effBI (t i : Nat) (c : Option Blk) : Option Blk := match E[i]? with | some p => effB p.2.ed t c | none => c
def wT (d i : Nat) : Bool := match E[i]? with | some p => decide (p.1.dst = some d) | none => false
def wB (t i : Nat) : Bool := match E[i]? with | some p => decide (t ∈ fsts p.2.ed) | none => false
end

theorem nth_setL (H : List Blk) (u : Nat) (b : Blk) (t : Nat) : nth (setL H u b) t = if t = u then (nth H t).map fun _ => b else nth H t := by
  rw [setL_eq, nth_eq, nth_eq]
  by_cases e : t = u
  · subst e
    rw [if_pos rfl]
    by_cases h : t < H.length
    · rw [List.getElem?_set_self h, List.getElem?_eq_getElem h]; rfl
    · rw [List.getElem?_eq_none (by simpa using Nat.le_of_not_lt h), List.getElem?_eq_none (by omega)]; rfl
  · rw [if_neg e, List.getElem?_set_ne (Ne.symm e)]
theorem nth_edit : ∀ (ed : List (Nat × Blk)) (H : List Blk) (t : Nat), nth (edit ed H) t = effB ed t (nth H t)
  | [], H, t => rfl
  | (u, b) :: r, H, t => by simp only [edit, effB]; rw [nth_edit r, nth_setL]
theorem effB_id : ∀ (ed : List (Nat × Blk)) (t : Nat) (x : Option Blk), t ∉ fsts ed → effB ed t x = x
  | [], t, x, _ => rfl
  | (u, b) :: r, t, x, h => by
    simp only [fsts, List.mem_cons, not_or] at h
    simp only [effB, if_neg h.1]
    exact effB_id r t x h.2

section
variable {E : List (Oper × Deed)} {S0 : St}
theorem get_sOf (L L' : List Nat) (d : Nat) (h : L.filter (wT E d) = L'.filter (wT E d)) : get (sOf E S0 L).tm d = get (sOf E S0 L').tm d := by
  have step : ∀ (b : St) (i : Nat), get (apI E b i).tm d = effT E d i (get b.tm d) := by
    intro b i
    unfold apI effT
    split
    · simp only [ap]; rw [get_put]
    · rfl
  have id_ : ∀ (i : Nat) (c : AV), wT E d i = false → effT E d i c = c := by
    intro i c hw
    unfold wT at hw
    unfold effT
    split
    · rename_i p hp
      rw [hp] at hw
      rw [if_neg (by simpa using hw)]
    · rfl
  have key : ∀ L, get (sOf E S0 L).tm d = (L.filter (wT E d)).foldl (fun c i => effT E d i c) (get S0.tm d) := fun L => by
    unfold sOf
    rw [fold_loc (obs := fun S : St => get S.tm d) (g := effT E d) step, fold_filter id_]
  rw [key, key, h]
theorem nth_sOf (L L' : List Nat) (t : Nat) (h : L.filter (wB E t) = L'.filter (wB E t)) : nth (sOf E S0 L).H t = nth (sOf E S0 L').H t := by
  have step : ∀ (b : St) (i : Nat), nth (apI E b i).H t = effBI E t i (nth b.H t) := by
    intro b i
    unfold apI effBI
    split
    · simp only [ap]; rw [nth_edit]
    · rfl
  have id_ : ∀ (i : Nat) (c : Option Blk), wB E t i = false → effBI E t i c = c := by
    intro i c hw
    unfold wB at hw
    unfold effBI
    split
    · rename_i p hp
      rw [hp] at hw
      exact effB_id _ _ _ (by simpa using hw)
    · rfl
  have key : ∀ L, nth (sOf E S0 L).H t = (L.filter (wB E t)).foldl (fun c i => effBI E t i c) (nth S0.H t) := fun L => by
    unfold sOf
    rw [fold_loc (obs := fun S : St => nth S.H t) (g := effBI E t) step, fold_filter id_]
  rw [key, key, h]
theorem len_sOf (L : List Nat) : ∀ S0 : St, (sOf E S0 L).H.length = S0.H.length := by
  induction L with
  | nil => intro S0; rfl
  | cons i L ih =>
    intro S0
    have : sOf E S0 (i :: L) = sOf E (apI E S0 i) L := rfl
    rw [this, ih]
    unfold apI
    split
    · simp only [ap, edit_length]
    · rfl
theorem runE_append (E' : List (Oper × Deed)) (p : Oper × Deed) : ∀ (F : List (Oper × Deed)) (S : St), runE (F ++ [p]) S = ap p (runE F S)
  | [], S => rfl
  | q :: F, S => by simp only [List.cons_append, runE]; exact runE_append E' p F _
theorem sOf_range : ∀ (j : Nat), j ≤ E.length → sOf E S0 (List.range j) = runE (E.take j) S0
  | 0, _ => by simp [sOf, runE]
  | j + 1, h => by
    have hj : j < E.length := h
    rw [List.range_succ]
    have : sOf E S0 (List.range j ++ [j]) = apI E (sOf E S0 (List.range j)) j := by simp [sOf, List.foldl_append]
    rw [this, sOf_range j (by omega), List.take_add_one, List.getElem?_eq_getElem hj]
    simp only [Option.toList_some]
    rw [runE_append E]
    unfold apI
    rw [List.getElem?_eq_getElem hj]
end

/-! ### Operations that nothing orders -/
structure Ind (all : List Oper) (p q : Oper × Deed) : Prop where
  a : ∀ d, p.1.dst = some d → ¬ looks all q.1 d ∧ q.1.dst ≠ some d
  b : ∀ d, q.1.dst = some d → ¬ looks all p.1 d
  c : ∀ t, t ∈ fsts p.2.ed → t ∉ fsts q.2.ed ∧ t ∉ q.2.rd
  d : ∀ t, t ∈ fsts q.2.ed → t ∉ p.2.rd
theorem Ind.symm {all : List Oper} {p q : Oper × Deed} (h : Ind all p q) : Ind all q p :=
  ⟨fun d hd => ⟨h.b d hd, fun e => (h.a d e).2 hd⟩, fun d hd => (h.a d hd).1, fun t ht => ⟨fun e => (h.c t e).1 ht, h.d t ht⟩, fun t ht => (h.c t ht).2⟩

def bitOf (bf : List Nat) (i j : Nat) : Bool := match bf[i]? with | some m => m.testBit j | none => false

section
variable {E : List (Oper × Deed)} {S0 : St} {all : List Oper} {bf : List Nat}
/-- What has been done so far, in its order. -/
structure Done (E : List (Oper × Deed)) (all : List Oper) (bf : List Nat) (L : List Nat) : Prop where
  nd : L.Nodup
  lt : ∀ i ∈ L, i < E.length
  cl : ∀ i ∈ L, ∀ j, bitOf bf i j = true → j ∈ L
  pw : L.Pairwise fun j k => j < k ∨ ∀ p q, E[j]? = some p → E[k]? = some q → Ind all p q

def Inds (E : List (Oper × Deed)) (all : List Oper) (bf : List Nat) : Prop := ∀ i j p q, j < i → E[i]? = some p → E[j]? = some q → bitOf bf i j = true ∨ Ind all p q

theorem wT_true {d i : Nat} (h : wT E d i = true) : ∃ p, E[i]? = some p ∧ p.1.dst = some d := by
  unfold wT at h
  split at h
  · rename_i p hp; exact ⟨p, hp, by simpa using h⟩
  · cases h
theorem wB_true {d i : Nat} (h : wB E d i = true) : ∃ p, E[i]? = some p ∧ d ∈ fsts p.2.ed := by
  unfold wB at h
  split at h
  · rename_i p hp; exact ⟨p, hp, by simpa using h⟩
  · cases h

/-- What writes one place does so in the text's order. -/
theorem Done.filter_sorted {L : List Nat} (h : Done E all bf L) {f : Nat → Bool} (hf : ∀ j k p q, f j = true → f k = true → E[j]? = some p → E[k]? = some q → ¬ Ind all p q) : (L.filter f).Pairwise (· < ·) := by
  refine (h.pw.filter f).imp_of_mem fun {j k} hj hk hjk => ?_
  obtain ⟨hj1, hj2⟩ := List.mem_filter.1 hj
  obtain ⟨hk1, hk2⟩ := List.mem_filter.1 hk
  rcases hjk with hjk | hjk
  · exact hjk
  · have e1 := List.getElem?_eq_getElem (h.lt j hj1)
    have e2 := List.getElem?_eq_getElem (h.lt k hk1)
    exact absurd (hjk _ _ e1 e2) (hf j k _ _ hj2 hk2 e1 e2)
theorem range_sorted (n : Nat) (f : Nat → Bool) : ((List.range n).filter f).Pairwise (· < ·) := List.pairwise_lt_range.filter f
theorem T_no {d : Nat} : ∀ j k p q, wT E d j = true → wT E d k = true → E[j]? = some p → E[k]? = some q → ¬ Ind all p q := by
  intro j k p q h1 h2 e1 e2 hi
  obtain ⟨p', k1, k2⟩ := wT_true h1
  obtain ⟨q', k3, k4⟩ := wT_true h2
  rw [e1] at k1; cases k1
  rw [e2] at k3; cases k3
  exact (hi.a d k2).2 k4
theorem B_no {d : Nat} : ∀ j k p q, wB E d j = true → wB E d k = true → E[j]? = some p → E[k]? = some q → ¬ Ind all p q := by
  intro j k p q h1 h2 e1 e2 hi
  obtain ⟨p', k1, k2⟩ := wB_true h1
  obtain ⟨q', k3, k4⟩ := wB_true h2
  rw [e1] at k1; cases k1
  rw [e2] at k3; cases k3
  exact (hi.c d k2).1 k4

/-- What an operation looks at stands as it stands in the text's order. -/
theorem Done.reads {L : List Nat} (h : Done E all bf L) (hI : Inds E all bf) {i : Nat} {p : Oper × Deed} (hp : E[i]? = some p) (hn : i ∉ L) (hb : ∀ j, bitOf bf i j = true → j ∈ L) {f : Nat → Bool}
    (hf : ∀ j k p q, f j = true → f k = true → E[j]? = some p → E[k]? = some q → ¬ Ind all p q) (hr : ∀ j q, f j = true → E[j]? = some q → ¬ Ind all p q) : L.filter f = (List.range i).filter f := by
  have hil : i < E.length := (List.getElem?_eq_some_iff.1 hp).1
  refine sorted_ext (h.filter_sorted hf) (range_sorted i f) fun x => ?_
  simp only [List.mem_filter, List.mem_range]
  constructor
  · rintro ⟨hx, hfx⟩
    refine ⟨?_, hfx⟩
    have e := List.getElem?_eq_getElem (h.lt x hx)
    rcases Nat.lt_trichotomy x i with hlt | rfl | hgt
    · exact hlt
    · exact absurd hx hn
    · rcases hI x i _ _ hgt e hp with hbit | hind
      · exact absurd (h.cl x hx i hbit) hn
      · exact absurd hind.symm (hr x _ hfx e)
  · rintro ⟨hx, hfx⟩
    refine ⟨?_, hfx⟩
    have e := List.getElem?_eq_getElem (Nat.lt_trans hx hil)
    rcases hI i x _ _ hx hp e with hbit | hind
    · exact hb x hbit
    · exact absurd hind (hr x _ hfx e)

theorem Done.step {L : List Nat} (h : Done E all bf L) (hI : Inds E all bf) {i : Nat} (hi : i < E.length) (hn : i ∉ L) (hb : ∀ j, bitOf bf i j = true → j ∈ L) : Done E all bf (L ++ [i]) := by
  refine ⟨List.nodup_append.2 ⟨h.nd, by simp, fun a ha b hb' => ?_⟩, fun j hj => ?_, fun j hj k hk => ?_, List.pairwise_append.2 ⟨h.pw, by simp, fun j hj k hk => ?_⟩⟩
  · simp at hb'; subst hb'; intro e; subst e; exact hn ha
  · rcases List.mem_append.1 hj with hj | hj
    · exact h.lt j hj
    · simp at hj; subst hj; exact hi
  · rcases List.mem_append.1 hj with hj | hj
    · exact List.mem_append_left _ (h.cl j hj k hk)
    · simp at hj; subst hj; exact List.mem_append_left _ (hb k hk)
  · simp at hk
    subst hk
    rcases Nat.lt_trichotomy j k with hlt | rfl | hgt
    · exact .inl hlt
    · exact absurd hj hn
    · right
      intro p q hp hq
      rcases hI j k p q hgt hp hq with hbit | hind
      · exact absurd (h.cl j hj k hbit) hn
      · exact hind

/-- All is done: the state looks as in the text's order. -/
theorem Done.all_ {L : List Nat} (h : Done E all bf L) (hall : ∀ i, i < E.length → i ∈ L) : EqS (sOf E S0 L) (runE E S0) := by
  have hm : ∀ (f : Nat → Bool), (∀ j k p q, f j = true → f k = true → E[j]? = some p → E[k]? = some q → ¬ Ind all p q) → L.filter f = (List.range E.length).filter f := fun f hf =>
    sorted_ext (h.filter_sorted hf) (range_sorted _ f) fun x => by
      simp only [List.mem_filter, List.mem_range]
      exact ⟨fun ⟨a, b⟩ => ⟨h.lt x a, b⟩, fun ⟨a, b⟩ => ⟨hall x a, b⟩⟩
  have e := sOf_range (E := E) (S0 := S0) E.length (Nat.le_refl _)
  rw [List.take_length] at e
  rw [← e]
  refine ⟨fun d => get_sOf _ _ d (hm _ T_no), List.ext_getElem? fun t => ?_⟩
  rw [← nth_eq, ← nth_eq]
  exact nth_sOf _ _ t (hm _ B_no)
end

/-! ### The order among the operations -/
theorem befs_len : ∀ (ops : List Oper) (acc : List Nat), (befs ops acc).length = acc.length + ops.length ∧ ∀ i, i < acc.length → (befs ops acc)[i]? = acc[i]?
  | [], acc => ⟨by simp [befs], fun i _ => by simp [befs]⟩
  | o :: r, acc => by
    simp only [befs]
    generalize hx : (o.after.toList.foldl (fun s e => match Region.binds .any e with | true => s ||| 2 ^ e.on ||| (match nth acc e.on with | some x => x | none => 0) | false => s) 0) = x
    obtain ⟨h1, h2⟩ := befs_len r (acc ++ [x])
    refine ⟨by rw [h1]; simp; omega, fun i hi => ?_⟩
    rw [h2 i (by simp; omega), List.getElem?_append_left hi]
theorem fold_bit {F : Nat → Nat} {j : Nat} : ∀ (es : List Edge) (s : Nat), (es.foldl (fun s e => match Region.binds .any e with | true => s ||| 2 ^ e.on ||| F e.on | false => s) s).testBit j = true →
    s.testBit j = true ∨ ∃ e ∈ es, Region.binds .any e = true ∧ (e.on = j ∨ (F e.on).testBit j = true)
  | [], s, h => .inl h
  | e :: es, s, h => by
    simp only [List.foldl_cons] at h
    rcases fold_bit es _ h with h | ⟨e', h1, h2⟩
    · split at h
      · rename_i hb
        simp only [Nat.testBit_or, Bool.or_eq_true] at h
        rcases h with (h | h) | h
        · exact .inl h
        · refine .inr ⟨e, by simp, hb, .inl ?_⟩
          rw [Nat.testBit_two_pow] at h
          simpa using h
        · exact .inr ⟨e, by simp, hb, .inr h⟩
      · exact .inl h
    · exact .inr ⟨e', by simp [h1], h2⟩
theorem befs_bit : ∀ (ops : List Oper) (acc : List Nat) (i : Nat) (o : Oper), ops[i]? = some o → ∀ (m j : Nat), (befs ops acc)[acc.length + i]? = some m → m.testBit j = true →
    ∃ e ∈ o.after, Region.binds .any e = true ∧ (e.on = j ∨ ∃ m', (befs ops acc)[e.on]? = some m' ∧ m'.testBit j = true)
  | [], acc, i, o, h => by simp at h
  | o' :: r, acc, i, o, h => by
    intro m j hm hj
    simp only [befs] at hm ⊢
    generalize hx : (o'.after.toList.foldl (fun s e => match Region.binds .any e with | true => s ||| 2 ^ e.on ||| (match nth acc e.on with | some x => x | none => 0) | false => s) 0) = x at hm ⊢
    cases i with
    | zero =>
      simp at h
      subst h
      obtain ⟨h1, h2⟩ := befs_len r (acc ++ [x])
      rw [Nat.add_zero, h2 _ (by simp), List.getElem?_append_right (Nat.le_refl _), Nat.sub_self] at hm
      simp at hm
      subst hm
      rw [← hx] at hj
      rcases fold_bit (F := fun n => match nth acc n with | some x => x | none => 0) _ _ hj with h | ⟨e, k1, k2, k3⟩
      · simp at h
      · refine ⟨e, by simpa using k1, k2, k3.imp id fun k3 => ?_⟩
        cases hn : nth acc e.on with
        | none => rw [hn] at k3; simp at k3
        | some m' =>
          rw [hn] at k3
          have hlt : e.on < acc.length := by rw [nth_eq] at hn; exact (List.getElem?_eq_some_iff.1 hn).1
          refine ⟨m', ?_, k3⟩
          rw [h2 _ (by simp; omega), List.getElem?_append_left hlt, ← nth_eq, hn]
    | succ i =>
      exact befs_bit r (acc ++ [x]) i o (by simpa using h) m j (by simpa [Nat.add_assoc, Nat.add_comm 1 i] using hm) hj

theorem slotsOne_spec {ops : Array Oper} {m : Nat} {o : Oper} : ∀ {l : List Oper} {j0 : Nat}, slotsOne ops m o j0 l = true → ∀ j x, l[j]? = some x → m.testBit (j0 + j) = true ∨ Oper.apart ops x o = true
  | [], j0, h, j, x, hx => by simp at hx
  | y :: l, j0, h, j, x, hx => by
    have h0 : m.testBit j0 = true ∨ Oper.apart ops y o = true := by
      simp only [slotsOne] at h
      split at h
      · rename_i hb; exact .inl hb
      · split at h
        · rename_i ha; exact .inr ha
        · cases h
    have h1 : slotsOne ops m o (j0 + 1) l = true := by
      simp only [slotsOne] at h
      split at h
      · exact h
      · split at h
        · exact h
        · cases h
    cases j with
    | zero => simp at hx; subst hx; exact h0
    | succ j =>
      have := slotsOne_spec h1 j x (by simpa using hx)
      rwa [Nat.add_assoc, Nat.add_comm 1 j] at this
theorem slotsOk_spec {ops : Array Oper} {bf : List Nat} : ∀ {l : List Oper} {i0 : Nat}, slotsOk ops bf i0 l = true → ∀ i o, l[i]? = some o → slotsOne ops (match nth bf (i0 + i) with | some m => m | none => 0) o 0 (ops.toList.take (i0 + i)) = true
  | [], i0, h, i, o, ho => by simp at ho
  | y :: l, i0, h, i, o, ho => by
    simp only [slotsOk] at h
    split at h
    · rename_i h1
      cases i with
      | zero => simp at ho; subst ho; exact h1
      | succ i =>
        have := slotsOk_spec h i o (by simpa using ho)
        rwa [Nat.add_assoc, Nat.add_comm 1 i] at this
    · cases h
theorem aftOk_spec : ∀ {l : List Oper} {i0 : Nat}, aftOk i0 l = true → ∀ i o, l[i]? = some o → ∀ e ∈ o.after, Region.binds .any e = true → e.on < i0 + i
  | [], i0, h, i, o, ho => by simp at ho
  | y :: l, i0, h, i, o, ho => by
    simp only [aftOk] at h
    split at h
    · rename_i h1
      cases i with
      | zero =>
        simp at ho; subst ho
        intro e he hb
        rw [List.all_eq_true] at h1
        have := h1 e (by simpa using he)
        rw [hb] at this
        exact blt_lt (by simpa using this)
      | succ i =>
        have := aftOk_spec h i o (by simpa using ho)
        rwa [Nat.add_assoc, Nat.add_comm 1 i] at this
    · cases h

theorem apart2_spec : ∀ {a b : List Nat}, apart2 a b = true → ∀ t, t ∈ a → t ∉ b
  | [], b, h, t, ht => by cases ht
  | u :: r, b, h, t, ht => by
    simp only [apart2] at h
    split at h
    · cases h
    · rename_i hm
      have notin : ∀ {l : List Nat} {t : Nat}, mem t l = false → t ∉ l := by
        intro l
        induction l with
        | nil => intro t _ h; cases h
        | cons u l ih =>
          intro t h hin
          simp only [mem] at h
          split at h
          · cases h
          · rename_i hb
            rcases List.mem_cons.1 hin with rfl | hin
            · simp at hb
            · exact ih h hin
      rcases List.mem_cons.1 ht with rfl | ht
      · exact notin hm
      · exact apart2_spec h t ht
theorem okLog_pw {bf : List Nat} : ∀ {l : List Did}, okLog bf l = true → l.Pairwise fun x y => okPair bf x y = true
  | [], _ => .nil
  | x :: r, h => by
    simp only [okLog] at h
    split at h
    · rename_i h1
      refine List.pairwise_cons.2 ⟨?_, okLog_pw h⟩
      clear h
      induction r with
      | nil => intro y hy; cases hy
      | cons z r ih =>
        simp only [okOne] at h1
        split at h1
        · rename_i h2
          intro y hy
          rcases List.mem_cons.1 hy with rfl | hy
          · exact h2
          · exact ih h1 y hy
        · cases h1
    · cases h
theorem dids_mem : ∀ {E : List (Oper × Deed)} {i j : Nat} {p : Oper × Deed}, E[j]? = some p → p.2.run = true → (⟨i + j, fsts p.2.ed, p.2.rd⟩ : Did) ∈ didsFrom i E
  | [], i, j, p, h, _ => by simp at h
  | q :: E, i, j, p, h, hr => by
    simp only [didsFrom]
    cases j with
    | zero => simp at h; subst h; rw [hr]; simp
    | succ j =>
      have := dids_mem (i := i + 1) (j := j) (p := p) (by simpa using h) hr
      rw [Nat.add_assoc, Nat.add_comm 1 j] at this
      split
      · exact List.mem_cons_of_mem _ this
      · exact this
theorem dids_pair {bf : List Nat} : ∀ {E : List (Oper × Deed)} {i : Nat}, (didsFrom i E).Pairwise (fun x y => okPair bf y x = true) → ∀ {j k : Nat} {p q : Oper × Deed}, j < k → E[j]? = some p → E[k]? = some q → p.2.run = true → q.2.run = true →
    okPair bf ⟨i + k, fsts q.2.ed, q.2.rd⟩ ⟨i + j, fsts p.2.ed, p.2.rd⟩ = true
  | [], i, h, j, k, p, q, hjk, hp, _, _, _ => by simp at hp
  | x :: E, i, h, j, k, p, q, hjk, hp, hq, hpr, hqr => by
    obtain ⟨k, rfl⟩ : ∃ k', k = k' + 1 := ⟨k - 1, by omega⟩
    have hq : E[k]? = some q := by simpa using hq
    simp only [didsFrom] at h
    cases j with
    | zero =>
      simp at hp
      subst hp
      rw [hpr] at h
      have := (List.pairwise_cons.1 h).1 _ (dids_mem (i := i + 1) hq hqr)
      rwa [Nat.add_assoc, Nat.add_comm 1 k] at this
    | succ j =>
      have h' : (didsFrom (i + 1) E).Pairwise (fun x y => okPair bf y x = true) := by
        split at h
        · exact (List.pairwise_cons.1 h).2
        · exact h
      have := dids_pair h' (j := j) (k := k) (by omega) (by simpa using hp) hq hpr hqr
      rwa [Nat.add_assoc, Nat.add_comm 1 k, Nat.add_assoc, Nat.add_comm 1 j] at this

theorem looks_iff {ops : Array Oper} {o : Oper} {d : Nat} (h : looks ops.toList o d) : d ∈ o.looksAt ops := by
  unfold Oper.looksAt
  rcases h with h | ⟨j, want, h1, h2⟩
  · exact List.mem_append_left _ (List.mem_filterMap.2 ⟨.tmp d, by simpa using h, rfl⟩)
  · refine List.mem_append_right _ ?_
    rw [h1]
    simp only
    rw [dstAt_eq h2]
    simp

/-- Operations that nothing orders keep apart. -/
theorem inds_of {Γ : Ctx} {nt : Nat} {ops : Array Oper} {E : List (Oper × Deed)} {S0 : St} {n : Nat} (hE : E.map (·.1) = ops.toList.take n) (hev : ∀ j p, E[j]? = some p → Evs Γ nt ops.toList p (runE (E.take j) S0).tm (runE (E.take j) S0).H)
    (hs : slotsOk ops (befs ops.toList []) 0 ops.toList = true) (hl : okLog (befs ops.toList []) (didsFrom 0 E).reverse = true) : Inds E ops.toList (befs ops.toList []) := by
  have hpw := List.pairwise_reverse.1 (okLog_pw hl)
  intro i j p q hji hp hq
  have hget : ∀ {i : Nat} {p : Oper × Deed}, E[i]? = some p → i < n ∧ ops.toList[i]? = some p.1 := by
    intro i p hp
    have h1 : (E.map (·.1))[i]? = some p.1 := by simp [hp]
    rw [hE] at h1
    have : i < n := by
      have := (List.getElem?_eq_some_iff.1 h1).1
      simp at this; omega
    rw [List.getElem?_take_of_lt this] at h1
    exact ⟨this, h1⟩
  obtain ⟨hin, ho⟩ := hget hp
  obtain ⟨hjn, hx⟩ := hget hq
  have hslot := slotsOne_spec (slotsOk_spec hs i p.1 ho) j q.1 (by rw [Nat.zero_add, List.getElem?_take_of_lt hji]; exact hx)
  rw [Nat.zero_add, Nat.zero_add] at hslot
  have hbit : ∀ {m : Nat}, (befs ops.toList [])[i]? = some m → m.testBit j = true → bitOf (befs ops.toList []) i j = true := by
    intro m h1 h2
    unfold bitOf
    rw [h1]; exact h2
  rcases hslot with h | hap
  · left
    rw [nth_eq] at h
    cases hm : (befs ops.toList [])[i]? with
    | none => rw [hm] at h; simp at h
    | some m => rw [hm] at h; exact hbit hm h
  · obtain ⟨a1, a2, a3⟩ := Oper.apart_spec hap
    have hslots : (∀ d, p.1.dst = some d → ¬ looks ops.toList q.1 d ∧ q.1.dst ≠ some d) ∧ (∀ d, q.1.dst = some d → ¬ looks ops.toList p.1 d) :=
      ⟨fun d hd => ⟨fun hh => a3 d hd (looks_iff hh), fun e => a2 d e hd⟩, fun d hd hh => a1 d hd (looks_iff hh)⟩
    cases hpr : p.2.run with
    | false =>
      obtain ⟨_, e1, e2, _⟩ := (hev i p hp).skp hpr
      right
      exact ⟨hslots.1, hslots.2, (fun t ht => by rw [e1] at ht; cases ht), (fun t ht => by rw [e2]; simp)⟩
    | true =>
      cases hqr : q.2.run with
      | false =>
        obtain ⟨_, e1, e2, _⟩ := (hev j q hq).skp hqr
        right
        exact ⟨hslots.1, hslots.2, (fun t ht => by rw [e1, e2]; simp [fsts]), (fun t ht => by rw [e1] at ht; cases ht)⟩
      | true =>
        have := dids_pair hpw hji hq hp hqr hpr
        simp only [Nat.zero_add] at this
        unfold okPair at this
        simp only at this
        split at this
        · rename_i h
          left
          rw [nth_eq] at h
          cases hm : (befs ops.toList [])[i]? with
          | none => rw [hm] at h; cases h
          | some m => rw [hm] at h; exact hbit hm h
        · simp only [Bool.and_eq_true] at this
          obtain ⟨⟨b1, b2⟩, b3⟩ := this
          right
          exact ⟨hslots.1, hslots.2, fun t ht => ⟨apart2_spec b3 t ht, apart2_spec b1 t ht⟩, fun t ht => apart2_spec b2 t ht⟩
end Go.Rf
