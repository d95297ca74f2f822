/-
  slices.Insert at []float32: as the evaluator has it.
-/
import Derived.Test.YtcbldlfdjabeaaaAddKnotAk1
import Derived.Test.YtcbldlfdjabeaaaA1
set_option linter.unusedVariables false
set_option linter.unusedSimpArgs false
namespace Go.Proofs.Ytcbldlfdjabeaaa
open Go Go.Shelf Go.RowKit Go.Lib Go.Proofs Go.Rf

theorem one_cell {u : Value} (h : oneV u = true) : u.oneCell' = true := by cases u <;> first | rfl | cases h
theorem setCells_keeps (B : Nat) : ∀ (vs : List Value) (o : Nat) (w : World) (cc : Array Value) (e : TypeId), w.heap[B]? = some (.cells cc e (0, 0)) →
    (w.setCells B o vs).os = w.os ∧ (w.setCells B o vs).tape = w.tape ∧ (w.setCells B o vs).output = w.output ∧ (w.setCells B o vs).heap.size = w.heap.size ∧ (∀ k, k ≠ B → (w.setCells B o vs).heap[k]? = w.heap[k]?) ∧
      ∃ c', (w.setCells B o vs).heap[B]? = some (.cells c' e (0, 0)) ∧ c'.size = cc.size
  | [], o, w, cc, e, h => ⟨rfl, rfl, rfl, rfl, fun _ _ => rfl, cc, h, rfl⟩
  | v :: r, o, w, cc, e, h => by
    have hs : (w.setCell ⟨B, o, none⟩ v).heap[B]? = some (.cells (cc.setIfInBounds o v) e (0, 0)) := by
      show (w.heap.modify B _)[B]? = _
      rw [Array.getElem?_modify, if_pos rfl, h]; rfl
    obtain ⟨h1, h2, h3, h4, h5, c', h6, h7⟩ := setCells_keeps B r (o + 1) (w.setCell ⟨B, o, none⟩ v) _ e hs
    refine ⟨h1, h2, h3, ?_, fun k hk => ?_, c', h6, by rw [h7]; simp⟩
    · rw [World.setCells, h4]
      show (w.heap.modify B _).size = _
      simp
    · rw [World.setCells, h5 k hk]
      show (w.heap.modify B _)[k]? = _
      rw [Array.getElem?_modify, if_neg (fun e => hk e.symm)]
theorem cell_of {w : World} {B : Nat} {cc : Array Value} {e : TypeId} (h : w.heap[B]? = some (.cells cc e (0, 0))) (j : Nat) : w.cell? ⟨B, j, none⟩ = cc[j]? := by simp [World.cell?, h]
theorem froz_of {w : World} {B : Nat} {cc : Array Value} {e : TypeId} (h : w.heap[B]? = some (.cells cc e (0, 0))) (j : Nat) : w.frozen? ⟨B, j, none⟩ = false := by simp [World.frozen?, h]
theorem shape_of {w : World} {B : Nat} {cc : Array Value} {e : TypeId} (h : w.heap[B]? = some (.cells cc e (0, 0))) : w.shape? B = some (e, cc.size) := by simp [World.shape?, h]
theorem two_rows {w : World} {B n i : Nat} {cc : Array Value} {e : TypeId} {cs : List Value} {v : Value} (h : w.heap[B]? = some (.cells cc e (0, 0))) (hcc : n + 1 ≤ cc.size) (hi : i < n) (hcl : cs.length = n) (hcs : ∀ (j : Nat) (u : Value), j < i → cs[j]? = some u → cc[j]? = some u)
    (j : Nat) (hj : j < n + 1) : (((w.setCells B (i + 1) (cs.drop i)).setCells B i [v]).cell? ⟨B, j, none⟩ = (cs.take i ++ v :: cs.drop i)[j]?) ∧ (((w.setCells B i [v]).setCells B (i + 1) (cs.drop i)).cell? ⟨B, j, none⟩ = (cs.take i ++ v :: cs.drop i)[j]?) := by
  have hdl : (cs.drop i).length = n - i := by rw [List.length_drop, hcl]
  obtain ⟨_, _, _, _, _, c1, k1, k2⟩ := setCells_keeps B (cs.drop i) (i + 1) w cc e h
  obtain ⟨_, _, _, _, _, c2, k3, k4⟩ := setCells_keeps B [v] i w cc e h
  have s0 : ∀ (t : Nat) (W : World) (c : Array Value), W.heap[B]? = some (.cells c e (0, 0)) → c.size = cc.size → t < n + 1 → (W.cell? ⟨B, t, none⟩).isSome = true := fun t W c hW hs ht => by
    rw [cell_of hW, Array.getElem?_eq_getElem (by omega)]; rfl
  rw [in_get _ _ _ (by omega)]
  by_cases h1 : j < i
  · rw [if_pos h1]
    have e0 : cc[j]? = cs[j]? := by
      rw [List.getElem?_eq_getElem (by omega)]
      exact hcs j _ h1 (List.getElem?_eq_getElem (by omega))
    refine ⟨?_, ?_⟩
    · rw [World.cell?_setCells_out B [v] i _ ⟨B, j, none⟩ (fun _ _ => .inl (by simpa using h1)), World.cell?_setCells_out B _ (i + 1) w ⟨B, j, none⟩ (fun _ _ => .inl (by show j < i + 1; omega)), cell_of h, e0]
    · rw [World.cell?_setCells_out B _ (i + 1) _ ⟨B, j, none⟩ (fun _ _ => .inl (by show j < i + 1; omega)), World.cell?_setCells_out B [v] i w ⟨B, j, none⟩ (fun _ _ => .inl (by simpa using h1)), cell_of h, e0]
  · rw [if_neg h1]
    by_cases h2 : j = i
    · subst h2
      rw [if_pos rfl]
      refine ⟨?_, ?_⟩
      · have := World.cell?_setCells_in B [v] j (w.setCells B (j + 1) (cs.drop j)) (fun t ht => by simp at ht; subst ht; exact s0 _ _ _ k1 k2 (by omega)) 0 (by simp)
        simpa using this
      · rw [World.cell?_setCells_out B _ (j + 1) _ ⟨B, j, none⟩ (fun _ _ => .inl (by show j < j + 1; omega))]
        have := World.cell?_setCells_in B [v] j w (fun t ht => by simp at ht; subst ht; exact s0 _ _ _ h rfl (by omega)) 0 (by simp)
        simpa using this
    · rw [if_neg h2]
      obtain ⟨m, rfl⟩ : ∃ m, j = i + 1 + m := ⟨j - (i + 1), by omega⟩
      have em : (cs.drop i)[m]? = cs[i + 1 + m - 1]? := by rw [List.getElem?_drop]; congr 1; omega
      have hm : m < (cs.drop i).length := by omega
      have em' : some (cs.drop i)[m] = cs[i + 1 + m - 1]? := by rw [← em, List.getElem?_eq_getElem hm]
      refine ⟨?_, ?_⟩
      · rw [World.cell?_setCells_out B [v] i _ ⟨B, i + 1 + m, none⟩ (fun _ _ => .inr (by show i + 1 ≤ i + 1 + m; omega)), ← em']
        exact World.cell?_setCells_in B _ (i + 1) w (fun t ht => s0 _ _ _ h rfl (by omega)) m hm
      · rw [← em']
        exact World.cell?_setCells_in B _ (i + 1) _ (fun t ht => s0 _ _ _ k3 k4 (by omega)) m hm
theorem heap_push (w : World) (o : Obj) : (w.alloc o).heap = w.heap.push o := rfl
theorem ins_row : InsRow Try.prog 54 := by
  intro B n c i vb voff vc cc cv e ev cs v w hB hV hne hcc hin hnc h40 hcl hcs hv hov hos
  refine ⟨Try.call54 _ _, ?_⟩
  have hcs' : ∀ (j : Nat) (u : Value), cs[j]? = some u → w.cell? ⟨B, 0 + j, none⟩ = some u := fun j u hj => by rw [Nat.zero_add, cell_of hB]; exact hcs j u hj
  have hvs : w.cell? ⟨vb, voff, none⟩ = some v := by rw [cell_of hV]; exact hv
  have h1c : ∀ u ∈ cs, u.oneCell' = true := fun u hu => one_cell (hos u hu)
  have h1v := one_cell hov
  by_cases hroom : n + 1 ≤ c
  · by_cases hlt : i < n
    · refine (ins_shift B n c i vb voff vc cs v w hlt hroom h40 hne hcl hcs' (fun j hj => by rw [Nat.zero_add, cell_of hB, Array.getElem?_eq_getElem (by omega)]; rfl) (fun j hj => froz_of hB _) hvs h1c h1v ev e cv.size cc.size (shape_of hV) (shape_of hB) (by omega) (froz_of hV _) (froz_of hV _)).mono fun E w' ⟨g1, g2⟩ => ⟨_, g1, .inl ⟨hroom, rfl, ?_⟩⟩
      obtain ⟨a1, a2, a3, a4, a5, c1, a6, a7⟩ := setCells_keeps B (cs.drop i) (i + 1) w.drew cc e hB
      obtain ⟨b1, b2, b3, b4, b5, c2, b6, b7⟩ := setCells_keeps B [v] i _ c1 e a6
      rw [g2]
      refine ⟨b1.trans a1, b2.trans a2, b3.trans a3, b4.trans a4, fun k hk => (b5 k hk).trans (a5 k hk), c2, e, b6, by rw [b7, a7], fun j hj => ?_⟩
      rw [← cell_of b6]
      exact (two_rows (w := w.drew) hB (by omega) hlt hcl (fun j u _ hj => hcs j u hj) j hj).1
    · obtain rfl : i = n := by omega
      refine (ins_end_room B i c vb voff vc v w hroom h40 (by rw [cell_of hB, Array.getElem?_eq_getElem (by omega)]; rfl) (froz_of hB _) hvs h1v).mono fun E w' ⟨g1, g2⟩ => ⟨_, g1, .inl ⟨hroom, rfl, ?_⟩⟩
      obtain ⟨b1, b2, b3, b4, b5, c2, b6, b7⟩ := setCells_keeps B [v] i w cc e hB
      rw [g2]
      refine ⟨b1, b2, b3, b4, b5, c2, e, b6, b7, fun j hj => ?_⟩
      rw [← cell_of b6, in_get _ _ _ (by omega)]
      by_cases h1 : j < i
      · rw [if_pos h1, World.cell?_setCells_out B [v] i _ ⟨B, j, none⟩ (fun _ _ => .inl (by simpa using h1)), cell_of hB, List.getElem?_eq_getElem (by omega)]
        exact hcs j _ (List.getElem?_eq_getElem (by omega))
      · obtain rfl : j = i := by omega
        rw [if_neg h1, if_pos rfl]
        have := World.cell?_setCells_in B [v] j w (fun t ht => by simp at ht; subst ht; rw [Nat.add_zero, cell_of hB, Array.getElem?_eq_getElem (by omega)]; rfl) 0 (by simp)
        simpa using this
  · have hfull : c < n + 1 := by omega
    have hbig : (n + 1) * 4 ≤ 140737488355328 := by omega
    have hge := grownCap_ge w (n + 1) c 28
    by_cases hlt : i < n
    · refine (ins_grow B n c i vb voff vc cs v w hlt hnc hfull hbig hcl hcs' hvs h1c h1v).mono fun E w' ⟨g1, g2⟩ => ⟨_, g1, .inr ?_⟩
      generalize hG : grownCap w (n + 1) c 28 = G at g1 g2 hge ⊢
      have hsz : ((cs.take i).toArray ++ Builtin.zeroCells (Value.float .f32 0).cells (n + 1 - i) ++ Builtin.zeroCells (Value.float .f32 0).cells (G - (n + 1))).size = G := by
        simp [Builtin.zeroCells, Value.cells]; omega
      have hpre : ∀ (j : Nat) (u : Value), j < i → cs[j]? = some u → ((cs.take i).toArray ++ Builtin.zeroCells (Value.float .f32 0).cells (n + 1 - i) ++ Builtin.zeroCells (Value.float .f32 0).cells (G - (n + 1)))[j]? = some u := fun j u hj hu => by
        rw [Array.getElem?_append_left (by simp [Builtin.zeroCells, Value.cells]; omega), Array.getElem?_append_left (by simp; omega)]
        simp only [List.getElem?_toArray]
        rw [List.getElem?_take_of_lt hj]
        exact hu
      generalize ((cs.take i).toArray ++ Builtin.zeroCells (Value.float .f32 0).cells (n + 1 - i) ++ Builtin.zeroCells (Value.float .f32 0).cells (G - (n + 1))) = ROW at g2 hsz hpre
      have hS : ((w.alloc (.cells ROW 28)).drew).heap[w.heap.size]? = some (.cells ROW 28 (0, 0)) := by
        show (w.heap.push _)[w.heap.size]? = _
        simp
      obtain ⟨a1, a2, a3, a4, a5, c1, a6, a7⟩ := setCells_keeps w.heap.size [v] i _ ROW 28 hS
      obtain ⟨b1, b2, b3, b4, b5, c2, b6, b7⟩ := setCells_keeps w.heap.size (cs.drop i) (i + 1) (((w.alloc (.cells ROW 28)).drew.setCells w.heap.size i [v]).drew) c1 28 a6
      rw [← g2] at b1 b2 b3 b4 b5 b6
      refine ⟨G, c2, 28, rfl, hge, by omega, ⟨?_, b1.trans a1, b2.trans a2, b3.trans a3⟩, fun j hj => ?_⟩
      · refine Array.ext_getElem? fun k => ?_
        rw [heap_push]
        by_cases hk : k = w.heap.size
        · subst hk; rw [b6]; simp
        · rw [b5 k hk]
          refine (a5 k hk).trans ?_
          show (w.heap.push _)[k]? = _
          rw [Array.getElem?_push, Array.getElem?_push, if_neg hk, if_neg hk]
      · rw [← cell_of b6, g2]
        have := (two_rows (w := (w.alloc (.cells ROW 28)).drew) (v := v) hS (by omega) hlt hcl hpre j hj).2
        rw [← drew_setCells w.heap.size (cs.drop i) (i + 1) ((w.alloc (.cells ROW 28)).drew.setCells w.heap.size i [v])]
        exact this
    · obtain rfl : i = n := by omega
      refine (ins_end_grow B i c vb voff vc cs v w hnc hfull hbig hcl hcs' hvs h1v).mono fun E w' ⟨g1, g2⟩ => ⟨_, g1, .inr ?_⟩
      generalize hG : grownCap w (i + 1) c 28 = G at g1 g2 hge ⊢
      refine ⟨G, _, 28, rfl, hge, ?_, by rw [g2]; exact ⟨rfl, rfl, rfl, rfl⟩, fun j hj => ?_⟩
      · simp [Builtin.zeroCells, Value.cells]; omega
      · rw [Array.getElem?_append_left (by simp; omega), List.getElem?_toArray, in_get _ _ _ (by omega)]
        by_cases h1 : j < i
        · rw [if_pos h1, List.getElem?_append_left (by omega)]
        · obtain rfl : j = i := by omega
          rw [if_neg h1, if_pos rfl, List.getElem?_append_right (by omega), hcl, Nat.sub_self]; rfl
end Go.Proofs.Ytcbldlfdjabeaaa
