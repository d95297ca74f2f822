/-
  The evaluator answers what the model's runs come to: calls, regions in the text's order.
-/
import Derived.Test.YtohhkgieggfpeaaL2
import Derived.Tactics
set_option linter.unusedVariables false
namespace Go.Rf
open Go

/-- A call of a function, however the model carries it out. -/
def CallRes (P : Program) (f : FuncId) (vals : Array Value) (w : World) (post : Value → World → Prop) : Prop :=
  (∃ v w', (callFunc f vals).run P w = .ok (.value v) w' ∧ post v w') ∨
  ((callFunc f vals).run P w = .ok (.enter f vals) w ∧ Calls P f vals w fun e w' => ∃ v, e = .returned v ∧ post v w')
theorem CallRes.mono {P : Program} {f : FuncId} {vals : Array Value} {w : World} {p q : Value → World → Prop} (h : CallRes P f vals w p) (hpq : ∀ v w', p v w' → q v w') : CallRes P f vals w q := by
  rcases h with ⟨v, w', h1, h2⟩ | ⟨h1, h2⟩
  · exact .inl ⟨v, w', h1, hpq _ _ h2⟩
  · exact .inr ⟨h1, h2.mono fun e w' ⟨v, he, hp⟩ => ⟨v, he, hpq _ _ hp⟩⟩

/-- The evaluator's calls come to what the model's calls come to. -/
def HdOk (P : Program) {R : Type} (hd : FuncId → List AV → List Blk → (AV → List Blk → Option R) → Option R) : Prop :=
  ∀ g args H k r, hd g args H k = some r → ∀ β w (vals : Array Value), WR β H w → All2 (RV β H) args vals.toList →
    CallRes P g vals w fun u w' => ∃ β' v H', Inv β H w β' H' w' ∧ RV β' H' v u ∧ k v H' = some r

/-! ### Deep values -/
def NoB : Bm := fun _ => none
def DA (w : World) : PV → Value → Prop
  | .s a, v => R0 NoB [] a v
  | .row sz len b, v => b.isRow = true ∧ b.size = len * sz ∧ ∃ a cap, v = .slice a len cap ∧ len ≤ cap ∧
      (0 < len → ∃ B o, a = some ⟨B, o, none⟩ ∧ B < w.heap.size ∧ ∀ j q, j < b.size → b.get j = some q → ∃ u, w.cell? ⟨B, o + j, none⟩ = some u ∧ R0 NoB [] q u)
def DT (w : World) : PT → Value → Prop
  | .one p, v => DA w p v
  | .agg ps, v => ∃ arr : Array Value, v = .agg arr ∧ All2 (DA w) ps arr.toList
  | .ptr ps, v => ∃ B o, v = .pointer (some ⟨B, o, none⟩) ∧ B < w.heap.size ∧ ∀ j p, ps[j]? = some p → ∃ u, w.cell? ⟨B, o + j, none⟩ = some u ∧ DA w p u
  | .fn f caps, v => ∃ cs : Array Value, v = .func (.func f) #[] cs ∧ All2 (DA w) caps cs.toList

/-- What is told of functions that only look and make is so. -/
def SumOk (P : Program) (Γ : Ctx) : Prop := ∀ g pts v news, Γ.sum g pts = some (true, v, news) → ∀ w (vals : Array Value), All2 (DT w) pts vals.toList →
  CallRes P g vals w fun u w' => ∃ γ, Fresh γ news w w' ∧ RV γ news v u

section
variable {β0 : Bm} {H0 : List Blk} {w0 : World} {β : Bm} {H : List Blk} {w : World} {P : Program} {Γ : Ctx}

/-- Cells of rows name no block. -/
theorem R0_plain {a : At} {v : Value} {β : Bm} {H : List Blk} (h : RAt β H a v) (hp : ∀ u, m1 u a = false) (hf : isFn a = false) : R0 NoB [] a v := by
  rcases (RAt_iff β H a v).1 h with ⟨f, caps, rfl, _⟩ | h0
  · cases hf
  · exact h0.move fun t ht => by
      have : m1 t a = true := by cases a <;> first | exact ht | cases h0
      rw [hp t] at this; cases this
theorem row_cell {b : Body} (h : b.isRow = true) {j : Nat} {q : At} (hq : b.get j = some q) : isFn q = false := by
  cases b with
  | cells cs => cases h
  | dead n => cases h
  | _ => cases hq; rfl
theorem part_row {b : Body} (h : b.isRow = true) (off n : Nat) : (b.part off n).isRow = true := by
  cases b with
  | cells cs => cases h
  | dead n => cases h
  | _ => rfl

theorem dp_row (hw : WR β H w) {b : Blk} {t off len sz : Nat} (hb : nth H t = some b) (hr : b.body.isRow = true) {B o C : Nat} (hβ : β t = some (B, o, C)) (hle : off + len * sz ≤ szH H t) :
    (b.body.part off (len * sz)).size = len * sz ∧ B < w.heap.size ∧ ∀ j q, j < (b.body.part off (len * sz)).size → (b.body.part off (len * sz)).get j = some q → ∃ u, w.cell? ⟨B, o + off + j, none⟩ = some u ∧ R0 NoB [] q u := by
  have hbr := hw.bl hb hβ
  rw [szH_of hb] at hle
  obtain ⟨p1, p2⟩ := part_facts b.body off (len * sz)
  have hs : (b.body.part off (len * sz)).size = len * sz := by rw [p1]; omega
  refine ⟨hs, hbr.lt, fun j q hj hq => ?_⟩
  rw [hs] at hj
  have := p2 j q (by rw [hs]; exact hj) hq
  obtain ⟨u, h1, h2⟩ := hbr.cell (off + j) q (by omega) this
  refine ⟨u, by rw [Nat.add_assoc]; exact h1, R0_plain h2 (fun u => (row_facts hr).2.2 _ _ _ this) (row_cell hr this)⟩

theorem mtRow_size (q : RowK) : (mtRow q).size = 0 := by cases q <;> rfl

theorem dpA_sound (hw : WR β H w) {T : TypeId} {a : At} {v : Value} (hv : RAt β H a v) {p : PV} {rd : List Nat} (h : dpA Γ H T a = some (p, rd)) : DA w p v := by
  unfold dpA at h
  split at h
  · cases h; exact hv
  · cases h; exact hv
  · cases h; exact hv
  · cases h; exact hv
  · rename_i t off len sz
    split at h
    · rename_i b hb
      split at h
      · rename_i hr
        cases h
        rcases hv with ⟨B, o, C, cap, h1, h2, h3, h4, h5, rfl⟩ | ⟨rfl, a, rfl⟩
        · obtain ⟨k1, k2, k3⟩ := dp_row hw hb hr h1 h3
          exact ⟨part_row hr _ _, k1, _, cap, rfl, h4, fun _ => ⟨B, o + off, rfl, k2, k3⟩⟩
        · refine ⟨part_row hr _ _, ?_, a, 0, rfl, Nat.le_refl _, fun h => absurd h (Nat.lt_irrefl _)⟩
          rw [(part_facts b.body off _).1]; simp
      · cases h
    · cases h
  · rename_i t off len sz
    split at h
    · rename_i b hb
      split at h
      · rename_i hr
        cases h
        obtain ⟨a, cap, rfl, h1, h2⟩ := hv
        refine ⟨part_row hr _ _, ?_, a, cap, rfl, h1, fun hl => ?_⟩
        · by_cases hl : 0 < len
          · obtain ⟨B, o, C, h3, h4, h5, rfl⟩ := h2 hl
            exact (dp_row hw hb hr h3 h5).1
          · obtain rfl : len = 0 := by omega
            rw [(part_facts b.body off _).1]; simp
        · obtain ⟨B, o, C, h3, h4, h5, rfl⟩ := h2 hl
          obtain ⟨k1, k2, k3⟩ := dp_row hw hb hr h3 h5
          exact ⟨B, o + off, rfl, k2, k3⟩
      · cases h
    · cases h
  · split at h
    · split at h
      · split at h
        · split at h
          · rename_i hr
            cases h
            obtain ⟨a, rfl⟩ := hv
            exact ⟨hr, by rw [mtRow_size]; simp, a, 0, rfl, Nat.le_refl _, fun h => absurd h (Nat.lt_irrefl _)⟩
          · cases h
        · cases h
      · cases h
    · cases h
  · cases h
theorem dpAs_sound (hw : WR β H w) : ∀ {as : List At} {vs : List Value} {Ts : List TypeId} {ps : List PV} {rd : List Nat}, All2 (RAt β H) as vs → dpAs Γ H Ts as = some (ps, rd) → All2 (DA w) ps vs
  | [], [], Ts, ps, rd, .nil, h => by simp only [dpAs] at h; cases h; exact .nil
  | a :: as, v :: vs, Ts, ps, rd, .cons h1 h2, h => by
    simp only [dpAs] at h
    split at h
    · rename_i q x qs y e1 e2
      cases h
      exact .cons (dpA_sound hw h1 e1) (dpAs_sound hw h2 e2)
    · cases h
theorem R0s_RAt {as : List At} {vs : List Value} (h : All2 (R0 β H) as vs) : All2 (RAt β H) as vs := h.mono fun a v _ hv => (RAt_iff β H a v).2 (.inr hv)
theorem getN_len : ∀ {n : Nat} {b : Body} {off : Nat} {cs : List At}, getN b off n = some cs → cs.length = n ∧ ∀ j a, cs[j]? = some a → b.get (off + j) = some a
  | 0, b, off, cs, h => by simp only [getN] at h; cases h; exact ⟨rfl, fun j a h => by simp at h⟩
  | n + 1, b, off, cs, h => by
    simp only [getN] at h
    split at h
    · rename_i a ha
      split at h
      · rename_i r hr
        cases h
        obtain ⟨h1, h2⟩ := getN_len hr
        refine ⟨by simp [h1], fun j x hx => ?_⟩
        cases j with
        | zero => simp at hx; subst hx; exact ha
        | succ j => have := h2 j x (by simpa using hx); rw [← Nat.add_assoc, Nat.add_right_comm]; exact this
      · cases h
    · cases h
theorem dpV_sound (hw : WR β H w) {T : TypeId} {x : AV} {v : Value} (hv : RV β H x v) {p : PT} {rd : List Nat} (h : dpV Γ H T x = some (p, rd)) : DT w p v := by
  unfold dpV at h
  split at h
  · rename_i t off ext
    split at h
    · rename_i b hb
      split at h
      · rename_i cs hcs
        split at h
        · cases h
        · split at h
          · rename_i ps x hd
            cases h
            obtain ⟨B, o, C, h1, h2, h3, rfl⟩ := hv
            have hbr := hw.bl hb h1
            rw [szH_of hb] at h3
            obtain ⟨l1, l2⟩ := getN_len hcs
            -- the cells there
            have hall : ∃ vs : List Value, vs.length = ext ∧ (∀ (j : Nat) (u : Value), vs[j]? = some u → w.cell? ⟨B, o + off + j, none⟩ = some u) ∧ All2 (RAt β H) cs vs := by
              have hj : ∀ j, j < ext → ∃ u a, cs[j]? = some a ∧ w.cell? ⟨B, o + off + j, none⟩ = some u ∧ RAt β H a u := by
                intro j hj
                have hjl : j < cs.length := by omega
                obtain ⟨u, k1, k2⟩ := hbr.cell (off + j) _ (by omega) (l2 j _ (List.getElem?_eq_getElem hjl))
                exact ⟨u, _, List.getElem?_eq_getElem hjl, by rw [Nat.add_assoc]; exact k1, k2⟩
              have : ∀ n, n ≤ ext → ∃ vs : List Value, vs.length = n ∧ ∀ j, j < n → ∃ u a, vs[j]? = some u ∧ cs[j]? = some a ∧ w.cell? ⟨B, o + off + j, none⟩ = some u ∧ RAt β H a u := by
                intro n
                induction n with
                | zero => intro _; exact ⟨[], rfl, fun j hj => by omega⟩
                | succ n ih =>
                  intro hn
                  obtain ⟨vs, q1, q2⟩ := ih (by omega)
                  obtain ⟨u, a, g1, g2, g3⟩ := hj n (by omega)
                  refine ⟨vs ++ [u], by simp [q1], fun j hj' => ?_⟩
                  by_cases e : j < n
                  · obtain ⟨u', a', f1, f2⟩ := q2 j e
                    exact ⟨u', a', by rw [List.getElem?_append_left (by omega)]; exact f1, f2⟩
                  · obtain rfl : j = n := by omega
                    exact ⟨u, a, by rw [List.getElem?_append_right (by omega), q1, Nat.sub_self]; rfl, g1, g2, g3⟩
              obtain ⟨vs, q1, q2⟩ := this ext (Nat.le_refl _)
              refine ⟨vs, q1, fun j u hu => ?_, All2.of_get (by omega) fun j a u ha hu => ?_⟩
              · have hjl : j < ext := by rw [← q1]; exact (List.getElem?_eq_some_iff.1 hu).1
                obtain ⟨u', a', f1, f2, f3, f4⟩ := q2 j hjl
                rw [hu] at f1; cases f1; exact f3
              · have hjl : j < ext := by rw [← q1]; exact (List.getElem?_eq_some_iff.1 hu).1
                obtain ⟨u', a', f1, f2, f3, f4⟩ := q2 j hjl
                rw [hu] at f1; cases f1
                rw [ha] at f2; cases f2; exact f4
            obtain ⟨vs, q1, q2, q3⟩ := hall
            have hds := dpAs_sound hw q3 hd
            refine ⟨B, o + off, rfl, hbr.lt, fun j p hp => ?_⟩
            obtain ⟨u, g1, g2⟩ := hds.get j p hp
            exact ⟨u, q2 j u g1, g2⟩
          · cases h
      · cases h
    · cases h
  · rename_i f caps
    split at h
    · rename_i ps x hd
      cases h
      obtain ⟨cs, rfl, h2⟩ := hv
      exact ⟨cs, rfl, dpAs_sound hw (R0s_RAt h2) hd⟩
    · cases h
  · split at h
    · rename_i q x hd
      cases h
      exact dpA_sound hw hv hd
    · cases h
  · split at h
    · rename_i ps x hd
      cases h
      obtain ⟨arr, rfl, h2⟩ := hv
      exact ⟨arr, rfl, dpAs_sound hw h2 hd⟩
    · cases h
  · cases h
theorem dpVs_sound (hw : WR β H w) : ∀ {as : List AV} {vs : List Value} {Ts : List TypeId} {ps : List PT} {rd : List Nat}, All2 (RV β H) as vs → dpVs Γ H Ts as = some (ps, rd) → All2 (DT w) ps vs
  | [], [], Ts, ps, rd, .nil, h => by simp only [dpVs] at h; cases h; exact .nil
  | a :: as, v :: vs, Ts, ps, rd, .cons h1 h2, h => by
    simp only [dpVs] at h
    split at h
    · rename_i q x qs y e1 e2
      cases h
      exact .cons (dpV_sound hw h1 e1) (dpVs_sound hw h2 e2)
    · cases h

/-- What a call has made is put behind the last block. -/
theorem shH_eq (H news : List Blk) : edit (mades H.length 0 news) (H ++ phs news.length) = H ++ shH H.length news := by
  have hl : ∀ (s : Nat) (l : List Blk), (shH s l).length = l.length := by
    intro s l
    induction l with
    | nil => rfl
    | cons b r ih => simp [shH, ih]
  have hn : ∀ (s : Nat) (l : List Blk) (i : Nat), nth (shH s l) i = (nth l i).map fun b => ⟨b.own, shB s b.body⟩ := by
    intro s l
    induction l with
    | nil => intro i; cases i <;> rfl
    | cons b r ih => intro i; cases i with | zero => rfl | succ i => exact ih i
  apply List.ext_getElem?
  intro i
  rw [← nth_eq, ← nth_eq, edit_mades _ _ 0 _ (by simp [phs_length]), nth_app, nth_app, hn]
  by_cases h1 : i < H.length
  · rw [if_neg (by omega), if_pos h1, if_pos h1]
  · rw [if_neg h1]
    by_cases h2 : i < H.length + news.length
    · rw [if_pos (by omega), Nat.add_zero, if_neg h1]
    · rw [if_neg (by omega), if_neg h1]
      have e1 : nth (phs news.length) (i - H.length) = none := by rw [nth_eq]; exact List.getElem?_eq_none (by rw [phs_length]; omega)
      have e2 : nth news (i - H.length) = none := by rw [nth_eq]; exact List.getElem?_eq_none (by omega)
      rw [e1, e2]; rfl

theorem Inv.call (h : Inv β0 H0 w0 β H w) {γ : Bm} {news : List Blk} {w' : World} (hf : Fresh γ news w w') :
    ∃ β', Inv β0 H0 w0 β' (H ++ shH H.length news) w' ∧ (∀ t, Mv β H β' (H ++ shH H.length news) t) ∧ (∀ {v : AV} {u : Value}, RV γ news v u → RV β' (H ++ shH H.length news) (shV H.length v) u) := by
  have h1 := h.phs news.length
  have hlen : H.length + news.length ≤ (H ++ Go.Rf.phs news.length).length := by simp [phs_length]
  have hfree : ∀ t, H.length ≤ t → t < H.length + news.length → cutB β H.length t = none := fun t ht _ => cutB_ge _ ht
  have h2 := h1.place hf h.ext.len hlen hfree
  have h3 := mv_place (γ := γ) hlen hfree
  have h4 := sh_place (β := cutB β H.length) (γ := γ) (s := H.length) hlen
  rw [shH_eq] at h2
  simp only [shH_eq] at h3 h4
  exact ⟨_, h2, fun t => (mv_phs β H _ t).trans (h3 t), fun hv => hv.shift h4⟩

theorem Inv.trans {β' : Bm} {H' : List Blk} {w' : World} (h : Inv β0 H0 w0 β H w) (k : Inv β H w β' H' w') : Inv β0 H0 w0 β' H' w' := by
  refine ⟨k.wr, fun t x ht hx => k.agree t x (Nat.lt_of_lt_of_le ht h.ext.len) (h.agree t x ht hx), h.ext.trans k.ext, fun B hB => ?_, h.fr.trans k.fr h.own⟩
  rcases k.own B hB with h1 | h1
  · exact h.own B h1
  · exact .inr (Nat.le_trans h.fr.size h1)
theorem Inv.mv {β' : Bm} {H' : List Blk} {w' : World} (k : Inv β H w β' H' w') (t : Nat) : Mv β H β' H' t := fun x hx ht =>
  ⟨k.agree t x ht hx, Nat.lt_of_lt_of_le ht k.ext.len, k.ext.size t ht⟩

/-- The frame's state, as the evaluator has it. -/
def Rel (β0 : Bm) (H0 : List Blk) (w0 : World) (nt : Nat) (st : St) (a : Act) (w : World) : Prop :=
  ∃ β, Inv β0 H0 w0 β st.H w ∧ RTm β st.H st.tm a.tmps ∧ a.tmps.size = nt ∧ a.defers = []

theorem RTm.put {tm : List (Nat × AV)} {a : Act} (h : RTm β H tm a.tmps) {d : Option Nat} {v : AV} {u : Value} (hv : RV β H v u) (hd : ∀ i, d = some i → i < a.tmps.size) : RTm β H (put tm d v) (a.put d u).tmps := by
  cases d with
  | none => exact h
  | some i =>
    intro t
    have hi := hd i rfl
    simp only [Go.Rf.put, Act.put]
    rw [look_put]
    by_cases e : i = t
    · subst e
      rw [if_pos rfl]
      simpa [Array.getD_eq_getD_getElem?, hi] using hv
    · rw [if_neg e]
      have := h t
      simpa [Array.getD_eq_getD_getElem?, Array.getElem?_setIfInBounds_ne e] using this

theorem okDst_lt {nt : Nat} {d : Option Nat} (h : okDst nt d = true) {i : Nat} (hi : d = some i) : i < nt := by
  subst hi; exact blt_lt h

theorem put_size (a : Act) (d : Option Nat) (u : Value) : (a.put d u).tmps.size = a.tmps.size := by cases d <;> simp [Act.put]
theorem put_defers (a : Act) (d : Option Nat) (u : Value) : (a.put d u).defers = a.defers := by cases d <;> rfl

theorem Oper.wp_value {o : Oper} {a : Act} {next : Act → World → Prop} {Q : Exit → Act → World → Prop} {u : Value} {w' : World} (h : Comes1 P w (execOp a.eval o) u w') (hn : next (a.put o.dst u) w') : o.wp P a w next Q := by
  unfold Oper.wp
  rcases h with h | ⟨h, rfl⟩
  · rw [h]; exact hn
  · rw [h]; exact hn

theorem A1_all {caps : List At} {cs : List Value} (h : All2 (R0 β H) caps cs) : All2 (RV β H) (caps.map A1) cs := by
  induction h with
  | nil => exact .nil
  | @cons a v as vs h _ ih => exact .cons ((RAt_iff β H a v).2 (.inr h)) ih

end
end Go.Rf
