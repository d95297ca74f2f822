/-
  A region whose order is drawn: carried out.
-/
import Derived.Test.YtohhkgieggfpeaaD2
set_option linter.unusedVariables false
namespace Go.Rf
open Go

theorem countP_lt {p q : Nat → Bool} : ∀ {l : List Nat}, (∀ x ∈ l, q x = true → p x = true) → (∃ x ∈ l, p x = true ∧ q x = false) → l.countP q + 1 ≤ l.countP p
  | [], _, h => by obtain ⟨x, hx, _⟩ := h; cases hx
  | a :: l, h1, h2 => by
    have mono : ∀ {l : List Nat}, (∀ x ∈ l, q x = true → p x = true) → l.countP q ≤ l.countP p := by
      intro l
      induction l with
      | nil => intro _; simp
      | cons b l ih =>
        intro h
        have := ih fun x hx => h x (by simp [hx])
        simp only [List.countP_cons]
        have hb := h b (by simp)
        cases hq : q b with
        | false => simp; omega
        | true => rw [hb hq]; simp; omega
    simp only [List.countP_cons]
    have ha := h1 a (by simp)
    have hl := fun x (hx : x ∈ l) => h1 x (by simp [hx])
    obtain ⟨x, hx, hp, hq⟩ := h2
    rcases List.mem_cons.1 hx with rfl | hx
    · rw [hp, hq]
      have := mono hl
      simp; omega
    · have := countP_lt hl ⟨x, hx, hp, hq⟩
      cases hqa : q a with
      | false => simp; omega
      | true => rw [ha hqa]; simp; omega

theorem slots_facts : ∀ {l : List Oper} {s i a : Nat} {o : Oper}, (slotsFrom s l)[i]? = some a → l[i]? = some o → s ≤ a ∧ a + wd o ≤ s + room * makes l
  | [], s, i, a, o, h, _ => by simp [slotsFrom] at h
  | x :: l, s, i, a, o, h, ho => by
    have hm : wd x + room * makes l ≤ room * makes (x :: l) := by
      simp only [makes, wd]
      split
      · simp
      · rw [Nat.mul_add]; omega
    cases i with
    | zero =>
      simp [slotsFrom] at h ho
      subst h; subst ho
      exact ⟨Nat.le_refl _, by omega⟩
    | succ i =>
      simp only [slotsFrom, List.getElem?_cons_succ] at h ho
      obtain ⟨h1, h2⟩ := slots_facts h ho
      exact ⟨by omega, by omega⟩
theorem slots_lt : ∀ {l : List Oper} {s i j a b : Nat} {o : Oper}, i < j → (slotsFrom s l)[i]? = some a → (slotsFrom s l)[j]? = some b → l[i]? = some o → a + wd o ≤ b
  | [], s, i, j, a, b, o, _, h, _, _ => by simp [slotsFrom] at h
  | x :: l, s, i, j, a, b, o, hij, h, h', ho => by
    obtain ⟨j, rfl⟩ : ∃ j', j = j' + 1 := ⟨j - 1, by omega⟩
    simp only [slotsFrom, List.getElem?_cons_succ] at h'
    cases i with
    | zero =>
      simp [slotsFrom] at h ho
      subst h; subst ho
      have hl : j < l.length := by
        have : ∀ (l : List Oper) (s : Nat), (slotsFrom s l).length = l.length := by
          intro l
          induction l with
          | nil => intro s; rfl
          | cons x l ih => intro s; simp [slotsFrom, ih]
        rw [← this l (s + wd x)]
        exact (List.getElem?_eq_some_iff.1 h').1
      exact (slots_facts h' (List.getElem?_eq_getElem hl)).1
    | succ i =>
      simp only [slotsFrom, List.getElem?_cons_succ] at h ho
      exact slots_lt (by omega) h h' ho

section
variable {β0 : Bm} {H0 : List Blk} {w0 : World} {β : Bm} {H : List Blk} {w : World} {P : Program} {Γ : Ctx} {E : List (Oper × Deed)} {S0 : St} {nt : Nat} {ops : Array Oper} {Q : Exit → Act → World → Prop}

def RelD (β0 : Bm) (H0 : List Blk) (w0 : World) (nt : Nat) (E : List (Oper × Deed)) (S0 : St) (L : List Nat) (a : Act) (w : World) : Prop :=
  ∃ β, Inv β0 H0 w0 β (sOf E S0 L).H w ∧ RTm β (sOf E S0 L).H (sOf E S0 L).tm a.tmps ∧ a.tmps.size = nt ∧ a.defers = [] ∧ ∀ i p, E[i]? = some p → i ∉ L → ∀ t, p.2.slot ≤ t → t < p.2.slot + wd p.1 → β t = none

theorem Rel.eqS {st st' : St} {a : Act} (h : Rel β0 H0 w0 nt st a w) (e : EqS st st') : Rel β0 H0 w0 nt st' a w := by
  obtain ⟨β, h1, h2, h3, h4⟩ := h
  exact ⟨β, by rw [← e.2]; exact h1, fun d => by rw [← e.1 d, ← e.2]; exact h2 d, h3, h4⟩

theorem getD_lt {listed : Array Bool} {i : Nat} (h : listed.getD i true = false) : i < listed.size ∧ listed.getD i false = false := by
  by_cases hi : i < listed.size
  · refine ⟨hi, ?_⟩
    simp [hi] at h ⊢; exact h
  · simp [hi] at h
theorem getD_set {listed : Array Bool} {i j : Nat} (hi : i < listed.size) : (listed.setIfInBounds i true).getD j false = if i = j then true else listed.getD j false := by
  by_cases e : i = j
  · subst e; rw [if_pos rfl]; simp [hi]
  · rw [if_neg e]; exact getD_set_ne false e
theorem ready_nil {listed : Array Bool} (h : ∀ i, i < listed.size → listed.getD i false = true) : Region.ready .any ops listed = [] := by
  rw [List.eq_nil_iff_forall_not_mem]
  intro i hi
  rw [mem_ready] at hi
  obtain ⟨h1, h2⟩ := getD_lt hi.1
  rw [h i h1] at h2; cases h2

theorem any_sound (hT : chkTab P Γ.ty = true) (hS : SumOk P Γ) (hE : E.map (·.1) = ops.toList.take E.length) (hn : E.length ≤ ops.size) (haft : aftOk 0 ops.toList = true)
    (hlast : ∀ i, E.length ≤ i → i < ops.size → ∀ j, j < E.length → bitOf (befs ops.toList []) i j = true) (hI : Inds E ops.toList (befs ops.toList []))
    (hev : ∀ j p, E[j]? = some p → Evs Γ nt ops.toList p (runE (E.take j) S0).tm (runE (E.take j) S0).H)
    (hs1 : ∀ (i : Nat) (p : Oper × Deed), E[i]? = some p → H0.length ≤ p.2.slot ∧ p.2.slot + wd p.1 ≤ S0.H.length) (hs2 : ∀ (i j : Nat) (p q : Oper × Deed), i < j → E[i]? = some p → E[j]? = some q → p.2.slot + wd p.1 ≤ q.2.slot)
    (hfin : ∀ (listed : Array Bool) (a : Act) (w : World) (fuel : Nat), listed.size = ops.size → (∀ i, i < E.length → listed.getD i false = true) → (∀ i, E.length ≤ i → listed.getD i false = false) → ops.size - E.length ≤ fuel →
      Rel β0 H0 w0 nt (runE E S0) a w → wpAny P .any ops Q fuel listed a w) :
    ∀ (fuel : Nat) (listed : Array Bool) (L : List Nat) (a : Act) (w : World), Done E ops.toList (befs ops.toList []) L → (∀ i, i < E.length → (i ∈ L ↔ listed.getD i false = true)) → listed.size = ops.size → (∀ i, E.length ≤ i → listed.getD i false = false) →
      RelD β0 H0 w0 nt E S0 L a w → (List.range E.length).countP (fun i => !listed.getD i false) + (ops.size - E.length) ≤ fuel → wpAny P .any ops Q fuel listed a w := by
  intro fuel
  induction fuel with
  | zero =>
    intro listed L a w hD hL hsz hge hR hc
    have hall : ∀ i, i < E.length → listed.getD i false = true := by
      intro i hi
      cases hg : listed.getD i false with
      | true => rfl
      | false =>
        have : 0 < (List.range E.length).countP (fun i => !listed.getD i false) := List.countP_pos_iff.2 ⟨i, by simpa using hi, by rw [hg]; rfl⟩
        omega
    refine hfin listed a w 0 hsz hall hge (by omega) ?_
    obtain ⟨β, h1, h2, h3, h4, _⟩ := hR
    exact Rel.eqS ⟨β, h1, h2, h3, h4⟩ (hD.all_ fun i hi => (hL i hi).2 (hall i hi))
  | succ fuel ih =>
    intro listed L a w hD hL hsz hge hR hc
    by_cases hall : ∀ i, i < E.length → listed.getD i false = true
    · refine hfin listed a w (fuel + 1) hsz hall hge (by omega) ?_
      obtain ⟨β, h1, h2, h3, h4, _⟩ := hR
      exact Rel.eqS ⟨β, h1, h2, h3, h4⟩ (hD.all_ fun i hi => (hL i hi).2 (hall i hi))
    · -- what is ready waits for done operations alone
      have hbits : ∀ i ∈ Region.ready .any ops listed, i ∉ L ∧ i < listed.size ∧ listed.getD i false = false ∧ ∀ j, bitOf (befs ops.toList []) i j = true → j ∈ L := by
        intro i hi
        rw [mem_ready] at hi
        obtain ⟨h0, o, ho, haf⟩ := hi
        obtain ⟨h1, h2⟩ := getD_lt h0
        refine ⟨fun hin => ?_, h1, h2, fun j hj => ?_⟩
        · have := (hL i (hD.lt i hin)).1 hin
          rw [h2] at this; cases this
        · unfold bitOf at hj
          split at hj
          · rename_i m hm
            obtain ⟨e, e1, e2, e3⟩ := befs_bit ops.toList [] i o (by simpa using ho) m j (by simpa using hm) hj
            have hle := haf e e1 e2
            have hlt : e.on < E.length := by
              rcases Nat.lt_or_ge e.on E.length with h | h
              · exact h
              · rw [hge _ h] at hle; cases hle
            have hin := (hL _ hlt).2 hle
            rcases e3 with rfl | ⟨m', e4, e5⟩
            · exact hin
            · refine hD.cl _ hin j ?_
              unfold bitOf
              rw [e4]; exact e5
          · cases hj
      refine ⟨fun hr => ?_, fun i hi => ?_⟩
      · -- the first that is not done is ready
        exfalso
        apply hall
        intro i hi
        induction i using Nat.strongRecOn with
        | ind i ih2 =>
          cases hg : listed.getD i false with
          | true => rfl
          | false =>
            exfalso
            have hil : i < ops.toList.length := by simp; omega
            have : i ∈ Region.ready .any ops listed := by
              rw [mem_ready]
              refine ⟨?_, _, by rw [← Array.getElem?_toList]; exact List.getElem?_eq_getElem hil, fun e he hb => ?_⟩
              · have : i < listed.size := by omega
                simp [this] at hg ⊢; exact hg
              · have := aftOk_spec haft i _ (List.getElem?_eq_getElem hil) e he hb
                exact ih2 e.on (by omega) (by omega)
            rw [hr] at this; cases this
      · obtain ⟨hnL, hlt, hun, hb⟩ := hbits i hi
        by_cases hin : i < E.length
        · obtain ⟨β, k1, k2, k3, k4, k5⟩ := hR
          have hp := List.getElem?_eq_getElem hin
          generalize E[i] = p at hp
          have hoi : ops[i]? = some p.1 := by
            have h1 : (E.map (·.1))[i]? = some p.1 := by simp [hp]
            rw [hE, List.getElem?_take_of_lt hin] at h1
            simpa using h1
          have hreadT : ∀ d, looks ops.toList p.1 d → get (sOf E S0 L).tm d = get (runE (E.take i) S0).tm d := fun d hd => by
            rw [← sOf_range i (by omega)]
            exact get_sOf _ _ d (hD.reads hI hp hnL hb T_no fun j q hj hq hind => by
              obtain ⟨q', g1, g2⟩ := wT_true hj
              rw [hq] at g1; cases g1
              exact hind.b d g2 hd)
          have hreadB : SameBlk p.2.rd (runE (E.take i) S0).H (sOf E S0 L).H := fun t ht => by
            rw [← sOf_range i (by omega)]
            exact nth_sOf _ _ t (hD.reads hI hp hnL hb B_no fun j q hj hq hind => by
              obtain ⟨q', g1, g2⟩ := wB_true hj
              rw [hq] at g1; cases g1
              exact hind.d t g2 ht)
          have hEv := (hev i p hp).local_ hreadT hreadB
          have hst : sOf E S0 (L ++ [i]) = ap p (sOf E S0 L) := by
            have : sOf E S0 (L ++ [i]) = apI E (sOf E S0 L) i := by simp [sOf, List.foldl_append]
            rw [this]; unfold apI; rw [hp]
          have hgo := deed_sound (K := wpAny P .any ops Q fuel (listed.setIfInBounds i true)) (Q := Q) hT hS k1 k2 k3 k4 (hs1 i p hp).1 (by rw [len_sOf]; exact (hs1 i p hp).2) (k5 i p hp hnL) hEv (fun β' a' w' q1 q2 q3 q4 q5 => by
            refine ih _ (L ++ [i]) a' w' (hD.step hI hin hnL hb) (fun j hj => ?_) (by simp [hsz]) (fun j hj => ?_) ⟨β', by rw [hst]; exact q1, by rw [hst]; exact q2, q3, q4, fun j q hq hnj t t1 t2 => ?_⟩ ?_
            · rw [getD_set hlt, List.mem_append, List.mem_singleton]
              by_cases e : i = j
              · subst e; simp
              · rw [if_neg e, ← hL j hj]
                exact ⟨fun h => h.elim id fun h => absurd h.symm e, .inl⟩
            · rw [getD_set hlt, if_neg (by omega)]; exact hge j hj
            · simp only [List.mem_append, List.mem_singleton, not_or] at hnj
              refine q5 t (fun ⟨u1, u2⟩ => ?_) (k5 j q hq hnj.1 t t1 t2)
              rcases Nat.lt_trichotomy i j with h | h | h
              · have := hs2 i j p q h hp hq; omega
              · exact hnj.2 h.symm
              · have := hs2 j i q p h hq hp; omega
            · have := countP_lt (p := fun j => !listed.getD j false) (q := fun j => !(listed.setIfInBounds i true).getD j false) (l := List.range E.length) (fun x _ hx => by
                simp only [getD_set hlt] at hx
                by_cases e : i = x
                · rw [if_pos e] at hx; cases hx
                · rw [if_neg e] at hx; exact hx) ⟨i, by simpa using hin, by rw [hun]; rfl, by rw [getD_set hlt, if_pos rfl]; rfl⟩
              omega)
          unfold wpOp
          rw [hoi]
          simp only
          split
          · rename_i hw; rw [if_pos hw] at hgo; exact .inl hgo
          · rename_i hw; rw [if_neg hw] at hgo; exact hgo
        · exfalso
          apply hall
          intro j hj
          exact (hL j hj).1 (hb j (hlast i (by omega) (by omega) j hj))

theorem splitLast_spec : ∀ {ops l : List Oper} {o : Oper}, splitLast ops = some (l, o) → ops = l ++ [o]
  | [], l, o, h => by cases h
  | [x], l, o, h => by simp only [splitLast] at h; cases h; rfl
  | x :: y :: r, l, o, h => by
    simp only [splitLast] at h
    split at h
    · rename_i l' o' h'
      cases h
      have := splitLast_spec (ops := y :: r) h'
      rw [this]; rfl
    · cases h
theorem allBits_spec {m : Nat} : ∀ {n : Nat}, allBits m n = true → ∀ j, j < n → m.testBit j = true
  | 0, _, j, hj => by omega
  | n + 1, h, j, hj => by
    simp only [allBits] at h
    split at h
    · rename_i hb
      rcases Nat.lt_or_ge j n with hj' | hj'
      · exact allBits_spec h j hj'
      · obtain rfl : j = n := by omega
        exact hb
    · cases h

theorem draw_sound {R : Type} (hT : chkTab P Γ.ty = true) {hd : FuncId → List AV → List Blk → (AV → List Blk → Option R) → Option R} (hH : HdOk P hd) (hS : SumOk P Γ) (hm : P.follows .mixedOrders = true) {id : Nat} {st : St} {a : Act} (hR : Rel β0 H0 w0 nt st a w)
    (hs : slotsOk ops (befs ops.toList []) 0 ops.toList = true) (haft : aftOk 0 ops.toList = true) {k : St → Option R} {r : R}
    (h : (match lastOf ops.toList with
      | none => evDs Γ nt ops.toList 0 st.H.length ops.toList ⟨st.tm, st.H ++ phs (room * makes ops.toList)⟩ [] fun st' log => match okLog (befs ops.toList []) log with
        | true => k st'
        | false => none
      | some (l, o) => evDs Γ nt ops.toList 0 st.H.length l ⟨st.tm, st.H ++ phs (room * makes l)⟩ [] fun st' log => match okLog (befs ops.toList []) log with
        | true => evOper Γ hd nt ops.toList o st' k
        | false => none) = some r)
    (hQ : ∀ st' a' w', Rel β0 H0 w0 nt st' a' w' → k st' = some r → Q .normal a' w') : (Code.region id ops true).wp P Q a w := by
  refine wp_region_any hm ?_
  -- the start
  have start : ∀ (l : List Oper) (E : List (Oper × Deed)), E.map (·.1) = l → E.map (·.2.slot) = slotsFrom st.H.length l →
      (Done E ops.toList (befs ops.toList []) []) ∧ RelD β0 H0 w0 nt E ⟨st.tm, st.H ++ phs (room * makes l)⟩ [] a { w with drawn := w.drawn + 1 } ∧
      (∀ (i : Nat) (p : Oper × Deed), E[i]? = some p → H0.length ≤ p.2.slot ∧ p.2.slot + wd p.1 ≤ (st.H ++ phs (room * makes l)).length) ∧ (∀ (i j : Nat) (p q : Oper × Deed), i < j → E[i]? = some p → E[j]? = some q → p.2.slot + wd p.1 ≤ q.2.slot) := by
    intro l E e1 e2
    obtain ⟨β, hI, hv, hsz, hdf⟩ := hR
    have hget : ∀ {i : Nat} {p : Oper × Deed}, E[i]? = some p → (slotsFrom st.H.length l)[i]? = some p.2.slot ∧ l[i]? = some p.1 := fun {i p} hp =>
      ⟨by rw [← e2]; simp [hp], by rw [← e1]; simp [hp]⟩
    have hlen : (st.H ++ phs (room * makes l)).length = st.H.length + room * makes l := by simp [phs_length]
    refine ⟨⟨List.nodup_nil, (fun i hi => by cases hi), (fun i hi => by cases hi), .nil⟩, ⟨cutB β st.H.length, ?_, ?_, hsz, hdf, fun i p hp _ t h1 h2 => ?_⟩, fun i p hp => ?_, fun i j p q hij hp hq => ?_⟩
    · exact (hI.phs _).same (Same.drew w)
    · exact hv.move (mv_phs β st.H _)
    · obtain ⟨g1, g2⟩ := hget hp
      have := (slots_facts g1 g2).1
      exact cutB_ge _ (by omega)
    · obtain ⟨g1, g2⟩ := hget hp
      have := slots_facts g1 g2
      have := hI.ext.len
      rw [hlen]
      omega
    · obtain ⟨g1, g2⟩ := hget hp
      obtain ⟨g3, g4⟩ := hget hq
      exact slots_lt hij g1 g3 g2
  have hsize : (Array.replicate ops.size false).size = ops.size := by simp
  have hfalse : ∀ i, (Array.replicate ops.size false).getD i false = false := by
    intro i
    by_cases hi : i < ops.size <;> simp [hi]
  have hcnt : ∀ n, (List.range n).countP (fun i => !(Array.replicate ops.size false).getD i false) ≤ n := fun n => by
    refine Nat.le_trans List.countP_le_length (by simp)
  split at h
  · obtain ⟨E, st', log', e1, e2, e3, e4, e5, e6⟩ := evDs_split h
    split at e3
    · rename_i hlog
      obtain ⟨hD, hRD, hs1, hs2⟩ := start _ E e1 e2
      have hEl : E.length = ops.size := by rw [← List.length_map (f := (·.1)), e1]; simp
      have hE : E.map (·.1) = ops.toList.take E.length := by rw [e1, hEl]; exact (List.take_of_length_le (by simp)).symm
      rw [List.append_nil] at e6
      subst e6
      have hI := inds_of hE e4 hs hlog
      refine any_sound hT hS hE (by omega) haft (fun i h1 h2 => by omega) hI e4 hs1 hs2 (fun listed a w fuel h1 h2 h3 h4 h5 => ?_) _ _ [] a _ hD (fun i hi => ?_) hsize (fun i _ => hfalse i) hRD ?_
      · exact wpAny_done (ready_nil fun i hi => h2 i (by omega)) (hQ st' a w (h5.eqS ⟨fun d => (e5.1 d).symm, e5.2.symm⟩) e3) fuel
      · rw [hfalse i]; simp
      · have := hcnt E.length; omega
    · cases e3
  · rename_i l o hlo
    obtain ⟨E, st', log', e1, e2, e3, e4, e5, e6⟩ := evDs_split h
    split at e3
    · rename_i hlog
      obtain ⟨hD, hRD, hs1, hs2⟩ := start _ E e1 e2
      -- the last operation
      have hfacts : ops.toList = l ++ [o] ∧ ∀ j, j < l.length → bitOf (befs ops.toList []) l.length j = true := by
        unfold lastOf at hlo
        split at hlo
        · rename_i l' o' hsp
          split at hlo
          · split at hlo
            · rename_i hb
              have hb' : l = l' ∧ o = o' := by
                split at hlo
                · split at hlo
                  · cases hlo; exact ⟨rfl, rfl⟩
                  · cases hlo
                · cases hlo
              obtain ⟨rfl, rfl⟩ := hb'
              refine ⟨splitLast_spec hsp, fun j hj => ?_⟩
              unfold bitOf
              rw [← nth_eq]
              cases hm : nth (befs ops.toList []) l.length with
              | none => rw [hm] at hb; cases hb
              | some m => rw [hm] at hb; exact allBits_spec hb j hj
            · cases hlo
          · cases hlo
        · cases hlo
      obtain ⟨hops, hbits⟩ := hfacts
      have hlen : ops.size = l.length + 1 := by have := congrArg List.length hops; simpa using this
      have hEl : E.length = l.length := by rw [← List.length_map (f := (·.1)), e1]
      have hE : E.map (·.1) = ops.toList.take E.length := by rw [e1, hEl, hops]; simp
      rw [List.append_nil] at e6
      subst e6
      have hI := inds_of hE e4 hs hlog
      refine any_sound hT hS hE (by omega) haft (fun i h1 h2 j hj => ?_) hI e4 hs1 hs2 (fun listed a w fuel h1 h2 h3 h4 h5 => ?_) _ _ [] a _ hD (fun i hi => ?_) hsize (fun i _ => hfalse i) hRD ?_
      · obtain rfl : i = l.length := by omega
        exact hbits j (by omega)
      · obtain ⟨fuel, rfl⟩ : ∃ f, fuel = f + 1 := ⟨fuel - 1, by omega⟩
        have hol : ops[l.length]? = some o := by rw [← Array.getElem?_toList, hops]; simp
        have hun := h3 l.length (by omega)
        have hlt : l.length < listed.size := by omega
        refine ⟨fun hr => ?_, fun i hi => ?_⟩
        · exfalso
          have : l.length ∈ Region.ready .any ops listed := by
            rw [mem_ready]
            refine ⟨by simp [hlt] at hun ⊢; exact hun, o, hol, fun e he hb => ?_⟩
            have := aftOk_spec haft l.length o (by simpa using hol) e he hb
            exact h2 e.on (by omega)
          rw [hr] at this; cases this
        · rw [mem_ready] at hi
          obtain ⟨g1, g2⟩ := getD_lt hi.1
          have hil : i = l.length := by
            rcases Nat.lt_or_ge i E.length with h | h
            · rw [h2 i h] at g2; cases g2
            · omega
          subst hil
          have hgo := evOper_sound (K := wpAny P .any ops Q fuel (listed.setIfInBounds l.length true)) (Q := Q) hT hH hS (h5.eqS ⟨fun d => (e5.1 d).symm, e5.2.symm⟩) e3 fun st2 a2 w2 q1 q2 =>
            wpAny_done (ready_nil fun i hi => by
              rw [getD_set hlt]
              by_cases e : l.length = i
              · rw [if_pos e]
              · rw [if_neg e]; exact h2 i (by simp at hi; omega)) (hQ st2 a2 w2 q1 q2) fuel
          unfold wpOp
          rw [hol]
          simp only
          split
          · rename_i hw; rw [if_pos hw] at hgo; exact .inl hgo
          · rename_i hw; rw [if_neg hw] at hgo; exact hgo
      · rw [hfalse i]; simp
      · have := hcnt E.length; omega
    · cases e3
end
end Go.Rf
