/-
  The evaluator answers what the model's runs come to: code.
-/
import Derived.Test.YtohhkgieggfpeaaD3
set_option linter.unusedVariables false
namespace Go.Rf
open Go

section
variable {β0 : Bm} {H0 : List Blk} {w0 : World} {β : Bm} {H : List Blk} {w : World} {P : Program} {Γ : Ctx}

/-! ### Weaker descriptions of the same memory -/
/-- A slice without room is a row of length nothing. -/
def WkA (a a' : At) : Prop := a' = a ∨ (a = .nilsl ∧ ∃ t sz, a' = .sl t 0 0 sz)
def WkT : TV → TV → Prop
  | .one a, .one b => WkA a b
  | .agg as, .agg bs => All2 WkA as bs
  | _, _ => False
def WkV : AV → AV → Prop
  | .top, .top => True
  | .v x, .v y => WkT x y
  | .tup xs, .tup ys => All2 WkT xs ys
  | _, _ => False
def WkB (b b' : Blk) : Prop := b'.own = b.own ∧ (b'.body = b.body ∨ ∃ cs cs', b.body = .cells cs ∧ b'.body = .cells cs' ∧ All2 WkA cs cs')
theorem WkB.size {b b' : Blk} (h : WkB b b') : b'.body.size = b.body.size := by
  rcases h.2 with e | ⟨cs, cs', e1, e2, e3⟩
  · rw [e]
  · rw [e1, e2]; exact e3.length.symm
theorem WkB.dead {b b' : Blk} (h : WkB b b') : isDead b'.body = isDead b.body := by
  rcases h.2 with e | ⟨cs, cs', e1, e2, e3⟩
  · rw [e]
  · rw [e1, e2]; rfl
theorem WkB.get {b b' : Blk} (h : WkB b b') {j : Nat} {a' : At} (ha : b'.body.get j = some a') : ∃ a, b.body.get j = some a ∧ WkA a a' := by
  rcases h.2 with e | ⟨cs, cs', e1, e2, e3⟩
  · rw [e] at ha; exact ⟨a', ha, .inl rfl⟩
  · rw [e2] at ha
    rw [e1]
    simp only [Body.get, nth_eq] at ha ⊢
    have hlen := e3.length
    have hj : j < cs'.length := (List.getElem?_eq_some_iff.1 ha).1
    obtain ⟨a'', h1, h2⟩ := e3.get j cs[j] (List.getElem?_eq_getElem (by omega))
    rw [ha] at h1
    cases h1
    exact ⟨_, List.getElem?_eq_getElem (by omega), h2⟩

theorem All2.of_nth {H H' : List Blk} (h : All2 WkB H H') : (∀ t b', nth H' t = some b' → ∃ b, nth H t = some b ∧ WkB b b') ∧ (∀ t, szH H' t = szH H t) := by
  have hlen := h.length
  have h1 : ∀ t b', nth H' t = some b' → ∃ b, nth H t = some b ∧ WkB b b' := by
    intro t b' hb
    rw [nth_eq] at hb
    have ht : t < H'.length := (List.getElem?_eq_some_iff.1 hb).1
    obtain ⟨b'', g1, g2⟩ := h.get t H[t] (List.getElem?_eq_getElem (by omega))
    rw [hb] at g1
    cases g1
    exact ⟨_, by rw [nth_eq]; exact List.getElem?_eq_getElem (by omega), g2⟩
  refine ⟨h1, fun t => ?_⟩
  by_cases ht : t < H'.length
  · obtain ⟨b', hb'⟩ : ∃ b', nth H' t = some b' := ⟨H'[t], by rw [nth_eq]; exact List.getElem?_eq_getElem ht⟩
    obtain ⟨b, hb, hw⟩ := h1 t b' hb'
    rw [szH_of hb', szH_of hb, hw.size]
  · have e1 : nth H' t = none := by rw [nth_eq]; exact List.getElem?_eq_none (by omega)
    have e2 : nth H t = none := by rw [nth_eq]; exact List.getElem?_eq_none (by omega)
    simp [szH, e1, e2]

theorem WkA.rel {β : Bm} {H : List Blk} {a a' : At} {v : Value} (h : WkA a a') (hv : RAt β H a v) : RAt β H a' v := by
  rcases h with rfl | ⟨rfl, t, sz, rfl⟩
  · exact hv
  · exact .inr ⟨rfl, hv⟩
theorem WkAs.rel {β : Bm} {H : List Blk} : ∀ {as as' : List At} {vs : List Value}, All2 WkA as as' → All2 (RAt β H) as vs → All2 (RAt β H) as' vs
  | [], [], [], .nil, .nil => .nil
  | a :: as, b :: bs, v :: vs, .cons h1 h2, .cons k1 k2 => .cons (h1.rel k1) (WkAs.rel h2 k2)
theorem WkT.rel {β : Bm} {H : List Blk} {x y : TV} {v : Value} (h : WkT x y) (hv : RT β H x v) : RT β H y v := by
  cases x <;> cases y <;> first | exact h.elim | skip
  · exact WkA.rel h hv
  · obtain ⟨arr, h1, h2⟩ := hv
    exact ⟨arr, h1, WkAs.rel h h2⟩
theorem WkTs.rel {β : Bm} {H : List Blk} : ∀ {as as' : List TV} {vs : List Value}, All2 WkT as as' → All2 (RT β H) as vs → All2 (RT β H) as' vs
  | [], [], [], .nil, .nil => .nil
  | a :: as, b :: bs, v :: vs, .cons h1 h2, .cons k1 k2 => .cons (h1.rel k1) (WkTs.rel h2 k2)
theorem WkV.rel {β : Bm} {H : List Blk} {x y : AV} {v : Value} (h : WkV x y) (hv : RV β H x v) : RV β H y v := by
  cases x <;> cases y <;> first | exact h.elim | skip
  · trivial
  · exact WkT.rel h hv
  · obtain ⟨arr, h1, h2⟩ := hv
    exact ⟨arr, h1, WkTs.rel h h2⟩

theorem Inv.weak (h : Inv β0 H0 w0 β H w) {H' : List Blk} (hk : All2 WkB H H') : Inv β0 H0 w0 β H' w ∧ ∀ t, Mv β H β H' t := by
  obtain ⟨k1, k2⟩ := hk.of_nth
  have hlen := hk.length
  have hmv : ∀ t, Mv β H β H' t := fun t x hx ht => ⟨hx, by omega, by rw [k2]; exact Nat.le_refl _⟩
  refine ⟨⟨⟨fun t b' hb' => ?_, fun t t' b b' x x' hne h1 h2 ho hd hx hx' => ?_⟩, h.agree, ⟨by have := h.ext.len; omega, fun t ht => by rw [k2]; exact h.ext.size t ht⟩, fun B hB => ?_, h.fr⟩, hmv⟩
  · obtain ⟨b, hb, hw⟩ := k1 t b' hb'
    have := h.wr.blk t b hb
    split
    · rename_i e; rw [e] at this; rw [hw.size]; exact this
    · rename_i B o C e
      rw [e] at this
      refine ⟨fun j a' q1 q2 => ?_, fun ho => ?_, this.lt⟩
      · obtain ⟨a, g1, g2⟩ := hw.get q2
        obtain ⟨v, g3, g4⟩ := this.cell j a (by rw [← hw.size]; exact q1) g1
        exact ⟨v, g3, g2.rel (g4.move fun t _ => hmv t)⟩
      · obtain ⟨g1, g2, g3⟩ := this.own (by rw [← hw.1]; exact ho)
        exact ⟨g1, by rw [hw.dead]; exact g2, g3⟩
  · obtain ⟨c, hc, hw⟩ := k1 t b h1
    obtain ⟨c', hc', hw'⟩ := k1 t' b' h2
    exact h.wr.sep t t' c c' x x' hne hc hc' (by rw [← hw.1]; exact ho) (by rw [← hw'.dead]; exact hd) hx hx'
  · obtain ⟨t, b, o, C, h1, h2, h3⟩ := hB
    obtain ⟨c, hc, hw⟩ := k1 t b h1
    exact h.own B ⟨t, c, o, C, hc, by rw [← hw.1]; exact h2, h3⟩

/-- Rows of length nothing are laid behind the last block. -/
theorem Inv.rows (h : Inv β0 H0 w0 β H w) {new : List Blk} (hn : ∀ b ∈ new, b.body.size = 0) : Inv β0 H0 w0 (cutB β H.length) (H ++ new) w ∧ ∀ t, Mv β H (cutB β H.length) (H ++ new) t := by
  have hlen := h.ext.len
  have hmv : ∀ t, Mv β H (cutB β H.length) (H ++ new) t := fun t x hx ht =>
    ⟨by rw [cutB_lt _ ht]; exact hx, by simp; omega, by unfold szH; rw [nth_app, if_pos ht]; exact Nat.le_refl _⟩
  have old : ∀ {t : Nat} {b : Blk} {x}, nth (H ++ new) t = some b → cutB β H.length t = some x → nth H t = some b ∧ β t = some x := by
    intro t b x hb hx
    by_cases ht : t < H.length
    · rw [nth_app, if_pos ht] at hb
      rw [cutB_lt _ ht] at hx
      exact ⟨hb, hx⟩
    · rw [cutB_ge _ (by omega)] at hx; cases hx
  refine ⟨⟨⟨fun t b hb => ?_, fun t t' b b' x x' hne h1 h2 ho hd hx hx' => ?_⟩, fun t x ht hx => ?_, ⟨by simp; omega, fun t ht => ?_⟩, fun B hB => ?_, h.fr⟩, hmv⟩
  · by_cases ht : t < H.length
    · rw [nth_app, if_pos ht] at hb
      rw [cutB_lt _ ht]
      have := h.wr.blk t b hb
      split
      · rename_i e; rw [e] at this; exact this
      · rename_i B o C e
        rw [e] at this
        exact ⟨fun j a q1 q2 => (this.cell j a q1 q2).imp fun v hv => ⟨hv.1, hv.2.move fun t _ => hmv t⟩, this.own, this.lt⟩
    · rw [cutB_ge _ (by omega)]
      rw [nth_app, if_neg ht] at hb
      have : b ∈ new := by rw [nth_eq] at hb; exact List.mem_of_getElem? hb
      exact hn b this
  · obtain ⟨k1, k2⟩ := old h1 hx
    obtain ⟨k3, k4⟩ := old h2 hx'
    exact h.wr.sep t t' b b' x x' hne k1 k3 ho hd k2 k4
  · rw [cutB_lt _ (by omega)]; exact h.agree t x ht hx
  · refine Nat.le_trans (h.ext.size t ht) ?_
    unfold szH
    rw [nth_app, if_pos (by omega)]
    exact Nat.le_refl _
  · obtain ⟨t, b, o, C, h1, h2, h3⟩ := hB
    obtain ⟨k1, k2⟩ := old h1 h3
    exact h.own B ⟨t, b, o, C, k1, h2, k2⟩

/-- What the walk over the cells keeps. -/
def DNok (s : DN) : Prop := ∀ b ∈ s.new, b.body.size = 0
theorem dnA_ok {κ : Nat → RowK × Nat} {s : DN} (hs : DNok s) (a : At) : WkA a (dnA κ s a).1 ∧ DNok (dnA κ s a).2 := by
  unfold dnA
  split
  · refine ⟨.inr ⟨rfl, _, _, rfl⟩, fun b hb => ?_⟩
    rcases List.mem_append.1 hb with hb | hb
    · exact hs b hb
    · simp only [List.mem_singleton] at hb
      subst hb
      exact mtRow_size _
  · exact ⟨.inl rfl, hs⟩
theorem dnL_ok {κ : Nat → RowK × Nat} : ∀ {l : List At} {s : DN}, DNok s → All2 WkA l (dnL κ s l).1 ∧ DNok (dnL κ s l).2
  | [], s, hs => ⟨.nil, hs⟩
  | a :: r, s, hs => by
    obtain ⟨h1, h2⟩ := dnA_ok (κ := κ) hs a
    obtain ⟨h3, h4⟩ := dnL_ok (κ := κ) (l := r) h2
    exact ⟨.cons h1 h3, h4⟩
theorem dnT_ok {κ : Nat → RowK × Nat} {s : DN} (hs : DNok s) (x : TV) : WkT x (dnT κ s x).1 ∧ DNok (dnT κ s x).2 := by
  cases x with
  | one a => exact dnA_ok hs a
  | agg cs => exact dnL_ok hs
theorem dnTs_ok {κ : Nat → RowK × Nat} : ∀ {l : List TV} {s : DN}, DNok s → All2 WkT l (dnTs κ s l).1 ∧ DNok (dnTs κ s l).2
  | [], s, hs => ⟨.nil, hs⟩
  | a :: r, s, hs => by
    obtain ⟨h1, h2⟩ := dnT_ok (κ := κ) hs a
    obtain ⟨h3, h4⟩ := dnTs_ok (κ := κ) (l := r) h2
    exact ⟨.cons h1 h3, h4⟩
theorem dnV_ok {κ : Nat → RowK × Nat} {s : DN} (hs : DNok s) (x : AV) : WkV x (dnV κ s x).1 ∧ DNok (dnV κ s x).2 := by
  cases x with
  | top => exact ⟨trivial, hs⟩
  | v x => exact dnT_ok hs x
  | tup vs => exact dnTs_ok hs
theorem dnM_ok {κ : Nat → RowK × Nat} : ∀ {tm : List (Nat × AV)} {s : DN}, DNok s → (∀ t, WkV (get tm t) (get (dnM κ s tm).1 t)) ∧ DNok (dnM κ s tm).2
  | [], s, hs => ⟨fun t => trivial, hs⟩
  | (u, v) :: r, s, hs => by
    obtain ⟨h1, h2⟩ := dnV_ok (κ := κ) hs v
    obtain ⟨h3, h4⟩ := dnM_ok (κ := κ) (tm := r) h2
    refine ⟨fun t => ?_, h4⟩
    have e1 : get ((u, v) :: r) t = if u = t then v else get r t := look_put _ _ _
    have e2 : get (dnM κ s ((u, v) :: r)).1 t = if u = t then (dnV κ s v).1 else get (dnM κ (dnV κ s v).2 r).1 t := look_put _ _ _
    rw [e1, e2]
    by_cases e : u = t
    · rw [if_pos e, if_pos e]; exact h1
    · rw [if_neg e, if_neg e]; exact h3 t
theorem dnH_ok {κ : Nat → RowK × Nat} : ∀ {H : List Blk} {s : DN}, DNok s → All2 WkB H (dnH κ s H).1 ∧ DNok (dnH κ s H).2
  | [], s, hs => ⟨.nil, hs⟩
  | b :: r, s, hs => by
    simp only [dnH]
    split
    · rename_i cs hb
      obtain ⟨h1, h2⟩ := dnL_ok (κ := κ) (l := cs) hs
      obtain ⟨h3, h4⟩ := dnH_ok (κ := κ) (H := r) h2
      exact ⟨.cons ⟨rfl, .inr ⟨cs, _, hb, rfl, h1⟩⟩ h3, h4⟩
    · obtain ⟨h3, h4⟩ := dnH_ok (κ := κ) (H := r) hs
      exact ⟨.cons ⟨rfl, .inl rfl⟩ h3, h4⟩

theorem denilL_sound {nt : Nat} {st : St} {a : Act} (h : Rel β0 H0 w0 nt st a w) (nl : List (Nat × (RowK × Nat))) (id : Nat) : Rel β0 H0 w0 nt (denilL H0.length nl id st) a w := by
  unfold denilL
  split
  · exact h
  · rename_i q hq
    obtain ⟨β, hI, hv, hs, hdf⟩ := h
    obtain ⟨m1, m2⟩ := dnM_ok (κ := fun _ => q) (tm := st.tm) (s := ⟨0, st.H.length, []⟩) (fun b hb => by cases hb)
    obtain ⟨b1, b2⟩ := dnH_ok (κ := fun _ => q) (H := st.H) m2
    obtain ⟨i1, i2⟩ := hI.weak b1
    obtain ⟨j1, j2⟩ := i1.rows b2
    obtain ⟨β', c1, c2⟩ := compact_sound j1 (dnM (fun _ => q) ⟨0, st.H.length, []⟩ st.tm).1
    refine ⟨β', c1, fun t => ?_, hs, hdf⟩
    exact c2 t _ ((m1 t).rel ((hv t).move fun u _ => (i2 u).trans (j2 u)))
theorem denilR_sound (hI : Inv β0 H0 w0 β H w) {v : AV} {u : Value} (hv : RV β H v u) (rn : List (RowK × Nat)) : ∃ β', Inv β0 H0 w0 β' (denilR rn v H).2 w ∧ RV β' (denilR rn v H).2 (denilR rn v H).1 u := by
  unfold denilR
  split
  · exact ⟨β, hI, hv⟩
  · obtain ⟨m1, m2⟩ := dnV_ok (κ := fun p => rn.getD p (.gen, 1)) (s := ⟨0, H.length, []⟩) (fun b hb => by cases hb) v
    obtain ⟨j1, j2⟩ := hI.rows m2
    exact ⟨_, j1, m1.rel (hv.move fun t _ => j2 t)⟩

/-! ### Code -/
theorem iter_sound {R : Type} {nt : Nat} {c : Code} {F : St → (Ex → St → Option R) → Option R} {r : R} {t1 t2 t3 : Nat}
    (hF : ∀ (st : St) (k : Ex → St → Option R) (a : Act) (w : World), Rel β0 H0 w0 nt st a w → F st k = some r → c.wp P (KP β0 H0 w0 nt k r) a w) {k : Ex → St → Option R} :
    ∀ (n : Nat) {st : St} {a : Act} {w : World}, Rel β0 H0 w0 nt st a w → iter t1 t2 t3 F n st k = some r → Code.rounds P c (KP β0 H0 w0 nt k r) n a w
  | 0, st, a, w, hR, h => by cases h
  | n + 1, st, a, w, hR, h => by
    rw [rounds_succ]
    simp only [iter] at h
    refine wp_mono (hF st _ a w hR h) fun e a' w' hq => ?_
    cases e with
    | normal => obtain ⟨st', h1, h2⟩ := hq; exact iter_sound hF n h1 h2
    | exit id => exact hq
    | ret => exact hq
    | _ => exact hq.elim

/-- A loop comes to what is told of it. -/
def LoopSem (P : Program) (nt : Nat) (c : Code) (F : Nat → St → Option (Bool × LO)) : Prop :=
  ∀ β0 H0 w0 st out a w, F H0.length st = some (true, out) → Rel β0 H0 w0 nt st a w → (Code.loop c).wp P (KP β0 H0 w0 nt (fun e st => some (e, st)) (pick out)) a w

theorem runLO_pick {R : Type} {k : Ex → St → Option R} {r : R} : ∀ (out : LO), runLO out k = some r → k (pick out).1 (pick out).2 = some r
  | .one e st, h => h
  | .two c x y, h => by
    cases c
    · exact runLO_pick y h
    · exact runLO_pick x h
theorem KP.pick {R : Type} {nt : Nat} {k : Ex → St → Option R} {r : R} {p : Ex × St} (hk : k p.1 p.2 = some r) {e : Exit} {a : Act} {w : World} (h : KP β0 H0 w0 nt (fun e st => some (e, st)) p e a w) : KP β0 H0 w0 nt k r e a w := by
  cases e with
  | normal => obtain ⟨st, h1, h2⟩ := h; cases h2; exact ⟨st, h1, hk⟩
  | exit id => obtain ⟨st, h1, h2⟩ := h; cases h2; exact ⟨st, h1, hk⟩
  | ret => obtain ⟨st, h1, h2⟩ := h; cases h2; exact ⟨st, h1, hk⟩
  | _ => exact h.elim

theorem evC_sound {R : Type} (hT : chkTab P Γ.ty = true) {hd : FuncId → List AV → List Blk → (AV → List Blk → Option R) → Option R} (hH : HdOk P hd) (hS : SumOk P Γ) (hm : P.follows .mixedOrders = true) {f nt : Nat} {live : List (Nat × List Nat)} {nl : List (Nat × (RowK × Nat))} {fuel : Nat} {r : R} :
    ∀ (c : Code) (hl : ∀ c' ∈ loopsIn c, LoopSem P nt c' (Γ.lp f (lid c'))) (hc : codeOk c = true) (st : St) (k : Ex → St → Option R) (a : Act) (w : World), Rel β0 H0 w0 nt st a w → evC Γ hd f H0.length nt live nl fuel c st k = some r → c.wp P (KP β0 H0 w0 nt k r) a w := by
  intro c
  induction c with
  | skip => intro hl hc st k a w hR h; exact wp_skip ⟨st, hR, h⟩
  | region id ops draw =>
    intro hl hc st k a w hR h
    simp only [evC] at h
    have fin : ∀ (st' : St) (a' : Act) (w' : World), Rel β0 H0 w0 nt st' a' w' → k .normal (clean H0.length live id st') = some r → KP β0 H0 w0 nt k r .normal a' w' := fun st' a' w' h1 h2 => ⟨_, clean_sound h1 live id, h2⟩
    split at h
    · exact wp_region_list (evOps_sound hT hH hS fin ops.toList hR h)
    · simp only [codeOk] at hc
      split at hc
      · rename_i hs
        exact draw_sound hT hH hS hm (k := fun st' => k .normal (clean H0.length live id st')) hR hs hc h fin
      · cases hc
  | seq x y ihx ihy =>
    intro hl hc st k a w hR h
    simp only [evC] at h
    simp only [codeOk] at hc
    simp only [loopsIn, List.mem_append] at hl
    split at hc
    case h_2 => cases hc
    rename_i hcx
    refine wp_seq (wp_mono (ihx (fun c' h' => hl c' (.inl h')) hcx st _ a w hR h) fun e a' w' hq => ?_)
    cases e with
    | normal => obtain ⟨st', h1, h2⟩ := hq; exact ihy (fun c' h' => hl c' (.inr h')) hc st' k a' w' h1 h2
    | exit id => exact hq
    | ret => exact hq
    | _ => exact hq.elim
  | cond x y z ihy ihz =>
    intro hl hc st k a w hR h
    simp only [evC] at h
    simp only [codeOk] at hc
    simp only [loopsIn, List.mem_append] at hl
    split at hc
    case h_2 => cases hc
    rename_i hcy
    split at h
    · rename_i b hb
      obtain ⟨β, hI, hv, hs, hdf⟩ := id hR
      have e := opnd_rel hv x
      rw [hb] at e
      have e : a.eval x = .bool b := e
      refine wp_cond e ?_
      cases b
      · exact ihz (fun c' h' => hl c' (.inr h')) hc st k a w hR h
      · exact ihy (fun c' h' => hl c' (.inl h')) hcy st k a w hR h
    · cases h
  | block id x ih =>
    intro hl hc st k a w hR h
    simp only [evC] at h
    refine wp_block (wp_mono (ih hl hc st _ a w hR h) fun e a' w' hq => ?_)
    cases e with
    | normal => exact hq
    | exit id' =>
      obtain ⟨st', h1, h2⟩ := hq
      simp only at h2
      show (if id' = id then KP β0 H0 w0 nt k r .normal a' w' else KP β0 H0 w0 nt k r (.exit id') a' w')
      split at h2
      · rename_i hb
        rw [if_pos (beq_eq hb)]
        exact ⟨st', h1, h2⟩
      · rename_i hb
        rw [if_neg (fun e => by subst e; simp [Nat.beq_refl] at hb)]
        exact ⟨st', h1, h2⟩
    | ret => exact hq
    | _ => exact hq.elim
  | loop x ih =>
    intro hl hc st k a w hR h
    simp only [evC] at h
    simp only [loopsIn, List.mem_cons] at hl
    have hR' := denilL_sound hR nl (lid x)
    split at h
    · rename_i b out hlp
      obtain ⟨hb, h⟩ := grd_inv h
      subst hb
      have hp := runLO_pick out h
      exact wp_mono (hl x (.inl rfl) β0 H0 w0 _ out a w hlp hR') fun e a' w' hq => hq.pick hp
    · exact wp_loop_rounds fuel (iter_sound (ih (fun c' h' => hl c' (.inr h')) hc) fuel hR' h)
  | exit id => intro hl hc st k a w hR h; exact wp_exit ⟨st, hR, h⟩
  | ret => intro hl hc st k a w hR h; exact wp_ret ⟨st, hR, h⟩
  | rangeFunc => intro hl hc st k a w hR h; cases h
  | scope => intro hl hc st k a w hR h; cases h
  | label => intro hl hc st k a w hR h; cases h
  | goto => intro hl hc st k a w hR h; cases h
  | refuse => intro hl hc st k a w hR h; cases h
end
end Go.Rf
