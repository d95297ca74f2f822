/-
  The evaluator answers what the model's runs come to: regions in the text's order; slots, blocks that are forgotten.
-/
import Derived.Test.YtohhkgieggfpeaaC1
set_option linter.unusedVariables false
namespace Go.Rf
open Go

section
variable {β0 : Bm} {H0 : List Blk} {w0 : World} {β : Bm} {H : List Blk} {w : World} {P : Program} {Γ : Ctx}

/-- What a call answers, for the evaluator. -/
theorem evCall_sound {R : Type} {hd : FuncId → List AV → List Blk → (AV → List Blk → Option R) → Option R} (hH : HdOk P hd) (hS : SumOk P Γ) {st : St} (hI : Inv β0 H0 w0 β st.H w) {a : Act} (hv : RTm β st.H st.tm a.tmps) {k : AV → St → Option R} {r : R} {o : Oper} {c : Call} (hc : o.op = .call c)
    (h : evCall Γ hd c st k = some r) {next : Act → World → Prop} {Q : Exit → Act → World → Prop}
    (hn : ∀ β' st' v u w', Inv β0 H0 w0 β' st'.H w' → RTm β' st'.H st'.tm a.tmps → RV β' st'.H v u → k v st' = some r → next (a.put o.dst u) w') : o.wp P a w next Q := by
  unfold evCall at h
  split at h
  · rename_i f hcf
    split at h
    · rename_i g caps hf
      have e := opnd_rel hv f
      rw [hf] at e
      obtain ⟨cs, he, hcs⟩ := e
      have hargs : All2 (RV β st.H) (opnds st.tm c.args.toList ++ caps.map A1) (c.args.map a.eval ++ cs).toList := by
        rw [Array.toList_append]
        refine All2.append ?_ (A1_all hcs)
        simpa using opnds_rel hv c.args.toList
      have hx : execOp a.eval o = callFunc g (c.args.map a.eval ++ cs) := by
        simp only [execOp, hc, resolve, hcf, Deferred.ofValue, he]
        simp [invoke]
      have fin : CallRes P g (c.args.map a.eval ++ cs) w (fun u w' => next (a.put o.dst u) w') → o.wp P a w next Q := by
        intro hcr
        unfold Oper.wp
        rw [hx]
        rcases hcr with ⟨u, w', h1, h2⟩ | ⟨h1, h2⟩
        · rw [h1]; exact h2
        · rw [h1]
          show Calls P g _ w _
          refine h2.mono fun e w' ⟨u, he, h3⟩ => ?_
          subst he
          exact h3
      have viaHd : hd g (opnds st.tm c.args.toList ++ caps.map A1) st.H (fun v H => k v ⟨st.tm, H⟩) = some r → o.wp P a w next Q := fun h =>
        fin ((hH g _ _ _ _ h β w (c.args.map a.eval ++ cs) hI.wr hargs).mono fun u w' ⟨β', v, H', k2, k3, k4⟩ =>
          hn β' ⟨st.tm, H'⟩ v u w' (hI.trans k2) (hv.move k2.mv) k3 k4)
      split at h
      · rename_i pts rd hd'
        split at h
        · rename_i b v news hs
          obtain ⟨rfl, h⟩ := grd_inv h
          refine fin ((hS g _ _ _ hs w _ (dpVs_sound hI.wr hargs hd')).mono fun u w' ⟨γ, k1, k2⟩ => ?_)
          obtain ⟨β', q1, q2, q3⟩ := hI.call k1
          exact hn β' ⟨st.tm, st.H ++ shH st.H.length news⟩ _ u w' q1 (hv.move q2) (q3 k2) h
        · exact viaHd h
      · exact viaHd h
    · cases h
  · cases h

theorem evNil_sound {R : Type} (hT : chkTab P Γ.ty = true) {op : BinOp} {T : TypeId} {X : Operand} {Y : Operand} {e : Option Addr} {c1 c2 : Nat} (hY : Y = .const (.slice e c1 c2)) (he : e = none) {x : AV} {v : Value} (hv : RV β H x v) {k : AV → Option R} {r : R}
    (h : evNil Γ op T x k = some r) : ∃ b, (do eqGuard op T X Y v (.slice e c1 c2); binOp op T v (.slice e c1 c2) : Sem Value).run P w = .ok (.bool b) w ∧ k (A1 (.bool b)) = some r := by
  subst he
  unfold evNil at h
  split at h
  case h_2 => cases h
  rename_i i hi
  split at h
  case h_2 => cases h
  rename_i el hd
  have hu := slice_at (tab_fact hT hi) hd
  have key : ∀ {a : Option Addr} {len cap : Nat}, (0 < len → a ≠ none) → v = .slice a len cap →
      nilQ op len k = some r → ∃ b, (do eqGuard op T X Y v (.slice none c1 c2); binOp op T v (.slice none c1 c2) : Sem Value).run P w = .ok (.bool b) w ∧ k (A1 (.bool b)) = some r := by
    intro a len cap ha hval h
    subst hval
    have heq : (Op.equal T (.slice a len cap) (.slice none c1 c2)).run P w = .ok a.isNone w := by
      unfold Op.equal
      have hm : Op.maxDepth = (Op.maxDepth - 1) + 1 := by decide
      rw [hm]
      unfold Op.equalIn
      simp only [Sem.run_bind, run_und (w := w) hu, Result.andThen_ok]
      cases a <;> rfl
    have hz : a = none → okZ len = true := fun e => by
      rcases Nat.eq_zero_or_pos len with e' | e'
      · exact decide_eq_true e'
      · exact absurd e (ha e')
    unfold nilQ at h
    split at h
    · refine ⟨a.isNone, ?_, ?_⟩
      · simp [eqGuard, binOp, heq]
      · obtain ⟨h1, h2⟩ := unk_inv h
        cases a with
        | none => exact h1 (hz rfl)
        | some _ => exact h2
    · refine ⟨!a.isNone, ?_, ?_⟩
      · simp [eqGuard, binOp, heq]
      · obtain ⟨h1, h2⟩ := unk_inv h
        cases a with
        | none => exact h1 (hz rfl)
        | some _ => exact h2
    · cases h
  split at h
  · rename_i t off len sz
    rcases hv with ⟨B, o, C, cap, _, _, _, _, _, rfl⟩ | ⟨rfl, a, rfl⟩
    · exact key (fun _ => by intro q; cases q) rfl h
    · exact key (fun q => absurd q (Nat.lt_irrefl _)) rfl h
  · rename_i t off len sz
    obtain ⟨a, cap, rfl, _, h2⟩ := hv
    exact key (fun q => by obtain ⟨B, o, C, _, _, _, rfl⟩ := h2 q; intro q; cases q) rfl h
  · cases h

theorem evOp_sound {R : Type} (hT : chkTab P Γ.ty = true) {hd : FuncId → List AV → List Blk → (AV → List Blk → Option R) → Option R} (hH : HdOk P hd) (hS : SumOk P Γ) {nt : Nat} {st : St} {a : Act} (hR : Rel β0 H0 w0 nt st a w) {k : AV → St → Option R} {r : R} {o : Oper}
    (h : evOp Γ hd o.op st k = some r) {next : Act → World → Prop} {Q : Exit → Act → World → Prop}
    (hn : ∀ β' st' v u w', Inv β0 H0 w0 β' st'.H w' → RTm β' st'.H st'.tm a.tmps → RV β' st'.H v u → k v st' = some r → next (a.put o.dst u) w') : o.wp P a w next Q := by
  obtain ⟨β, hI, hv, hs, hdf⟩ := hR
  unfold evOp at h
  split at h
  · obtain ⟨v, u, w', h1, h2, h3, h4⟩ := evQ_sound (P := P) hT hI.wr hv h
    exact Oper.wp_value (.inl h1) (hn β st v u w' (hI.same h2) hv h3 h4)
  · have hI1 := hI.phs 1
    have hm := mv_phs β st.H 1
    obtain ⟨v, u, w', ed, rd, β', h1, h2, h3, h4, _, h5⟩ := evE_sound hT hI1 (slot := st.H.length) hI.ext.len (by simp [Go.Rf.phs]) (cutB_ge _ (Nat.le_refl _)) (hv.move hm) h
    exact Oper.wp_value h1 (hn β' ⟨st.tm, edit ed (st.H ++ Go.Rf.phs 1)⟩ v u w' h2 ((hv.move hm).move h3) h4 h5)
  · split at h
    · rename_i c hc
      exact evCall_sound hH hS hI hv hc h hn
    · rename_i hk _ op T x y t hop
      have hny : ∃ c1 c2, y = .const (.slice none c1 c2) := by
        rename_i hk0 hk1
        rw [hop] at hk0
        simp only [kindOf] at hk0
        cases hny : isNilC y with
        | false => rw [hny] at hk0; exact absurd rfl hk0
        | true =>
          unfold isNilC at hny
          split at hny
          · exact ⟨_, _, rfl⟩
          · cases hny
      obtain ⟨c1, c2, rfl⟩ := hny
      obtain ⟨b, h1, h2⟩ := evNil_sound (w := w) hT (X := x) (Y := .const (.slice none c1 c2)) rfl rfl (opnd_rel hv x) h
      refine Oper.wp_value (.inl ?_) (hn β st (A1 (.bool b)) (.bool b) w hI hv rfl h2)
      simp only [execOp, hop]
      have h1' : (do eqGuard op T x (.const (.slice none c1 c2)) (a.eval x) (a.eval (.const (.slice none c1 c2))); binOp op T (a.eval x) (a.eval (.const (.slice none c1 c2))) : Sem Value).run P w = .ok (.bool b) w := h1
      simp only [Sem.run_bind] at h1' ⊢
      cases hq : (eqGuard op T x (.const (.slice none c1 c2)) (a.eval x) (a.eval (.const (.slice none c1 c2)))).run P w with
      | ok u w1 =>
        rw [hq] at h1'
        simp only [Result.andThen_ok] at h1' ⊢
        rw [h1']
        rfl
      | halt e => rw [hq] at h1'; cases h1'
    · cases h

/-! ### Guards -/
theorem dstAt_eq {ops : Array Oper} {j d : Nat} (h : dstAt ops.toList j = some d) : (ops[j]?).bind (·.dst) = some d := by
  unfold dstAt at h
  rw [nth_eq] at h
  rw [← Array.getElem?_toList]
  split at h
  · rename_i o ho; rw [ho]; exact h
  · cases h

theorem evOper_sound {R : Type} (hT : chkTab P Γ.ty = true) {hd : FuncId → List AV → List Blk → (AV → List Blk → Option R) → Option R} (hH : HdOk P hd) (hS : SumOk P Γ) {nt : Nat} {ops : Array Oper} {st : St} {a : Act} (hR : Rel β0 H0 w0 nt st a w) {k : St → Option R} {r : R} {o : Oper}
    (h : evOper Γ hd nt ops.toList o st k = some r) {K : Act → World → Prop} {Q : Exit → Act → World → Prop}
    (hK : ∀ st' a' w', Rel β0 H0 w0 nt st' a' w' → k st' = some r → K a' w') :
    if Region.wanted o (yielded ops a.tmps) then o.wp P a w K Q else K (a.put o.dst undef) w := by
  have run : ∀ st : St, Rel β0 H0 w0 nt st a w → (match okDst nt o.dst with
      | true => evOp Γ hd o.op st fun v st' => k ⟨put st'.tm o.dst v, st'.H⟩
      | false => none) = some r → o.wp P a w K Q := by
    intro st hR h
    split at h
    · rename_i hok
      refine evOp_sound hT hH hS hR h fun β' st' v u w' k1 k2 k3 k4 => hK _ _ _ ?_ k4
      obtain ⟨_, _, _, hs, hdf⟩ := hR
      exact ⟨β', k1, k2.put k3 fun i hi => by rw [hs]; exact okDst_lt hok hi, by rw [put_size]; exact hs, by rw [put_defers]; exact hdf⟩
    · cases h
  have skip : ∀ st : St, Rel β0 H0 w0 nt st a w → (match okDst nt o.dst with
      | true => k ⟨put st.tm o.dst (.tup []), st.H⟩
      | false => none) = some r → K (a.put o.dst undef) w := by
    intro st hR h
    split at h
    · rename_i hok
      obtain ⟨β, hI, hv, hs, hdf⟩ := hR
      refine hK _ _ _ ?_ h
      exact ⟨β, hI, hv.put ⟨#[], rfl, .nil⟩ fun i hi => by rw [hs]; exact okDst_lt hok hi, by rw [put_size]; exact hs, by rw [put_defers]; exact hdf⟩
    · cases h
  have know : ∀ {d : Nat} {b : Bool}, get st.tm d = .v (.one (.bool b)) → Rel β0 H0 w0 nt ⟨(d, A1 (.bool b)) :: st.tm, st.H⟩ a w := by
    intro d b hg
    obtain ⟨β, hI, hv, hs, hdf⟩ := hR
    refine ⟨β, hI, fun t => ?_, hs, hdf⟩
    simp only
    rw [look_put]
    by_cases e : d = t
    · subst e; rw [if_pos rfl]; have := hv d; rw [hg] at this; exact this
    · rw [if_neg e]; exact hv t
  unfold evOper at h
  simp only at h
  split at h
  · rename_i hg
    simp only [Region.wanted, hg, if_true]
    exact run st hR h
  · rename_i j want hg
    split at h
    · cases h
    · rename_i d hd
      have hd' := dstAt_eq hd
      obtain ⟨β, hI, hv, hs, hdf⟩ := id hR
      split at h
      · rename_i b hb
        have e := hv d
        rw [hb] at e
        have e : a.tmps.getD d undef = .bool b := e
        have hy : yielded ops a.tmps j = some b := by
          unfold yielded
          rw [hd']
          have : a.tmps[d]? = some (.bool b) := by
            rw [Array.getD_eq_getD_getElem?] at e
            cases hx : a.tmps[d]? with
            | none => rw [hx] at e; cases e
            | some x => rw [hx] at e; simp at e; rw [e]
          simp [this]
        have hw : Region.wanted o (yielded ops a.tmps) = (b == want) := by simp only [Region.wanted, hg, hy]; cases b <;> cases want <;> rfl
        rw [hw]
        cases b
        · have hk := know hb
          cases want
          · simp only [br] at h
            simpa using run _ hk h
          · simp only [br] at h
            simpa using skip _ hk h
        · have hk := know hb
          cases want
          · simp only [br] at h
            simpa using skip _ hk h
          · simp only [br] at h
            simpa using run _ hk h
      · rename_i hb
        have e := hv d
        rw [hb] at e
        obtain ⟨arr, e, harr⟩ := e
        have hy : yielded ops a.tmps j = none := by
          unfold yielded
          rw [hd']
          rw [Array.getD_eq_getD_getElem?] at e
          cases hx : a.tmps[d]? with
          | none => simp [hx]
          | some x => rw [hx] at e; simp at e; subst e; simp [hx]
        have hw : Region.wanted o (yielded ops a.tmps) = false := by simp [Region.wanted, hg, hy]
        rw [hw]
        simpa using skip st hR h
      · cases h

/-- What stands behind a piece of code. -/
def KP {R : Type} (β0 : Bm) (H0 : List Blk) (w0 : World) (nt : Nat) (k : Ex → St → Option R) (r : R) : Exit → Act → World → Prop
  | .normal, a, w => ∃ st, Rel β0 H0 w0 nt st a w ∧ k .normal st = some r
  | .exit id, a, w => ∃ st, Rel β0 H0 w0 nt st a w ∧ k (.exit id) st = some r
  | .ret, a, w => ∃ st, Rel β0 H0 w0 nt st a w ∧ k .ret st = some r
  | _, _, _ => False

theorem evOps_sound {R : Type} (hT : chkTab P Γ.ty = true) {hd : FuncId → List AV → List Blk → (AV → List Blk → Option R) → Option R} (hH : HdOk P hd) (hS : SumOk P Γ) {nt : Nat} {ops : Array Oper} {k : St → Option R} {r : R} {Q : Exit → Act → World → Prop}
    (hQ : ∀ st' a' w', Rel β0 H0 w0 nt st' a' w' → k st' = some r → Q .normal a' w') : ∀ (l : List Oper) {st : St} {a : Act} {w : World}, Rel β0 H0 w0 nt st a w → evOps Γ hd nt ops.toList l st k = some r → wpList P ops Q l a w
  | [], st, a, w, hR, h => hQ st a w hR h
  | o :: l, st, a, w, hR, h => by
    simp only [evOps] at h
    have := evOper_sound hT hH hS hR h (K := wpList P ops Q l) (Q := Q) fun st' a' w' h1 h2 => evOps_sound hT hH hS hQ l h1 h2
    unfold wpList
    split
    · rename_i hw; rw [if_pos hw] at this; exact .inl this
    · rename_i hw; rw [if_neg hw] at this; exact this


/-! ### Slots and blocks that are forgotten -/
theorem keepM_get : ∀ (live : List Nat) (tm : List (Nat × AV)) (t : Nat), get (keepM live tm) t = .top ∨ get (keepM live tm) t = get tm t
  | [], tm, t => .inl rfl
  | u :: r, tm, t => by
    simp only [keepM]
    split
    · rename_i v hu
      rw [look_put]
      by_cases e : u = t
      · subst e
        rw [if_pos rfl]
        right
        unfold get
        rw [hu]
      · rw [if_neg e]; exact keepM_get r tm t
    · exact keepM_get r tm t

theorem idx_some : ∀ {ord : List Nat} {n t t' : Nat}, idx ord n t = some t' → n ≤ t' ∧ ord[t' - n]? = some t
  | [], n, t, t', h => by cases h
  | u :: r, n, t, t', h => by
    simp only [idx] at h
    split at h
    · rename_i hb
      cases h
      have := beq_eq hb
      subst this
      simp
    · obtain ⟨h1, h2⟩ := idx_some h
      refine ⟨by omega, ?_⟩
      rw [show t' - n = (t' - (n + 1)) + 1 by omega, List.getElem?_cons_succ]
      exact h2

theorem fitO_facts {lo n : Nat} : ∀ {ord : List Nat}, fitO lo n ord = true → (∀ t ∈ ord, lo ≤ t ∧ t < n) ∧ ord.Nodup
  | [], _ => ⟨(fun t h => by cases h), List.nodup_nil⟩
  | t :: r, h => by
    simp only [fitO] at h
    split at h
    · cases h
    · rename_i h1
      split at h
      · cases h
      · rename_i h2
        split at h
        · cases h
        · rename_i h3
          obtain ⟨k1, k2⟩ := fitO_facts h
          have hm : ∀ {l : List Nat}, t ∈ l → mem t l = true := by
            intro l
            induction l with
            | nil => intro h; cases h
            | cons u l ih =>
              intro h
              simp only [mem]
              rcases List.mem_cons.1 h with rfl | h
              · simp
              · split
                · rfl
                · exact ih h
          refine ⟨fun u hu => ?_, List.nodup_cons.2 ⟨fun hin => ?_, k2⟩⟩
          · rcases List.mem_cons.1 hu with rfl | hu
            · exact ⟨ble_le h1, blt_lt h2⟩
            · exact k1 u hu
          · rw [hm hin] at h3; cases h3

theorem pickH_nth {lo : Nat} {ord : List Nat} {H : List Blk} : ∀ {l : List Nat}, (∀ t ∈ l, t < H.length) → (pickH lo ord H l).length = l.length ∧ ∀ i, nth (pickH lo ord H l) i = (l[i]?).bind fun t => (nth H t).map fun b => ⟨b.own, renB lo ord b.body⟩
  | [], _ => ⟨rfl, fun i => by cases i <;> rfl⟩
  | t :: r, h => by
    obtain ⟨k1, k2⟩ := pickH_nth (lo := lo) (ord := ord) (H := H) (l := r) fun u hu => h u (by simp [hu])
    have ht := h t (by simp)
    have hn : nth H t = some H[t] := by rw [nth_eq]; exact List.getElem?_eq_getElem ht
    simp only [pickH, hn]
    refine ⟨by simp [k1], fun i => ?_⟩
    cases i with
    | zero => simp [nth, hn]
    | succ i => simp only [nth, k2 i, List.getElem?_cons_succ]
theorem upto_facts : ∀ (n i : Nat), (upto i n).length = n ∧ ∀ j, j < n → (upto i n)[j]? = some (i + j)
  | 0, i => ⟨rfl, fun j h => by omega⟩
  | n + 1, i => by
    obtain ⟨h1, h2⟩ := upto_facts n (i + 1)
    refine ⟨by simp [upto, h1], fun j hj => ?_⟩
    cases j with
    | zero => rfl
    | succ j => simp only [upto, List.getElem?_cons_succ]; rw [h2 j (by omega)]; congr 1; omega

theorem renB_size (lo : Nat) (ord : List Nat) (b : Body) : (renB lo ord b).size = b.size := by
  cases b with
  | cells cs =>
    simp only [renB, Body.size]
    induction cs with
    | nil => rfl
    | cons a r ih => simp [ren1s, ih]
  | _ => rfl
theorem ren1s_get (lo : Nat) (ord : List Nat) : ∀ (cs : List At) (j : Nat) (a : At), (ren1s lo ord cs)[j]? = some a → ∃ c, cs[j]? = some c ∧ a = ren1 lo ord c
  | [], j, a, h => by simp [ren1s] at h
  | c :: r, 0, a, h => by simp only [ren1s, List.getElem?_cons_zero] at h; cases h; exact ⟨c, rfl, rfl⟩
  | c :: r, j + 1, a, h => by simp only [ren1s, List.getElem?_cons_succ] at h; exact ren1s_get lo ord r j a h
theorem renB_get (lo : Nat) (ord : List Nat) (b : Body) (j : Nat) (a : At) (h : (renB lo ord b).get j = some a) : ∃ c, b.get j = some c ∧ (a = ren1 lo ord c ∨ a = c ∧ ∀ u, m1 u c = false) := by
  cases b with
  | cells cs =>
    simp only [renB, Body.get, nth_eq] at h ⊢
    obtain ⟨c, h1, h2⟩ := ren1s_get lo ord cs j a h
    exact ⟨c, h1, .inl h2⟩
  | dead n => cases h
  | _ => exact ⟨a, h, .inr ⟨rfl, fun u => by cases h; rfl⟩⟩
theorem renB_dead (lo : Nat) (ord : List Nat) (b : Body) : isDead (renB lo ord b) = isDead b := by cases b <;> rfl

section ren
variable {β' : Bm} {H' : List Blk} {lo : Nat} {ord : List Nat}
/-- Each number that is kept names the same block. -/
def RenOk (β : Bm) (H : List Blk) (β' : Bm) (H' : List Blk) (lo : Nat) (ord : List Nat) : Prop := ∀ t t' x, renN lo ord t = some t' → β t = some x → t < H.length → β' t' = some x ∧ t' < H'.length ∧ szH H t ≤ szH H' t'
theorem R0.ren (hm : RenOk β H β' H' lo ord) {a : At} {v : Value} (h : R0 β H a v) : R0 β' H' (ren0 lo ord a) v := by
  have hone := h.any_one
  cases a with
  | ptr t off ext =>
    obtain ⟨B, o, C, h1, h2, h3, h4⟩ := h
    simp only [ren0]
    split
    · rename_i t' ht
      obtain ⟨k1, k2, k3⟩ := hm t t' _ ht h1 h2
      exact ⟨B, o, C, k1, k2, Nat.le_trans h3 k3, h4⟩
    · exact hone
  | sl t off len sz =>
    simp only [ren0]
    split
    · rename_i t' ht
      rcases h with ⟨B, o, C, cap, h1, h2, h3, h4, h5, h6⟩ | h
      · obtain ⟨k1, k2, k3⟩ := hm t t' _ ht h1 h2
        exact .inl ⟨B, o, C, cap, k1, k2, Nat.le_trans h3 k3, h4, h5, h6⟩
      · exact .inr h
    · exact hone
  | vw t off len sz =>
    simp only [ren0]
    split
    · rename_i t' ht
      obtain ⟨a, cap, h1, h2, h3⟩ := h
      refine ⟨a, cap, h1, h2, fun hl => ?_⟩
      obtain ⟨B, o, C, h4, h5, h6, h7⟩ := h3 hl
      obtain ⟨k1, k2, k3⟩ := hm t t' _ ht h4 h5
      exact ⟨B, o, C, k1, k2, Nat.le_trans h6 k3, h7⟩
    · exact hone
  | _ => exact h
theorem R0s.ren (hm : RenOk β H β' H' lo ord) {as : List At} {vs : List Value} (h : All2 (R0 β H) as vs) : All2 (R0 β' H') (ren0s lo ord as) vs := by
  induction h with
  | nil => exact .nil
  | cons h _ ih => exact .cons (h.ren hm) ih
theorem RAt.ren (hm : RenOk β H β' H' lo ord) {a : At} {v : Value} (h : RAt β H a v) : RAt β' H' (ren1 lo ord a) v := by
  rcases (RAt_iff β H a v).1 h with ⟨f, caps, rfl, cs, h1, h2⟩ | h0
  · exact ⟨cs, h1, R0s.ren hm h2⟩
  · refine (RAt_iff β' H' _ v).2 (.inr ?_)
    have := h0.ren hm
    cases a <;> first | exact this | exact h0.elim
theorem RAts.ren (hm : RenOk β H β' H' lo ord) {as : List At} {vs : List Value} (h : All2 (RAt β H) as vs) : All2 (RAt β' H') (ren1s lo ord as) vs := by
  induction h with
  | nil => exact .nil
  | cons h _ ih => exact .cons (h.ren hm) ih
theorem RT.ren (hm : RenOk β H β' H' lo ord) {a : TV} {v : Value} (h : RT β H a v) : RT β' H' (renT lo ord a) v := by
  cases a with
  | one a => exact RAt.ren hm h
  | agg cs => obtain ⟨arr, h1, h2⟩ := h; exact ⟨arr, h1, RAts.ren hm h2⟩
theorem RTs.ren (hm : RenOk β H β' H' lo ord) {as : List TV} {vs : List Value} (h : All2 (RT β H) as vs) : All2 (RT β' H') (renTs lo ord as) vs := by
  induction h with
  | nil => exact .nil
  | cons h _ ih => exact .cons (h.ren hm) ih
theorem RV.ren (hm : RenOk β H β' H' lo ord) {a : AV} {v : Value} (h : RV β H a v) : RV β' H' (renV lo ord a) v := by
  cases a with
  | top => trivial
  | v x => exact RT.ren hm h
  | tup vs => obtain ⟨arr, h1, h2⟩ := h; exact ⟨arr, h1, RTs.ren hm h2⟩
theorem renM_get : ∀ (tm : List (Nat × AV)) (d : Nat), get (renM lo ord tm) d = renV lo ord (get tm d)
  | [], d => rfl
  | (e, v) :: r, d => by
    simp only [renM]
    rw [look_put, look_put]
    by_cases q : e = d
    · rw [if_pos q, if_pos q]
    · rw [if_neg q, if_neg q]; exact renM_get r d
end ren

/-- What the numbers stand for once they have been given anew. -/
def renβ (β : Bm) (lo : Nat) (ord : List Nat) : Bm := fun t => if t < lo then β t else (ord[t - lo]?).bind β

theorem compact_sound (h : Inv β0 H0 w0 β H w) (tm : List (Nat × AV)) : ∃ β', Inv β0 H0 w0 β' (compact H0.length tm H).H w ∧ ∀ d v, RV β H (get tm d) v → RV β' (compact H0.length tm H).H (get (compact H0.length tm H).tm d) v := by
  unfold compact
  simp only
  generalize reach H0.length H 256 (tgM tm ++ tgH H0.length H) [] = ord
  split
  · rename_i hf
    obtain ⟨ho, hnd⟩ := fitO_facts hf
    have hle := h.ext.len
    obtain ⟨u1, u2⟩ := upto_facts H0.length 0
    have hall : ∀ t ∈ upto 0 H0.length ++ ord, t < H.length := by
      intro t ht
      rcases List.mem_append.1 ht with ht | ht
      · obtain ⟨j, hj, e⟩ := List.getElem_of_mem ht
        have hj' := hj
        rw [u1] at hj'
        have := u2 j hj'
        rw [List.getElem?_eq_getElem hj, e] at this
        injection this with this
        omega
      · exact (ho t ht).2
    obtain ⟨p1, p2⟩ := pickH_nth (lo := H0.length) (ord := ord) (H := H) hall
    rw [List.length_append, u1] at p1
    -- the old number of each block
    have hsrc : ∀ i, i < H0.length + ord.length → ∃ t, (upto 0 H0.length ++ ord)[i]? = some t ∧ t < H.length ∧ renβ β H0.length ord i = β t ∧ ((i < H0.length ∧ t = i) ∨ (H0.length ≤ i ∧ H0.length ≤ t ∧ ord[i - H0.length]? = some t)) := by
      intro i hi
      by_cases hl : i < H0.length
      · refine ⟨i, ?_, by omega, by unfold renβ; rw [if_pos hl], .inl ⟨hl, rfl⟩⟩
        rw [List.getElem?_append_left (by rw [u1]; exact hl), u2 i hl, Nat.zero_add]
      · have hlt : i - H0.length < ord.length := by omega
        have hg := List.getElem?_eq_getElem hlt
        have hm := ho _ (List.getElem_mem hlt)
        refine ⟨ord[i - H0.length], ?_, hm.2, by unfold renβ; rw [if_neg hl, hg]; rfl, .inr ⟨by omega, hm.1, hg⟩⟩
        rw [List.getElem?_append_right (by rw [u1]; omega), u1, hg]
    have hinj : ∀ {i j t : Nat}, i < H0.length + ord.length → j < H0.length + ord.length → (upto 0 H0.length ++ ord)[i]? = some t → (upto 0 H0.length ++ ord)[j]? = some t → i = j := by
      intro i j t hi hj h1 h2
      obtain ⟨a, a1, _, _, a2⟩ := hsrc i hi
      obtain ⟨b, b1, _, _, b2⟩ := hsrc j hj
      rw [h1] at a1; cases a1
      rw [h2] at b1; cases b1
      rcases a2 with ⟨a2, a3⟩ | ⟨a2, a3, a4⟩ <;> rcases b2 with ⟨b2, b3⟩ | ⟨b2, b3, b4⟩
      · omega
      · omega
      · omega
      · have hi' : i - H0.length < ord.length := by omega
        have := (List.getElem?_inj hi' hnd).1 (a4.trans b4.symm)
        omega
    have hnth : ∀ {i : Nat} {b' : Blk}, nth (pickH H0.length ord H (upto 0 H0.length ++ ord)) i = some b' → ∃ t b, i < H0.length + ord.length ∧ (upto 0 H0.length ++ ord)[i]? = some t ∧ nth H t = some b ∧ renβ β H0.length ord i = β t ∧ b' = ⟨b.own, renB H0.length ord b.body⟩ := by
      intro i b' hb
      have hi := nth_lt hb
      rw [p1] at hi
      obtain ⟨t, t1, t2, t3, _⟩ := hsrc i hi
      rw [p2, t1] at hb
      simp only [Option.bind_some] at hb
      cases hn : nth H t with
      | none => rw [hn] at hb; cases hb
      | some b => rw [hn] at hb; cases hb; exact ⟨t, b, hi, t1, hn, t3, rfl⟩
    have hsz : ∀ {i t : Nat}, (upto 0 H0.length ++ ord)[i]? = some t → szH (pickH H0.length ord H (upto 0 H0.length ++ ord)) i = szH H t := by
      intro i t hi
      unfold szH
      rw [p2, hi]
      simp only [Option.bind_some]
      cases nth H t with
      | none => rfl
      | some b => simp [renB_size]
    have hren : RenOk β H (renβ β H0.length ord) (pickH H0.length ord H (upto 0 H0.length ++ ord)) H0.length ord := by
      intro t t' x ht hx hlt
      unfold renN at ht
      split at ht
      · rename_i hb
        cases ht
        have hb := blt_lt hb
        have e : (upto 0 H0.length ++ ord)[t]? = some t := by rw [List.getElem?_append_left (by rw [u1]; exact hb), u2 t hb, Nat.zero_add]
        exact ⟨by unfold renβ; rw [if_pos hb]; exact hx, by rw [p1]; omega, by rw [hsz e]; exact Nat.le_refl _⟩
      · obtain ⟨h1, h2⟩ := idx_some ht
        have hl : t' - H0.length < ord.length := (List.getElem?_eq_some_iff.1 h2).1
        have e : (upto 0 H0.length ++ ord)[t']? = some t := by rw [List.getElem?_append_right (by rw [u1]; exact h1), u1]; exact h2
        exact ⟨by unfold renβ; rw [if_neg (by omega), h2]; exact hx, by rw [p1]; omega, by rw [hsz e]; exact Nat.le_refl _⟩
    refine ⟨renβ β H0.length ord, ⟨⟨fun i b' hb => ?_, fun i j b c x x' hne h1 h2 hoc hd hx hx' => ?_⟩, fun t x ht hx => ?_, ⟨by rw [p1]; omega, fun t ht => ?_⟩, fun B hB => ?_, h.fr⟩, fun d v hv => ?_⟩
    · obtain ⟨t, b, hi, h1, h2, h3, rfl⟩ := hnth hb
      rw [h3]
      have := h.wr.blk t b h2
      split
      · rename_i e; rw [e] at this; simpa [renB_size] using this
      · rename_i B o C e
        rw [e] at this
        refine ⟨fun j a q1 q2 => ?_, fun hoo => ?_, this.lt⟩
        · simp only [renB_size] at q1
          obtain ⟨c, q3, q4⟩ := renB_get _ _ _ _ _ q2
          obtain ⟨v, g1, g2⟩ := this.cell j c q1 q3
          rcases q4 with rfl | ⟨rfl, hp⟩
          · exact ⟨v, g1, g2.ren hren⟩
          · exact ⟨v, g1, g2.move fun u hu => by rw [hp u] at hu; cases hu⟩
        · obtain ⟨k1, k2, k3⟩ := this.own hoo
          exact ⟨k1, by simp only [renB_dead]; exact k2, k3⟩
    · obtain ⟨t, b1, hi, g1, g2, g3, rfl⟩ := hnth h1
      obtain ⟨t', b2, hj, g4, g5, g6, rfl⟩ := hnth h2
      rw [g3] at hx
      rw [g6] at hx'
      simp only [renB_dead] at hd
      exact h.wr.sep t t' b1 b2 x x' (fun e => hne (by subst e; exact hinj hi hj g1 g4)) g2 g5 hoc hd hx hx'
    · unfold renβ; rw [if_pos ht]; exact h.agree t x ht hx
    · have e : (upto 0 H0.length ++ ord)[t]? = some t := by rw [List.getElem?_append_left (by rw [u1]; exact ht), u2 t ht, Nat.zero_add]
      rw [hsz e]; exact h.ext.size t ht
    · obtain ⟨i, b', o, C, h1, h2, h3⟩ := hB
      obtain ⟨t, b, hi, g1, g2, g3, rfl⟩ := hnth h1
      rw [g3] at h3
      exact h.own B ⟨t, b, o, C, g2, h2, h3⟩
    · rw [renM_get]; exact hv.ren hren
  · exact ⟨β, h, fun d v hv => hv⟩

theorem clean_sound {nt : Nat} {st : St} {a : Act} (hR : Rel β0 H0 w0 nt st a w) (live : List (Nat × List Nat)) (id : Nat) : Rel β0 H0 w0 nt (clean H0.length live id st) a w := by
  obtain ⟨β, hI, hv, hs, hdf⟩ := hR
  unfold clean
  split
  · rename_i l hl
    have hv' : RTm β st.H (keepM l st.tm) a.tmps := fun t => by
      rcases keepM_get l st.tm t with e | e
      · rw [e]; trivial
      · rw [e]; exact hv t
    obtain ⟨β', k1, k2⟩ := compact_sound hI (keepM l st.tm)
    exact ⟨β', k1, fun t => k2 t _ (hv' t), hs, hdf⟩
  · exact ⟨β, hI, hv, hs, hdf⟩
end
end Go.Rf
