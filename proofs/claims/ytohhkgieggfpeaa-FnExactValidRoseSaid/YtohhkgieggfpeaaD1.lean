/-
  A region whose order is drawn: what each operation has done in the text's order.
-/
import Derived.Test.YtohhkgieggfpeaaC2
set_option linter.unusedVariables false
namespace Go.Rf
open Go

structure Deed where
  slot : Nat
  run : Bool
  v : AV
  ed : List (Nat × Blk)
  rd : List Nat

section
variable {β0 : Bm} {H0 : List Blk} {w0 : World} {β : Bm} {H : List Blk} {w : World} {P : Program} {Γ : Ctx}

def ap (p : Oper × Deed) (S : St) : St := ⟨put S.tm p.1.dst p.2.v, edit p.2.ed S.H⟩
def runE : List (Oper × Deed) → St → St
  | [], S => S
  | p :: r, S => runE r (ap p S)

/-- The state looks the same. -/
def EqS (S S' : St) : Prop := (∀ d, get S.tm d = get S'.tm d) ∧ S.H = S'.H
theorem EqS.refl (S : St) : EqS S S := ⟨fun _ => rfl, rfl⟩
theorem EqS.trans {a b c : St} (h : EqS a b) (k : EqS b c) : EqS a c := ⟨fun d => (h.1 d).trans (k.1 d), h.2.trans k.2⟩
theorem get_put (tm : List (Nat × AV)) (d : Option Nat) (v : AV) (x : Nat) : get (put tm d v) x = if d = some x then v else get tm x := by
  cases d with
  | none => simp [put]
  | some d =>
    simp only [put]
    rw [look_put]
    by_cases e : d = x
    · subst e; simp
    · rw [if_neg e, if_neg (by simpa using e)]
theorem EqS.ap {S S' : St} (h : EqS S S') (p : Oper × Deed) : EqS (ap p S) (ap p S') :=
  ⟨fun d => by simp only [Go.Rf.ap]; rw [get_put, get_put, h.1 d], by simp only [Go.Rf.ap]; rw [h.2]⟩
theorem EqS.runE : ∀ (E : List (Oper × Deed)) {S S' : St}, EqS S S' → EqS (runE E S) (runE E S')
  | [], S, S', h => h
  | p :: r, S, S', h => EqS.runE r (h.ap p)

/-- The operation does its deed there. -/
structure Evs (Γ : Ctx) (nt : Nat) (all : List Oper) (p : Oper × Deed) (tm : List (Nat × AV)) (H : List Blk) : Prop where
  dst : okDst nt p.1.dst = true
  ran : p.2.run = true → (p.1.guard = none ∨ ∃ j want d, p.1.guard = some (j, want) ∧ dstAt all j = some d ∧ get tm d = .v (.one (.bool want))) ∧
    evD Γ p.2.slot p.1.op tm H (fun v ed rd => some (v, ed, rd)) = some (p.2.v, p.2.ed, p.2.rd)
  skp : p.2.run = false → p.2.v = .tup [] ∧ p.2.ed = [] ∧ p.2.rd = [] ∧ ∃ j want d, p.1.guard = some (j, want) ∧ dstAt all j = some d ∧ (get tm d = .v (.one (.bool (!want))) ∨ get tm d = .tup [])

/-- The slots that an operation looks at. -/
def looks (all : List Oper) (o : Oper) (d : Nat) : Prop := (.tmp d : Operand) ∈ o.op.operands ∨ ∃ j want, o.guard = some (j, want) ∧ dstAt all j = some d

theorem opnd_congr {tm tm' : List (Nat × AV)} {x : Operand} (h : ∀ d, x = .tmp d → get tm' d = get tm d) : opnd tm' x = opnd tm x := by
  cases x with
  | tmp t => exact h t rfl
  | _ => rfl
theorem Evs.local_ {nt : Nat} {all : List Oper} {p : Oper × Deed} {tm tm' : List (Nat × AV)} {H H' : List Blk} (h : Evs Γ nt all p tm H) (ht : ∀ d, looks all p.1 d → get tm' d = get tm d) (hb : SameBlk p.2.rd H H') : Evs Γ nt all p tm' H' := by
  refine ⟨h.dst, fun hr => ?_, fun hr => ?_⟩
  · obtain ⟨h1, h2⟩ := h.ran hr
    refine ⟨?_, ?_⟩
    · rcases h1 with h1 | ⟨j, want, d, e1, e2, e3⟩
      · exact .inl h1
      · exact .inr ⟨j, want, d, e1, e2, by rw [ht d (.inr ⟨j, want, e1, e2⟩)]; exact e3⟩
    · obtain ⟨v, ed, rd, e, hl⟩ := evD_local h2
      injection e with e
      injection e with e1 e
      injection e with e2 e3
      subst e1; subst e2; subst e3
      exact hl tm' H' _ _ (fun x hx => opnd_congr fun d hd => ht d (.inl (by subst hd; exact hx))) hb
  · obtain ⟨h1, h2, h3, j, want, d, e1, e2, e3⟩ := h.skp hr
    exact ⟨h1, h2, h3, j, want, d, e1, e2, by rw [ht d (.inr ⟨j, want, e1, e2⟩)]; exact e3⟩
theorem Evs.eqS {nt : Nat} {all : List Oper} {p : Oper × Deed} {S S' : St} (h : Evs Γ nt all p S.tm S.H) (e : EqS S S') : Evs Γ nt all p S'.tm S'.H :=
  h.local_ (fun d _ => (e.1 d).symm) fun t _ => by rw [e.2]

def didsFrom : Nat → List (Oper × Deed) → List Did
  | _, [] => []
  | i, p :: r => match p.2.run with
    | true => ⟨i, fsts p.2.ed, p.2.rd⟩ :: didsFrom (i + 1) r
    | false => didsFrom (i + 1) r
def slotsFrom : Nat → List Oper → List Nat
  | _, [] => []
  | s, o :: r => s :: slotsFrom (s + wd o) r

theorem know_eq {tm : List (Nat × AV)} {d : Nat} {b : Bool} (h : get tm d = .v (.one (.bool b))) (H : List Blk) : EqS ⟨(d, A1 (.bool b)) :: tm, H⟩ ⟨tm, H⟩ :=
  ⟨fun x => by
    simp only
    rw [look_put]
    by_cases e : d = x
    · subst e; rw [if_pos rfl, h]; rfl
    · rw [if_neg e], rfl⟩

theorem evDs_split {R : Type} {nt : Nat} {all : List Oper} {k : St → List Did → Option R} {r : R} : ∀ {l : List Oper} {i slot : Nat} {st : St} {log : List Did}, evDs Γ nt all i slot l st log k = some r →
    ∃ E st' log', E.map (·.1) = l ∧ E.map (·.2.slot) = slotsFrom slot l ∧ k st' log' = some r ∧ (∀ j p, E[j]? = some p → Evs Γ nt all p (runE (E.take j) st).tm (runE (E.take j) st).H) ∧ EqS st' (runE E st) ∧ log' = (didsFrom i E).reverse ++ log
  | [], i, slot, st, log, h => by
    simp only [evDs] at h
    exact ⟨[], st, log, rfl, rfl, h, fun j p hp => by simp at hp, EqS.refl _, rfl⟩
  | o :: l, i, slot, st, log, h => by
    simp only [evDs] at h
    have run : ∀ st1 : St, EqS st1 st → (o.guard = none ∨ ∃ j want d, o.guard = some (j, want) ∧ dstAt all j = some d ∧ get st1.tm d = .v (.one (.bool want))) →
        (match okDst nt o.dst with
        | true => evD Γ slot o.op st1.tm st1.H fun v ed rd => evDs Γ nt all (i + 1) (slot + wd o) l ⟨put st1.tm o.dst v, edit ed st1.H⟩ (⟨i, fsts ed, rd⟩ :: log) k
        | false => none) = some r → ∃ E st' log', E.map (·.1) = o :: l ∧ E.map (·.2.slot) = slotsFrom slot (o :: l) ∧ k st' log' = some r ∧ (∀ j p, E[j]? = some p → Evs Γ nt all p (runE (E.take j) st).tm (runE (E.take j) st).H) ∧ EqS st' (runE E st) ∧ log' = (didsFrom i E).reverse ++ log := by
      intro st1 he hg h
      split at h
      · rename_i hok
        obtain ⟨v, ed, rd, h1, h2⟩ := evD_local h
        obtain ⟨E, st', log', e1, e2, e3, e4, e5, e6⟩ := evDs_split h1
        have ha : EqS ⟨put st1.tm o.dst v, edit ed st1.H⟩ (ap (o, ⟨slot, true, v, ed, rd⟩) st) := he.ap (o, ⟨slot, true, v, ed, rd⟩)
        refine ⟨(o, ⟨slot, true, v, ed, rd⟩) :: E, st', log', by simp [e1], by simp [e2, slotsFrom], e3, fun j p hp => ?_, e5.trans (ha.runE E), ?_⟩
        · cases j with
          | zero =>
            simp at hp
            subst hp
            have : Evs Γ nt all (o, ⟨slot, true, v, ed, rd⟩) st1.tm st1.H := ⟨hok, fun _ => ⟨hg, h2 _ _ _ _ (fun _ _ => rfl) (fun _ _ => rfl)⟩, fun hh => by cases hh⟩
            exact this.eqS he
          | succ j =>
            simp only [List.getElem?_cons_succ] at hp
            simp only [List.take_succ_cons, runE]
            exact (e4 j p hp).eqS (ha.runE _)
        · rw [e6]
          simp only [didsFrom, List.reverse_cons, List.append_assoc, List.singleton_append]
      · cases h
    have skip : ∀ st1 : St, EqS st1 st → (∃ j want d, o.guard = some (j, want) ∧ dstAt all j = some d ∧ (get st1.tm d = .v (.one (.bool (!want))) ∨ get st1.tm d = .tup [])) →
        (match okDst nt o.dst with
        | true => evDs Γ nt all (i + 1) (slot + wd o) l ⟨put st1.tm o.dst (.tup []), st1.H⟩ log k
        | false => none) = some r → ∃ E st' log', E.map (·.1) = o :: l ∧ E.map (·.2.slot) = slotsFrom slot (o :: l) ∧ k st' log' = some r ∧ (∀ j p, E[j]? = some p → Evs Γ nt all p (runE (E.take j) st).tm (runE (E.take j) st).H) ∧ EqS st' (runE E st) ∧ log' = (didsFrom i E).reverse ++ log := by
      intro st1 he hg h
      split at h
      · rename_i hok
        obtain ⟨E, st', log', e1, e2, e3, e4, e5, e6⟩ := evDs_split h
        have ha : EqS ⟨put st1.tm o.dst (.tup []), st1.H⟩ (ap (o, ⟨slot, false, .tup [], [], []⟩) st) := he.ap (o, ⟨slot, false, .tup [], [], []⟩)
        refine ⟨(o, ⟨slot, false, .tup [], [], []⟩) :: E, st', log', by simp [e1], by simp [e2, slotsFrom], e3, fun j p hp => ?_, e5.trans (ha.runE E), ?_⟩
        · cases j with
          | zero =>
            simp at hp
            subst hp
            have : Evs Γ nt all (o, ⟨slot, false, .tup [], [], []⟩) st1.tm st1.H := ⟨hok, (fun hh => by cases hh), fun _ => ⟨rfl, rfl, rfl, hg⟩⟩
            exact this.eqS he
          | succ j =>
            simp only [List.getElem?_cons_succ] at hp
            simp only [List.take_succ_cons, runE]
            exact (e4 j p hp).eqS (ha.runE _)
        · rw [e6]
          simp only [didsFrom]
      · cases h
    split at h
    · rename_i hg
      exact run st (EqS.refl _) (.inl hg) h
    · rename_i j want hg
      split at h
      · cases h
      · rename_i d hd
        split at h
        · rename_i b hb
          have hk := know_eq hb st.H
          cases b
          · cases want
            · simp only [br] at h
              exact run _ hk (.inr ⟨j, false, d, hg, hd, by rw [hk.1 d]; exact hb⟩) h
            · simp only [br] at h
              exact skip _ hk ⟨j, true, d, hg, hd, .inl (by rw [hk.1 d]; exact hb)⟩ h
          · cases want
            · simp only [br] at h
              exact skip _ hk ⟨j, false, d, hg, hd, .inl (by rw [hk.1 d]; exact hb)⟩ h
            · simp only [br] at h
              exact run _ hk (.inr ⟨j, true, d, hg, hd, by rw [hk.1 d]; exact hb⟩) h
        · rename_i hb
          exact skip st (EqS.refl _) ⟨j, want, d, hg, hd, .inr hb⟩ h
        · cases h

/-- One operation there, carried out. -/
theorem deed_sound (hT : chkTab P Γ.ty = true) (hS : SumOk P Γ) {nt : Nat} {ops : Array Oper} {p : Oper × Deed} {tm : List (Nat × AV)} {a : Act} (hI : Inv β0 H0 w0 β H w) (hv : RTm β H tm a.tmps) (hsz : a.tmps.size = nt) (hdf : a.defers = [])
    (hlo : H0.length ≤ p.2.slot) (hsl : p.2.slot + wd p.1 ≤ H.length) (hfree : ∀ t, p.2.slot ≤ t → t < p.2.slot + wd p.1 → β t = none) (hE : Evs Γ nt ops.toList p tm H) {K : Act → World → Prop} {Q : Exit → Act → World → Prop}
    (hK : ∀ β' a' w', Inv β0 H0 w0 β' (edit p.2.ed H) w' → RTm β' (edit p.2.ed H) (put tm p.1.dst p.2.v) a'.tmps → a'.tmps.size = nt → a'.defers = [] → (∀ t, ¬ (p.2.slot ≤ t ∧ t < p.2.slot + wd p.1) → β t = none → β' t = none) → K a' w') :
    if Region.wanted p.1 (yielded ops a.tmps) then p.1.wp P a w K Q else K (a.put p.1.dst undef) w := by
  obtain ⟨o, slot, ran, v, ed, rd⟩ := p
  simp only at *
  have hdst : ∀ i, o.dst = some i → i < a.tmps.size := fun i hi => by rw [hsz]; exact okDst_lt hE.dst hi
  have yl : ∀ {j d : Nat}, dstAt ops.toList j = some d → ∀ {b : Bool}, get tm d = .v (.one (.bool b)) → yielded ops a.tmps j = some b := by
    intro j d hd b hb
    have e := hv d
    rw [hb] at e
    have e : a.tmps.getD d undef = .bool b := e
    unfold yielded
    rw [dstAt_eq hd]
    have : a.tmps[d]? = some (.bool b) := by
      rw [Array.getD_eq_getD_getElem?] at e
      cases hx : a.tmps[d]? with
      | none => rw [hx] at e; cases e
      | some x => rw [hx] at e; simp at e; rw [e]
    simp [this]
  cases ran with
  | false =>
    obtain ⟨rfl, rfl, rfl, j, want, d, e1, e2, e3⟩ := hE.skp rfl
    have hw : Region.wanted o (yielded ops a.tmps) = false := by
      rcases e3 with e3 | e3
      · simp only at e1 e2 e3
        simp only [Region.wanted, e1, yl e2 e3]
        cases want <;> rfl
      · have e := hv d
        rw [e3] at e
        obtain ⟨arr, e, harr⟩ := e
        have hy : yielded ops a.tmps j = none := by
          unfold yielded
          rw [dstAt_eq e2]
          rw [Array.getD_eq_getD_getElem?] at e
          cases hx : a.tmps[d]? with
          | none => simp [hx]
          | some x => rw [hx] at e; simp at e; subst e; simp [hx]
        simp only at e1
        simp [Region.wanted, e1, hy]
    rw [hw]
    simp only [Bool.false_eq_true, if_false]
    exact hK β _ _ hI (hv.put ⟨#[], rfl, .nil⟩ hdst) (by rw [put_size]; exact hsz) (by rw [put_defers]; exact hdf) fun _ _ hn => hn
  | true =>
    obtain ⟨hg, h⟩ := hE.ran rfl
    simp only at hg h
    have hw : Region.wanted o (yielded ops a.tmps) = true := by
      rcases hg with hg | ⟨j, want, d, e1, e2, e3⟩
      · simp [Region.wanted, hg]
      · simp only [Region.wanted, e1, yl e2 e3]
        cases want <;> rfl
    rw [hw]
    simp only [if_true]
    unfold evD at h
    split at h
    · rename_i hk
      obtain ⟨x, u, w', h1, h2, h3, h4⟩ := evQ_sound (P := P) hT hI.wr hv h
      injection h4 with h4
      injection h4 with e1 e
      injection e with e2 e3
      subst e1; subst e2
      exact Oper.wp_value (.inl h1) (hK β _ _ (hI.same h2) (hv.put h3 hdst) (by rw [put_size]; exact hsz) (by rw [put_defers]; exact hdf) fun _ _ hn => hn)
    · rename_i hk
      have hwd : wd o = room := by unfold wd; simp only [hk]
      rw [hwd] at hsl hfree hK
      have hr : 0 < room := by decide
      obtain ⟨x, u, w', ed', rd', β', h1, h2, h3, h4, h5, h6⟩ := evE_sound hT hI hlo (by omega) (hfree slot (Nat.le_refl _) (by omega)) hv h
      injection h6 with h6
      injection h6 with e1 e
      injection e with e2 e3
      subst e1; subst e2
      exact Oper.wp_value h1 (hK β' _ _ h2 ((hv.move h3).put h4 hdst) (by rw [put_size]; exact hsz) (by rw [put_defers]; exact hdf) h5)
    · rename_i hk0 hk1
      split at h
      · rename_i c hc
        split at h
        · rename_i f hcf
          split at h
          · rename_i g caps hf
            split at h
            · rename_i pts rd' hd
              split at h
              · rename_i b' v' news hs
                split at h
                · rename_i hl
                  obtain ⟨rfl, h⟩ := grd_inv h
                  have hl := ble_le hl
                  injection h with h
                  injection h with e1 e
                  injection e with e2 e3
                  subst e1; subst e2
                  have hk2 : kindOf (.call c) = 2 := by simp only [kindOf, hcf]
                  have hwd : wd o = room := by unfold wd; simp only [hc, hk2]
                  rw [hwd] at hsl hfree hK
                  have e := opnd_rel hv f
                  rw [hf] at e
                  obtain ⟨cs, he, hcs⟩ := e
                  have hargs : All2 (RV β H) (opnds tm c.args.toList ++ caps.map A1) (c.args.map a.eval ++ cs).toList := by
                    rw [Array.toList_append]
                    refine All2.append ?_ (A1_all hcs)
                    simpa using opnds_rel hv c.args.toList
                  have hx : execOp a.eval o = callFunc g (c.args.map a.eval ++ cs) := by
                    simp only [execOp, hc, resolve, hcf, Deferred.ofValue, he]
                    simp [invoke]
                  have hcr := (hS g _ _ _ hs w _ (dpVs_sound hI.wr hargs hd)).mono (q := fun u w' => K (a.put o.dst u) w') fun u w' ⟨γ, k1, k2⟩ => by
                    have hsn : slot + news.length ≤ H.length := by omega
                    have hfr : ∀ t, slot ≤ t → t < slot + news.length → β t = none := fun t q1 q2 => hfree t q1 (by omega)
                    refine hK _ _ _ (hI.place k1 hlo hsn hfr) ((hv.move (mv_place hsn hfr)).put (k2.shift (sh_place hsn)) hdst) (by rw [put_size]; exact hsz) (by rw [put_defers]; exact hdf) fun t q1 q2 => ?_
                    rw [placeB_out _ _ (fun q => q1 ⟨q.1, by omega⟩)]; exact q2
                  unfold Oper.wp
                  rw [hx]
                  rcases hcr with ⟨u, w', h1, h2⟩ | ⟨h1, h2⟩
                  · rw [h1]; exact h2
                  · rw [h1]
                    show Calls P g _ w _
                    refine h2.mono fun e w' ⟨u, he, h3⟩ => ?_
                    subst he
                    exact h3
                · cases h
              · cases h
            · cases h
          · cases h
        · cases h
      · cases h
end
end Go.Rf
