import Derived.Tactics
import Derived.Test.YtcbldlfdjabeaaaA0
/-
  What an operation makes, writes hangs on its operands and on the blocks that it says it has looked at alone.
-/
set_option linter.unusedVariables false
set_option linter.unusedSimpArgs false
namespace Go.Rf
open Go

section
variable {Γ : Ctx} {R : Type}

theorem places_congr {fs : List (Nat × TypeId)} {tm tm' : List (Nat × AV)} : ∀ {l : List (Nat × Operand)}, (∀ p ∈ l, opnd tm' p.2 = opnd tm p.2) → places Γ fs tm' l = places Γ fs tm l
  | [], _ => rfl
  | (i, x) :: r, h => by
    have h1 := h (i, x) (by simp)
    have h2 := places_congr (fs := fs) (l := r) fun p hp => h p (by simp [hp])
    simp only at h1
    simp only [places, h1, h2]
theorem elems_congr {sz : Nat} {tm tm' : List (Nat × AV)} : ∀ {l : List (Nat × Operand)}, (∀ p ∈ l, opnd tm' p.2 = opnd tm p.2) → elems sz tm' l = elems sz tm l
  | [], _ => rfl
  | (i, x) :: r, h => by
    have h1 := h (i, x) (by simp)
    have h2 := elems_congr (sz := sz) (l := r) fun p hp => h p (by simp [hp])
    simp only at h1
    simp only [elems, h1, h2]
theorem rdSl_congr {H H' : List Blk} {x : AV} (h : SameBlk (tgV x) H H') : rdSl H' x = rdSl H x := by
  unfold rdSl
  split
  · rename_i t off len sz
    simp only [h t (by simp [tgV, tgT, tg1, tg0])]
  · rename_i t off len sz
    simp only [h t (by simp [tgV, tgT, tg1, tg0])]
  · rfl

theorem evE_local {slot : Nat} {o : Op} {tm : List (Nat × AV)} {H : List Blk} {k : AV → List (Nat × Blk) → List Nat → Option R} {r : R} (h : evE Γ slot o tm H k = some r) :
    ∃ v ed rd, k v ed rd = some r ∧ ∀ (tm' : List (Nat × AV)) (H' : List Blk) (R' : Type) (k' : AV → List (Nat × Blk) → List Nat → Option R'), SameOps o tm tm' → SameBlk rd H H' → evE Γ slot o tm' H' k' = k' v ed rd := by
  unfold evE at h
  split at h
  · -- box
    rename_i T x
    split at h
    · rename_i cs hcs
      exact ⟨_, _, _, h, fun tm' H' R' k' ho hb => by simp only [evE]; rw [ho x (by simp [Op.operands]), hcs]⟩
    · cases h
  · -- alloc
    split at h
    · rename_i i hi
      exact ⟨_, _, _, h, fun tm' H' R' k' ho hb => by simp only [evE, hi]⟩
    · cases h
  · -- build
    rename_i T parts
    split at h
    · rename_i i hi
      split at h
      · rename_i fs hd
        split at h
        · rename_i ps hps
          split at h
          · rename_i cs hcs
            refine ⟨_, _, _, h, fun tm' H' R' k' ho hb => ?_⟩
            have := places_congr (Γ := Γ) (fs := fs) (tm := tm) (tm' := tm') (l := parts.toList) fun p hp => ho p.2 (by
              simp only [Op.operands, List.mem_toArray, List.mem_map]
              exact ⟨p, hp, rfl⟩)
            simp only [evE, hi, hd]
            rw [this, hps]
            simp only [hcs]
          · cases h
        · cases h
      · cases h
    · cases h
  · -- buildSlice
    rename_i T len parts
    split at h
    · rename_i i hi
      split at h
      · rename_i e hd
        split at h
        · rename_i ei hei
          split at h
          · rename_i hle
            split at h
            · rename_i cs hcs
              split at h
              · rename_i b hb
                refine ⟨_, _, _, h, fun tm' H' R' k' ho hbb => ?_⟩
                have := elems_congr (sz := ei.size) (tm := tm) (tm' := tm') (l := parts.toList) fun p hp => ho p.2 (by
                  simp only [Op.operands, List.mem_toArray, List.mem_map]
                  exact ⟨p, hp, rfl⟩)
                simp only [evE, hi, hd, hei, hle]
                rw [this, hcs]
                simp only [hb]
              · cases h
            · cases h
          · cases h
        · cases h
      · cases h
    · cases h
  · -- store
    rename_i T p x
    split at h
    · rename_i t off ext hp
      split at h
      · rename_i i b cs hi hb hcs
        split at h
        · rename_i hl
          split at h
          · rename_i hle
            split at h
            · rename_i hown
              split at h
              · rename_i b' hset
                refine ⟨_, _, _, h, fun tm' H' R' k' ho hbb => ?_⟩
                simp only [evE]
                rw [ho p (by simp [Op.operands]), ho x (by simp [Op.operands]), hp, hcs, hi]
                simp only
                rw [hbb t (by simp), hb]
                simp only [hl, hle, hown, hset]
              · cases h
            · cases h
          · cases h
        · cases h
      · cases h
    · cases h
  · -- makeSlice
    rename_i T l c
    split at h
    · rename_i i hi
      split at h
      · rename_i e hd
        split at h
        · rename_i ei hei
          split at h
          · rename_i n m hn hm
            obtain ⟨hp, h⟩ := chk_nat h
            split at h
            · rename_i b hb
              refine ⟨_, _, _, h, fun tm' H' R' k' ho hbb => ?_⟩
              simp only [evE, hi, hd, hei]
              rw [ho l (by simp [Op.operands]), ho c (by simp [Op.operands]), hn, hm]
              simp only [chk_pos hp, hb]
            · cases h
          · cases h
        · cases h
      · cases h
    · cases h
  · -- append
    rename_i c
    split at h
    · rename_i hc
      have harg : ∀ (tm' : List (Nat × AV)), SameOps (.call c) tm tm' → opnds tm' c.args.toList = opnds tm c.args.toList := fun tm' ho =>
        opnds_congr fun x hx => ho x (by simp only [Op.operands, Call.operands, Array.mem_append]; exact .inr (by simpa using hx))
      split at h
      · rename_i T T' s x hTs hops
        split at h
        · rename_i i i' hi hi'
          split at h
          · rename_i e hd hTT
            split at h
            · rename_i ei m src hei hrd
              split at h
              · obtain ⟨hp, h⟩ := chk_nat h
                refine ⟨_, _, _, h, fun tm' H' R' k' ho hbb => ?_⟩
                simp only [evE, hc]
                rw [hTs, harg _ ho, hops]
                simp only [hi, hi', hd, hTT, hei]
                rw [rdSl_congr hbb, hrd]
                simp only [chk_pos hp]
              · rename_i t off len sz
                split at h
                · rename_i b hb
                  split at h
                  · rename_i h1 h2 h3
                    split at h
                    · rename_i b' happ
                      obtain ⟨hp, h⟩ := chk_nat h
                      refine ⟨_, _, _, h, fun tm' H' R' k' ho hbb => ?_⟩
                      simp only [evE, hc]
                      rw [hTs, harg _ ho, hops]
                      simp only [hi, hi', hd, hTT, hei]
                      rw [rdSl_congr (x := x) fun u hu => hbb u (by simp [hu]), hrd]
                      simp only
                      rw [hbb t (by simp), hb]
                      simp only [h1, h2, h3, happ, chk_pos hp]
                    · cases h
                  · cases h
                · cases h
              · cases h
            · cases h
          · cases h
        · cases h
      · cases h
    · cases h
  · cases h

theorem dpA_local {H : List Blk} {T : TypeId} {a : At} {p : PV} {rd : List Nat} (h : dpA Γ H T a = some (p, rd)) {H' : List Blk} (hb : SameBlk rd H H') : dpA Γ H' T a = some (p, rd) := by
  unfold dpA at h
  split at h
  · cases h; rfl
  · cases h; rfl
  · cases h; rfl
  · cases h; rfl
  · split at h
    · rename_i b hn
      split at h
      · rename_i hr
        cases h
        simp only [dpA]
        rw [hb _ (by simp), hn]
        simp only [hr]
      · cases h
    · cases h
  · split at h
    · rename_i b hn
      split at h
      · rename_i hr
        cases h
        simp only [dpA]
        rw [hb _ (by simp), hn]
        simp only [hr]
      · cases h
    · cases h
  · simp only [dpA]; exact h
  · cases h
theorem dpAs_local {H H' : List Blk} : ∀ {as : List At} {Ts : List TypeId} {p : List PV} {rd : List Nat}, dpAs Γ H Ts as = some (p, rd) → SameBlk rd H H' → dpAs Γ H' Ts as = some (p, rd)
  | [], Ts, p, rd, h, _ => by simp only [dpAs] at h ⊢; exact h
  | a :: r, Ts, p, rd, h, hb => by
    simp only [dpAs] at h
    split at h
    · rename_i q x qs y h1 h2
      cases h
      simp only [dpAs]
      rw [dpA_local h1 fun t ht => hb t (by simp [ht]), dpAs_local h2 fun t ht => hb t (by simp [ht])]
    · cases h
theorem dpV_local {H H' : List Blk} {T : TypeId} {v : AV} {p : PT} {rd : List Nat} (h : dpV Γ H T v = some (p, rd)) (hb : SameBlk rd H H') : dpV Γ H' T v = some (p, rd) := by
  unfold dpV at h
  split at h
  · split at h
    · rename_i b hn
      split at h
      · rename_i cs hcs
        split at h
        · cases h
        · rename_i he
          split at h
          · rename_i ps x hd
            cases h
            simp only [dpV]
            rw [hb _ (by simp), hn]
            simp only [hcs, he]
            rw [dpAs_local hd fun t ht => hb t (by simp [ht])]
          · cases h
      · cases h
    · cases h
  · split at h
    · rename_i ps x hd
      cases h
      simp only [dpV]
      rw [dpAs_local hd hb]
    · cases h
  · rename_i a h1 h2
    split at h
    · rename_i q x hd
      cases h
      have := dpA_local hd hb
      cases a <;> first | (exact absurd rfl (h1 _ _ _)) | (exact absurd rfl (h2 _ _)) | (simp only [dpV, this])
    · cases h
  · split at h
    · rename_i ps x hd
      cases h
      simp only [dpV]
      rw [dpAs_local hd hb]
    · cases h
  · cases h
theorem dpVs_local {H H' : List Blk} : ∀ {as : List AV} {Ts : List TypeId} {p : List PT} {rd : List Nat}, dpVs Γ H Ts as = some (p, rd) → SameBlk rd H H' → dpVs Γ H' Ts as = some (p, rd)
  | [], Ts, p, rd, h, _ => by simp only [dpVs] at h ⊢; exact h
  | a :: r, Ts, p, rd, h, hb => by
    simp only [dpVs] at h
    split at h
    · rename_i q x qs y h1 h2
      cases h
      simp only [dpVs]
      rw [dpV_local h1 fun t ht => hb t (by simp [ht]), dpVs_local h2 fun t ht => hb t (by simp [ht])]
    · cases h

theorem insD_local {R : Type} {slot : Nat} {args : List AV} {H : List Blk} {k : AV → List (Nat × Blk) → List Nat → Option R} {r : R} (h : insD slot args H k = some r) :
    ∃ v ed rd, k v ed rd = some r ∧ ∀ (H' : List Blk) (R' : Type) (k' : AV → List (Nat × Blk) → List Nat → Option R'), SameBlk rd H H' → insD slot args H' k' = k' v ed rd := by
  unfold insD at h
  split at h
  · rename_i t off len sz i t2 off2 len2 sz2
    split at h
    · rename_i b b2 hb hb2
      split at h
      · rename_i hq
        split at h
        · rename_i xs ys hbx hby
          obtain ⟨hok, hk⟩ := grd_inv h
          refine ⟨_, _, _, hk, fun H' R' k' hs => ?_⟩
          unfold insD
          simp only
          rw [hs t (by simp), hs t2 (by simp), hb, hb2]
          simp only [hq, hbx, hby, hok, grd]
        · cases h
      · cases h
    · cases h
  · cases h

theorem evD_local {slot : Nat} {o : Op} {tm : List (Nat × AV)} {H : List Blk} {k : AV → List (Nat × Blk) → List Nat → Option R} {r : R} (h : evD Γ slot o tm H k = some r) :
    ∃ v ed rd, k v ed rd = some r ∧ ∀ (tm' : List (Nat × AV)) (H' : List Blk) (R' : Type) (k' : AV → List (Nat × Blk) → List Nat → Option R'), SameOps o tm tm' → SameBlk rd H H' → evD Γ slot o tm' H' k' = k' v ed rd := by
  unfold evD at h
  split at h
  · rename_i hk
    obtain ⟨v, h1, h2⟩ := evQ_local h
    refine ⟨v, _, _, h1, fun tm' H' R' k' ho hb => ?_⟩
    simp only [evD, hk]
    rw [h2 tm' H' _ _ ho (by unfold rdQ; exact hb)]
    cases o <;> try rfl
    rename_i T a
    simp only
    rw [ho a (by simp [Op.operands])]
  · rename_i hk
    obtain ⟨v, ed, rd, h1, h2⟩ := evE_local h
    exact ⟨v, ed, rd, h1, fun tm' H' R' k' ho hb => by simp only [evD, hk]; exact h2 _ _ _ _ ho hb⟩
  · rename_i hk0 hk1
    split at h
    · rename_i c
      split at h
      · rename_i f hc
        split at h
        · rename_i g caps hf
          split at h
          · rename_i hins
            obtain ⟨v, ed, rd, h1, h2⟩ := insD_local h
            refine ⟨v, ed, rd, h1, fun tm' H' R' k' ho hb => ?_⟩
            have harg : opnds tm' c.args.toList = opnds tm c.args.toList :=
              opnds_congr fun x hx => ho x (by simp only [Op.operands, Call.operands, Array.mem_append]; exact .inr (by simpa using hx))
            have hk2 : kindOf (.call c) = 2 := by simp only [kindOf, hc]
            simp only [evD, hk2, hc]
            rw [ho f (by simp [Op.operands, Call.operands, hc]), hf]
            simp only [hins]
            rw [harg]
            exact h2 _ _ _ hb
          rename_i hins
          split at h
          · rename_i pts rd hd
            split at h
            · rename_i b v news hs
              split at h
              · rename_i hl
                obtain ⟨rfl, h⟩ := grd_inv h
                refine ⟨_, _, _, h, fun tm' H' R' k' ho hb => ?_⟩
                have harg : opnds tm' c.args.toList = opnds tm c.args.toList :=
                  opnds_congr fun x hx => ho x (by simp only [Op.operands, Call.operands, Array.mem_append]; exact .inr (by simpa using hx))
                have hk2 : kindOf (.call c) = 2 := by simp only [kindOf, hc]
                simp only [evD, hk2, hc]
                rw [ho f (by simp [Op.operands, Call.operands, hc]), hf]
                simp only [hins]
                rw [harg, dpVs_local hd hb]
                simp only [hs, hl, grd]
              · cases h
            · cases h
          · cases h
        · cases h
      · cases h
    · cases h
end
end Go.Rf

/-
  Numbers that are put into rows: what is asked of such a function.
-/
set_option linter.unusedVariables false
set_option linter.unusedSimpArgs false
namespace Go.Rf
open Go

def InsRow (P : Program) (g : FuncId) : Prop :=
  ∀ (B n c i vb voff vc : Nat) (cc cv : Array Value) (e ev : TypeId) (cs : List Value) (v : Value) (w : World),
    w.heap[B]? = some (.cells cc e (0, 0)) → w.heap[vb]? = some (.cells cv ev (0, 0)) → vb ≠ B → c ≤ cc.size → i ≤ n → n ≤ c → n + 1 ≤ 1099511627776 → cs.length = n → (∀ (j : Nat) (u : Value), cs[j]? = some u → cc[j]? = some u) →
    cv[voff]? = some v → oneV v = true → (∀ u ∈ cs, oneV u = true) →
    (callFunc g #[.slice (some ⟨B, 0, none⟩) n c, .int .i64 i, .slice (some ⟨vb, voff, none⟩) 1 vc]).run P w = .ok (.enter g #[.slice (some ⟨B, 0, none⟩) n c, .int .i64 i, .slice (some ⟨vb, voff, none⟩) 1 vc]) w ∧
    Calls P g #[.slice (some ⟨B, 0, none⟩) n c, .int .i64 i, .slice (some ⟨vb, voff, none⟩) 1 vc] w fun E w' => ∃ out, E = .returned out ∧
      ((n + 1 ≤ c ∧ out = .slice (some ⟨B, 0, none⟩) (n + 1) c ∧ w'.os = w.os ∧ w'.tape = w.tape ∧ w'.output = w.output ∧ w'.heap.size = w.heap.size ∧ (∀ k, k ≠ B → w'.heap[k]? = w.heap[k]?) ∧
          ∃ c' e', w'.heap[B]? = some (.cells c' e' (0, 0)) ∧ c'.size = cc.size ∧ ∀ (j : Nat), j < n + 1 → c'[j]? = (cs.take i ++ v :: cs.drop i)[j]?) ∨
        ∃ nc c' e', out = .slice (some ⟨w.heap.size, 0, none⟩) (n + 1) nc ∧ n + 1 ≤ nc ∧ nc ≤ c'.size ∧ Same (w.alloc (.cells c' e')) w' ∧ ∀ (j : Nat), j < n + 1 → c'[j]? = (cs.take i ++ v :: cs.drop i)[j]?)

theorem in_get {α : Type} (xs : List α) (i : Nat) (y : α) (hi : i ≤ xs.length) (j : Nat) : (xs.take i ++ y :: xs.drop i)[j]? = if j < i then xs[j]? else if j = i then some y else xs[j - 1]? := by
  by_cases h1 : j < i
  · rw [if_pos h1, List.getElem?_append_left (by rw [List.length_take]; omega), List.getElem?_take_of_lt h1]
  · rw [if_neg h1, List.getElem?_append_right (by rw [List.length_take]; omega), List.length_take, Nat.min_eq_left hi]
    by_cases h2 : j = i
    · subst h2; rw [if_pos rfl, Nat.sub_self]; rfl
    · rw [if_neg h2]
      obtain ⟨k, hk⟩ : ∃ k, j - i = k + 1 := ⟨j - i - 1, by omega⟩
      rw [hk, List.getElem?_cons_succ, List.getElem?_drop, show i + k = j - 1 by omega]

end Go.Rf

/-
  The evaluator answers what the model's runs come to: calls, regions in the text's order.
-/
set_option linter.unusedVariables false
set_option linter.unusedSimpArgs false
namespace Go.Rf
open Go

def CallRes (P : Program) (f : FuncId) (vals : Array Value) (w : World) (post : Value → World → Prop) : Prop :=
  (∃ v w', (callFunc f vals).run P w = .ok (.value v) w' ∧ post v w') ∨
  ((callFunc f vals).run P w = .ok (.enter f vals) w ∧ Calls P f vals w fun e w' => ∃ v, e = .returned v ∧ post v w')
theorem CallRes.mono {P : Program} {f : FuncId} {vals : Array Value} {w : World} {p q : Value → World → Prop} (h : CallRes P f vals w p) (hpq : ∀ v w', p v w' → q v w') : CallRes P f vals w q := by
  rcases h with ⟨v, w', h1, h2⟩ | ⟨h1, h2⟩
  · exact .inl ⟨v, w', h1, hpq _ _ h2⟩
  · exact .inr ⟨h1, h2.mono fun e w' ⟨v, he, hp⟩ => ⟨v, he, hpq _ _ hp⟩⟩

def HdOk (P : Program) {R : Type} (hd : FuncId → List AV → List Blk → (AV → List Blk → Option R) → Option R) : Prop :=
  ∀ g args H k r, hd g args H k = some r → ∀ β w (vals : Array Value), WR β H w → All2 (RV β H) args vals.toList →
    CallRes P g vals w fun u w' => ∃ β' v H', Inv β H w β' H' w' ∧ RV β' H' v u ∧ k v H' = some r

def NoB : Bm := fun _ => none
def DA (w : World) : PV → Value → Prop
  | .s a, v => R0 NoB [] a v
  | .row sz len b, v => b.isRow = true ∧ b.size = len * sz ∧ ∃ a cap, v = .slice a len cap ∧ len ≤ cap ∧
      (0 < len → ∃ B o, a = some ⟨B, o, none⟩ ∧ B < w.heap.size ∧ ∀ j q, j < b.size → b.get j = some q → ∃ u, w.cell? ⟨B, o + j, none⟩ = some u ∧ R0 NoB [] q u)
def DT (w : World) : PT → Value → Prop
  | .one p, v => DA w p v
  | .agg ps, v => ∃ arr : Array Value, v = .agg arr ∧ All2 (DA w) ps arr.toList
  | .ptr ps, v => ∃ B o, v = .pointer (some ⟨B, o, none⟩) ∧ B < w.heap.size ∧ ∀ j p, ps[j]? = some p → ∃ u, w.cell? ⟨B, o + j, none⟩ = some u ∧ DA w p u
  | .fn f caps, v => ∃ cs : Array Value, v = .func (.func f) #[] cs ∧ All2 (DA w) caps cs.toList

def SumOk (P : Program) (Γ : Ctx) : Prop := (∀ g pts v news, Γ.sum g pts = some (true, v, news) → ∀ w (vals : Array Value), All2 (DT w) pts vals.toList →
  CallRes P g vals w fun u w' => ∃ γ, Fresh γ news w w' ∧ RV γ news v u) ∧ ∀ g, insQ Γ g = true → InsRow P g

section
variable {β0 : Bm} {H0 : List Blk} {w0 : World} {β : Bm} {H : List Blk} {w : World} {P : Program} {Γ : Ctx}

theorem R0_plain {a : At} {v : Value} {β : Bm} {H : List Blk} (h : RAt β H a v) (hp : ∀ u, m1 u a = false) (hf : isFn a = false) : R0 NoB [] a v := by
  rcases (RAt_iff β H a v).1 h with ⟨f, caps, rfl, _⟩ | h0
  · cases hf
  · exact h0.move fun t ht => by
      have : m1 t a = true := by cases a <;> first | exact ht | cases h0
      rw [hp t] at this; cases this
theorem row_cell {b : Body} (h : b.isRow = true) {j : Nat} {q : At} (hq : b.get j = some q) : isFn q = false := by
  cases b with
  | cells cs => cases h
  | dead n => cases h
  | _ => cases hq; rfl
theorem part_row {b : Body} (h : b.isRow = true) (off n : Nat) : (b.part off n).isRow = true := by
  cases b with
  | cells cs => cases h
  | dead n => cases h
  | _ => rfl

theorem dp_row (hw : WR β H w) {b : Blk} {t off len sz : Nat} (hb : nth H t = some b) (hr : b.body.isRow = true) {B o C : Nat} (hβ : β t = some (B, o, C)) (hle : off + len * sz ≤ szH H t) :
    (b.body.part off (len * sz)).size = len * sz ∧ B < w.heap.size ∧ ∀ j q, j < (b.body.part off (len * sz)).size → (b.body.part off (len * sz)).get j = some q → ∃ u, w.cell? ⟨B, o + off + j, none⟩ = some u ∧ R0 NoB [] q u := by
  have hbr := hw.bl hb hβ
  rw [szH_of hb] at hle
  obtain ⟨p1, p2⟩ := part_facts b.body off (len * sz)
  have hs : (b.body.part off (len * sz)).size = len * sz := by rw [p1]; omega
  refine ⟨hs, hbr.lt, fun j q hj hq => ?_⟩
  rw [hs] at hj
  have := p2 j q (by rw [hs]; exact hj) hq
  obtain ⟨u, h1, h2⟩ := hbr.cell (off + j) q (by omega) this
  refine ⟨u, by rw [Nat.add_assoc]; exact h1, R0_plain h2 (fun u => (row_facts hr).2.2 _ _ _ this) (row_cell hr this)⟩

theorem mtRow_size (q : RowK) : (mtRow q).size = 0 := by cases q <;> rfl

theorem dpA_sound (hw : WR β H w) {T : TypeId} {a : At} {v : Value} (hv : RAt β H a v) {p : PV} {rd : List Nat} (h : dpA Γ H T a = some (p, rd)) : DA w p v := by
  unfold dpA at h
  split at h
  · cases h; exact hv
  · cases h; exact hv
  · cases h; exact hv
  · cases h; exact hv
  · rename_i t off len sz
    split at h
    · rename_i b hb
      split at h
      · rename_i hr
        cases h
        rcases hv with ⟨B, o, C, cap, h1, h2, h3, h4, h5, rfl⟩ | ⟨rfl, a, rfl⟩
        · obtain ⟨k1, k2, k3⟩ := dp_row hw hb hr h1 h3
          exact ⟨part_row hr _ _, k1, _, cap, rfl, h4, fun _ => ⟨B, o + off, rfl, k2, k3⟩⟩
        · refine ⟨part_row hr _ _, ?_, a, 0, rfl, Nat.le_refl _, fun h => absurd h (Nat.lt_irrefl _)⟩
          rw [(part_facts b.body off _).1]; simp
      · cases h
    · cases h
  · rename_i t off len sz
    split at h
    · rename_i b hb
      split at h
      · rename_i hr
        cases h
        obtain ⟨a, cap, rfl, h1, h2⟩ := hv
        refine ⟨part_row hr _ _, ?_, a, cap, rfl, h1, fun hl => ?_⟩
        · by_cases hl : 0 < len
          · obtain ⟨B, o, C, h3, h4, h5, rfl⟩ := h2 hl
            exact (dp_row hw hb hr h3 h5).1
          · obtain rfl : len = 0 := by omega
            rw [(part_facts b.body off _).1]; simp
        · obtain ⟨B, o, C, h3, h4, h5, rfl⟩ := h2 hl
          obtain ⟨k1, k2, k3⟩ := dp_row hw hb hr h3 h5
          exact ⟨B, o + off, rfl, k2, k3⟩
      · cases h
    · cases h
  · split at h
    · split at h
      · split at h
        · split at h
          · rename_i hr
            cases h
            obtain ⟨a, rfl⟩ := hv
            exact ⟨hr, by rw [mtRow_size]; simp, a, 0, rfl, Nat.le_refl _, fun h => absurd h (Nat.lt_irrefl _)⟩
          · cases h
        · cases h
      · cases h
    · cases h
  · cases h
theorem dpAs_sound (hw : WR β H w) : ∀ {as : List At} {vs : List Value} {Ts : List TypeId} {ps : List PV} {rd : List Nat}, All2 (RAt β H) as vs → dpAs Γ H Ts as = some (ps, rd) → All2 (DA w) ps vs
  | [], [], Ts, ps, rd, .nil, h => by simp only [dpAs] at h; cases h; exact .nil
  | a :: as, v :: vs, Ts, ps, rd, .cons h1 h2, h => by
    simp only [dpAs] at h
    split at h
    · rename_i q x qs y e1 e2
      cases h
      exact .cons (dpA_sound hw h1 e1) (dpAs_sound hw h2 e2)
    · cases h
theorem R0s_RAt {as : List At} {vs : List Value} (h : All2 (R0 β H) as vs) : All2 (RAt β H) as vs := h.mono fun a v _ hv => (RAt_iff β H a v).2 (.inr hv)
theorem getN_len : ∀ {n : Nat} {b : Body} {off : Nat} {cs : List At}, getN b off n = some cs → cs.length = n ∧ ∀ j a, cs[j]? = some a → b.get (off + j) = some a
  | 0, b, off, cs, h => by simp only [getN] at h; cases h; exact ⟨rfl, fun j a h => by simp at h⟩
  | n + 1, b, off, cs, h => by
    simp only [getN] at h
    split at h
    · rename_i a ha
      split at h
      · rename_i r hr
        cases h
        obtain ⟨h1, h2⟩ := getN_len hr
        refine ⟨by simp [h1], fun j x hx => ?_⟩
        cases j with
        | zero => simp at hx; subst hx; exact ha
        | succ j => have := h2 j x (by simpa using hx); rw [← Nat.add_assoc, Nat.add_right_comm]; exact this
      · cases h
    · cases h
theorem dpV_sound (hw : WR β H w) {T : TypeId} {x : AV} {v : Value} (hv : RV β H x v) {p : PT} {rd : List Nat} (h : dpV Γ H T x = some (p, rd)) : DT w p v := by
  unfold dpV at h
  split at h
  · rename_i t off ext
    split at h
    · rename_i b hb
      split at h
      · rename_i cs hcs
        split at h
        · cases h
        · split at h
          · rename_i ps x hd
            cases h
            obtain ⟨B, o, C, h1, h2, h3, rfl⟩ := hv
            have hbr := hw.bl hb h1
            rw [szH_of hb] at h3
            obtain ⟨l1, l2⟩ := getN_len hcs
            -- the cells there
            have hall : ∃ vs : List Value, vs.length = ext ∧ (∀ (j : Nat) (u : Value), vs[j]? = some u → w.cell? ⟨B, o + off + j, none⟩ = some u) ∧ All2 (RAt β H) cs vs := by
              have hj : ∀ j, j < ext → ∃ u a, cs[j]? = some a ∧ w.cell? ⟨B, o + off + j, none⟩ = some u ∧ RAt β H a u := by
                intro j hj
                have hjl : j < cs.length := by omega
                obtain ⟨u, k1, k2⟩ := hbr.cell (off + j) _ (by omega) (l2 j _ (List.getElem?_eq_getElem hjl))
                exact ⟨u, _, List.getElem?_eq_getElem hjl, by rw [Nat.add_assoc]; exact k1, k2⟩
              have : ∀ n, n ≤ ext → ∃ vs : List Value, vs.length = n ∧ ∀ j, j < n → ∃ u a, vs[j]? = some u ∧ cs[j]? = some a ∧ w.cell? ⟨B, o + off + j, none⟩ = some u ∧ RAt β H a u := by
                intro n
                induction n with
                | zero => intro _; exact ⟨[], rfl, fun j hj => by omega⟩
                | succ n ih =>
                  intro hn
                  obtain ⟨vs, q1, q2⟩ := ih (by omega)
                  obtain ⟨u, a, g1, g2, g3⟩ := hj n (by omega)
                  refine ⟨vs ++ [u], by simp [q1], fun j hj' => ?_⟩
                  by_cases e : j < n
                  · obtain ⟨u', a', f1, f2⟩ := q2 j e
                    exact ⟨u', a', by rw [List.getElem?_append_left (by omega)]; exact f1, f2⟩
                  · obtain rfl : j = n := by omega
                    exact ⟨u, a, by rw [List.getElem?_append_right (by omega), q1, Nat.sub_self]; rfl, g1, g2, g3⟩
              obtain ⟨vs, q1, q2⟩ := this ext (Nat.le_refl _)
              refine ⟨vs, q1, fun j u hu => ?_, All2.of_get (by omega) fun j a u ha hu => ?_⟩
              · have hjl : j < ext := by rw [← q1]; exact (List.getElem?_eq_some_iff.1 hu).1
                obtain ⟨u', a', f1, f2, f3, f4⟩ := q2 j hjl
                rw [hu] at f1; cases f1; exact f3
              · have hjl : j < ext := by rw [← q1]; exact (List.getElem?_eq_some_iff.1 hu).1
                obtain ⟨u', a', f1, f2, f3, f4⟩ := q2 j hjl
                rw [hu] at f1; cases f1
                rw [ha] at f2; cases f2; exact f4
            obtain ⟨vs, q1, q2, q3⟩ := hall
            have hds := dpAs_sound hw q3 hd
            refine ⟨B, o + off, rfl, hbr.lt, fun j p hp => ?_⟩
            obtain ⟨u, g1, g2⟩ := hds.get j p hp
            exact ⟨u, q2 j u g1, g2⟩
          · cases h
      · cases h
    · cases h
  · rename_i f caps
    split at h
    · rename_i ps x hd
      cases h
      obtain ⟨cs, rfl, h2⟩ := hv
      exact ⟨cs, rfl, dpAs_sound hw (R0s_RAt h2) hd⟩
    · cases h
  · split at h
    · rename_i q x hd
      cases h
      exact dpA_sound hw hv hd
    · cases h
  · split at h
    · rename_i ps x hd
      cases h
      obtain ⟨arr, rfl, h2⟩ := hv
      exact ⟨arr, rfl, dpAs_sound hw h2 hd⟩
    · cases h
  · cases h
theorem dpVs_sound (hw : WR β H w) : ∀ {as : List AV} {vs : List Value} {Ts : List TypeId} {ps : List PT} {rd : List Nat}, All2 (RV β H) as vs → dpVs Γ H Ts as = some (ps, rd) → All2 (DT w) ps vs
  | [], [], Ts, ps, rd, .nil, h => by simp only [dpVs] at h; cases h; exact .nil
  | a :: as, v :: vs, Ts, ps, rd, .cons h1 h2, h => by
    simp only [dpVs] at h
    split at h
    · rename_i q x qs y e1 e2
      cases h
      exact .cons (dpV_sound hw h1 e1) (dpVs_sound hw h2 e2)
    · cases h

theorem shH_eq (H news : List Blk) : edit (mades H.length 0 news) (H ++ phs news.length) = H ++ shH H.length news := by
  have hl : ∀ (s : Nat) (l : List Blk), (shH s l).length = l.length := by
    intro s l
    induction l with
    | nil => rfl
    | cons b r ih => simp [shH, ih]
  have hn : ∀ (s : Nat) (l : List Blk) (i : Nat), nth (shH s l) i = (nth l i).map fun b => ⟨b.own, shB s b.body⟩ := by
    intro s l
    induction l with
    | nil => intro i; cases i <;> rfl
    | cons b r ih => intro i; cases i with | zero => rfl | succ i => exact ih i
  apply List.ext_getElem?
  intro i
  rw [← nth_eq, ← nth_eq, edit_mades _ _ 0 _ (by simp [phs_length]), nth_app, nth_app, hn]
  by_cases h1 : i < H.length
  · rw [if_neg (by omega), if_pos h1, if_pos h1]
  · rw [if_neg h1]
    by_cases h2 : i < H.length + news.length
    · rw [if_pos (by omega), Nat.add_zero, if_neg h1]
    · rw [if_neg (by omega), if_neg h1]
      have e1 : nth (phs news.length) (i - H.length) = none := by rw [nth_eq]; exact List.getElem?_eq_none (by rw [phs_length]; omega)
      have e2 : nth news (i - H.length) = none := by rw [nth_eq]; exact List.getElem?_eq_none (by omega)
      rw [e1, e2]; rfl

theorem Inv.call (h : Inv β0 H0 w0 β H w) {γ : Bm} {news : List Blk} {w' : World} (hf : Fresh γ news w w') :
    ∃ β', Inv β0 H0 w0 β' (H ++ shH H.length news) w' ∧ (∀ t, Mv β H β' (H ++ shH H.length news) t) ∧ (∀ {v : AV} {u : Value}, RV γ news v u → RV β' (H ++ shH H.length news) (shV H.length v) u) := by
  have h1 := h.phs news.length
  have hlen : H.length + news.length ≤ (H ++ Go.Rf.phs news.length).length := by simp [phs_length]
  have hfree : ∀ t, H.length ≤ t → t < H.length + news.length → cutB β H.length t = none := fun t ht _ => cutB_ge _ ht
  have h2 := h1.place hf h.ext.len hlen hfree
  have h3 := mv_place (γ := γ) hlen hfree
  have h4 := sh_place (β := cutB β H.length) (γ := γ) (s := H.length) hlen
  rw [shH_eq] at h2
  simp only [shH_eq] at h3 h4
  exact ⟨_, h2, fun t => (mv_phs β H _ t).trans (h3 t), fun hv => hv.shift h4⟩

theorem Inv.trans {β' : Bm} {H' : List Blk} {w' : World} (h : Inv β0 H0 w0 β H w) (k : Inv β H w β' H' w') : Inv β0 H0 w0 β' H' w' := by
  refine ⟨k.wr, fun t x ht hx => k.agree t x (Nat.lt_of_lt_of_le ht h.ext.len) (h.agree t x ht hx), h.ext.trans k.ext, fun B hB => ?_, h.fr.trans k.fr h.own⟩
  rcases k.own B hB with h1 | h1
  · exact h.own B h1
  · exact .inr (Nat.le_trans h.fr.size h1)
theorem Inv.mv {β' : Bm} {H' : List Blk} {w' : World} (k : Inv β H w β' H' w') (t : Nat) : Mv β H β' H' t := fun x hx ht =>
  ⟨k.agree t x ht hx, Nat.lt_of_lt_of_le ht k.ext.len, k.ext.size t ht⟩

def Rel (β0 : Bm) (H0 : List Blk) (w0 : World) (nt : Nat) (st : St) (a : Act) (w : World) : Prop :=
  ∃ β, Inv β0 H0 w0 β st.H w ∧ RTm β st.H st.tm a.tmps ∧ a.tmps.size = nt ∧ a.defers = []

theorem RTm.put {tm : List (Nat × AV)} {a : Act} (h : RTm β H tm a.tmps) {d : Option Nat} {v : AV} {u : Value} (hv : RV β H v u) (hd : ∀ i, d = some i → i < a.tmps.size) : RTm β H (put tm d v) (a.put d u).tmps := by
  cases d with
  | none => exact h
  | some i =>
    intro t
    have hi := hd i rfl
    simp only [Go.Rf.put, Act.put]
    rw [look_put]
    by_cases e : i = t
    · subst e
      rw [if_pos rfl]
      simpa [Array.getD_eq_getD_getElem?, hi] using hv
    · rw [if_neg e]
      have := h t
      simpa [Array.getD_eq_getD_getElem?, Array.getElem?_setIfInBounds_ne e] using this

theorem okDst_lt {nt : Nat} {d : Option Nat} (h : okDst nt d = true) {i : Nat} (hi : d = some i) : i < nt := by
  subst hi; exact blt_lt h

theorem put_size (a : Act) (d : Option Nat) (u : Value) : (a.put d u).tmps.size = a.tmps.size := by cases d <;> simp [Act.put]
theorem put_defers (a : Act) (d : Option Nat) (u : Value) : (a.put d u).defers = a.defers := by cases d <;> rfl

theorem Oper.wp_value {o : Oper} {a : Act} {next : Act → World → Prop} {Q : Exit → Act → World → Prop} {u : Value} {w' : World} (h : Comes1 P w (execOp a.eval o) u w') (hn : next (a.put o.dst u) w') : o.wp P a w next Q := by
  unfold Oper.wp
  rcases h with h | ⟨h, rfl⟩
  · rw [h]; exact hn
  · rw [h]; exact hn

theorem A1_all {caps : List At} {cs : List Value} (h : All2 (R0 β H) caps cs) : All2 (RV β H) (caps.map A1) cs := by
  induction h with
  | nil => exact .nil
  | @cons a v as vs h _ ih => exact .cons ((RAt_iff β H a v).2 (.inr h)) ih

end
end Go.Rf

/-
  The evaluator answers what the model's runs come to: a number that is put into a row.
-/
set_option linter.unusedVariables false
set_option linter.unusedSimpArgs false
namespace Go.Rf
open Go

section
variable {β0 : Bm} {H0 : List Blk} {w0 : World} {β : Bm} {H : List Blk} {w : World} {P : Program}
theorem insD_sound {R : Type} {g : FuncId} (hg : InsRow P g) (hI : Inv β0 H0 w0 β H w) {slot : Nat} (hlo : H0.length ≤ slot) (hsl : slot < H.length) (hfree : β slot = none) {args : List AV} {k : AV → List (Nat × Blk) → List Nat → Option R} {r : R} (h : insD slot args H k = some r) {vals : Array Value} (hv : All2 (RV β H) args vals.toList) :
    CallRes P g vals w fun u w' => ∃ v ed rd β', Inv β0 H0 w0 β' (edit ed H) w' ∧ (∀ t, Mv β H β' (edit ed H) t) ∧ RV β' (edit ed H) v u ∧ (∀ t, ¬ (slot ≤ t ∧ t < slot + room) → β t = none → β' t = none) ∧ k v ed rd = some r := by
  have hw := hI.wr
  unfold insD at h
  split at h
  · rename_i t off len sz i t2 off2 len2 sz2
    split at h
    · rename_i b b2 hb hb2
      split at h
      · rename_i hq
        simp only [Bool.and_eq_true, Bool.not_eq_true'] at hq
        obtain ⟨ho, ho2, q1, q2, q3, q4, q5⟩ := hq
        have q1 := beq_eq q1
        have q2 := beq_eq q2
        have q3 := beq_eq q3
        have q4 := beq_eq q4
        have q5 : t ≠ t2 := fun e => by rw [e] at q5; simp [Nat.beq_refl] at q5
        subst q1 q2 q3 q4
        split at h
        · rename_i xs ys hbx hby
          obtain ⟨hok, hk⟩ := grd_inv h
          obtain ⟨k1, k2, k3, k4, k5⟩ := of_decide_eq_true hok
          have k4 : xs.length = len := k4
          -- the arguments
          obtain ⟨v1, v2, v3, rfl, hv1, hv2, hv3⟩ : ∃ v1 v2 v3, vals = #[v1, v2, v3] ∧ RAt β H (.sl t 0 len 1) v1 ∧ RAt β H (.int .i64 i) v2 ∧ RAt β H (.sl t2 off2 1 1) v3 := by
            cases hvs : vals.toList with
            | nil => rw [hvs] at hv; cases hv
            | cons u1 r1 =>
              rw [hvs] at hv
              cases hv with
              | cons g1 hv =>
                cases r1 with
                | nil => cases hv
                | cons u2 r2 =>
                  cases hv with
                  | cons g2 hv =>
                    cases r2 with
                    | nil => cases hv
                    | cons u3 r3 =>
                      cases hv with
                      | cons g3 hv =>
                        cases hv
                        exact ⟨u1, u2, u3, by rw [← Array.toArray_toList (xs := vals), hvs], g1, g2, g3⟩
          have hv2 : v2 = .int .i64 i := hv2
          subst hv2
          rcases hv1 with ⟨B, o, C, cap, b1, b2', b3, b4, b5, rfl⟩ | ⟨e0, _⟩
          · rcases hv3 with ⟨B2, o2, C2, cap2, c1, c2, c3, c4, c5, rfl⟩ | ⟨e0, _⟩
            · obtain ⟨rfl, hd, cc, e, hc, hcs, hle, hcell⟩ := OwnRow hI hb ho b1
              obtain ⟨rfl, hd2, cv, ev, hcv, hcvs, hle2, hcell2⟩ := OwnRow hI hb2 ho2 c1
              have hne : B2 ≠ B := (hw.sep t2 t b2 b _ _ (fun e => q5 e.symm) hb2 hb ho2 hd c1 b1)
              have hsz : b.body.size = len := by rw [hbx]; exact k4
              have hsz2 : szH H t2 = ys.length := by unfold szH; rw [hb2]; simp only; rw [hby]; rfl
              rw [hsz2] at c3
              have hszb2 : b2.body.size = ys.length := by rw [hby]; rfl
              obtain ⟨v, p1, p2⟩ := hcell2 off2 (.flt .f32 (ys.getD off2 0)) (by omega) (by rw [hby]; rfl)
              have hvals : ∀ j, j < len → ∃ u, cc[j]? = some u ∧ RAt β H (.flt .f32 (xs.getD j 0)) u := fun j hj => hcell j _ (by omega) (by rw [hbx]; rfl)
              have hlcc : len ≤ cc.size := by omega
              have hcsl : (cc.toList.take len).length = len := by rw [List.length_take]; simp; omega
              have hcsg : ∀ j u, (cc.toList.take len)[j]? = some u → j < len ∧ cc[j]? = some u := fun j u hj => by
                have hjl : j < len := by
                  have := (List.getElem?_eq_some_iff.1 hj).1
                  omega
                rw [List.getElem?_take_of_lt hjl] at hj
                exact ⟨hjl, by simpa using hj⟩
              have hone : ∀ u ∈ cc.toList.take len, oneV u = true := fun u hu => by
                obtain ⟨j, hj, hju⟩ := List.getElem_of_mem hu
                obtain ⟨u', g1, g2⟩ := hvals j (by omega)
                have := hcsg j u (by rw [List.getElem?_eq_getElem hj, hju])
                rw [this.2] at g1
                cases g1
                exact g2.any_one
              have hin : ((i.toNat : Nat) : Int) = i := by omega
              obtain ⟨s1, s2⟩ := hg B len cap i.toNat B2 (0 + off2) cap2 cc cv e ev (cc.toList.take len) v w hc hcv hne (by omega) (by omega) b4 k5 hcsl (fun j u hj => (hcsg j u hj).2) (by rw [Nat.zero_add]; exact p1) p2.any_one hone
              rw [hin] at s1 s2
              simp only [Nat.add_zero] at s1 s2 ⊢
              refine .inr ⟨s1, s2.mono fun E w' ⟨out, hE, hout⟩ => ⟨out, hE, ?_⟩⟩
              -- what the new row holds
              have hrow : ∀ j q, j < (Body.fl .f32 (inF xs i (gF ys off2))).size → (Body.fl .f32 (inF xs i (gF ys off2))).get j = some q → ∃ u, ((cc.toList.take len).take i.toNat ++ v :: (cc.toList.take len).drop i.toNat)[j]? = some u ∧ ∀ β' H', RAt β' H' q u := by
                intro j q hj hq
                have hjn : j < len + 1 := by
                  have : (inF xs i (gF ys off2)).length = len + 1 := by
                    show (xs.take i.toNat ++ gF ys off2 :: xs.drop i.toNat).length = _
                    simp; omega
                  have hj' : j < (inF xs i (gF ys off2)).length := hj
                  omega
                have hq' : q = .flt .f32 ((inF xs i (gF ys off2)).getD j 0) := by cases hq; rfl
                subst hq'
                rw [in_get _ _ _ (by omega)]
                have hg' : (inF xs i (gF ys off2)).getD j 0 = if j < i.toNat then xs.getD j 0 else if j = i.toNat then ys.getD off2 0 else xs.getD (j - 1) 0 := by
                  rw [List.getD_eq_getElem?_getD]
                  show (xs.take i.toNat ++ gF ys off2 :: xs.drop i.toNat)[j]?.getD 0 = _
                  rw [in_get _ _ _ (by omega)]
                  split
                  · rw [List.getD_eq_getElem?_getD]
                  · split
                    · rfl
                    · rw [List.getD_eq_getElem?_getD]
                rw [hg']
                have carry : ∀ {x : Nat} {u : Value}, RAt β H (.flt .f32 x) u → ∀ β' H', RAt β' H' (.flt .f32 x) u := fun h β' H' => h
                by_cases a1 : j < i.toNat
                · rw [if_pos a1, if_pos a1]
                  obtain ⟨u, g1, g2⟩ := hvals j (by omega)
                  exact ⟨u, by rw [List.getElem?_take_of_lt (by omega)]; simpa using g1, carry g2⟩
                · rw [if_neg a1, if_neg a1]
                  by_cases a2 : j = i.toNat
                  · rw [if_pos a2, if_pos a2]
                    exact ⟨v, rfl, carry p2⟩
                  · rw [if_neg a2, if_neg a2]
                    obtain ⟨u, g1, g2⟩ := hvals (j - 1) (by omega)
                    exact ⟨u, by rw [List.getElem?_take_of_lt (by omega)]; simpa using g1, carry g2⟩
              have hnl : (inF xs i (gF ys off2)).length = len + 1 := by
                show (xs.take i.toNat ++ gF ys off2 :: xs.drop i.toNat).length = _
                simp; omega
              have hout' : ∀ t', ¬ (slot ≤ t' ∧ t' < slot + room) → ∀ x, updB β slot x t' = β t' := fun t' ht x => updB_ne _ _ (fun e => ht ⟨by omega, by unfold room; omega⟩)
              have hk' := hk
              rw [show nF xs = len from k4] at hk'
              have hsl' : slot < (setL H t ⟨false, .dead len⟩).length := by rw [length_set]; exact hsl
              have hfin : ∀ (B' C' nc : Nat), len + 1 ≤ nc → nc ≤ C' → RV (updB β slot (some (B', 0, C'))) (edit [(t, ⟨false, .dead len⟩), (slot, ⟨true, .fl .f32 (inF xs i (gF ys off2))⟩)] H) (A1 (.sl slot 0 (adN len 1) 1)) (.slice (some ⟨B', 0, none⟩) (len + 1) nc) := fun B' C' nc g1 g2 => by
                refine .inl ⟨B', 0, C', nc, updB_same _ _ _, ?_, ?_, g1, by omega, rfl⟩
                · rw [edit_length]; exact hsl
                · simp only [edit]
                  rw [szH_set _ _ _ _ hsl', if_pos rfl]
                  show 0 + (len + 1) * 1 ≤ (inF xs i (gF ys off2)).length
                  omega
              rcases hout with ⟨d1, rfl, d2, d3, d4, d5, d6, c', e', d7, d8, d9⟩ | ⟨nc, c', e', rfl, d1, d2, d3, d4⟩
              · obtain ⟨hI', hm'⟩ := hI.take hb ho b1 hsl hlo hfree (b' := .fl .f32 (inF xs i (gF ys off2))) rfl d2 d3 d4 d5 d6 ⟨c', e', d7, by rw [d8, hcs]⟩ (fun j q hj hq => by
                  have hcj : w'.cell? ⟨B, j, none⟩ = c'[j]? := by simp [World.cell?, d7]
                  obtain ⟨u, g1, g2⟩ := hrow j q hj hq
                  have hj' : j < (inF xs i (gF ys off2)).length := hj
                  exact ⟨u, by rw [hcj, d9 j (by omega)]; exact g1, g2⟩)
                rw [hsz] at hI' hm'
                exact ⟨_, _, _, _, hI', hm', hfin B C cap d1 (by omega), fun t' ht hn => by rw [hout' t' ht]; exact hn, hk'⟩
              · have hI2 := hI.dead hb
                rw [hsz] at hI2
                obtain ⟨hI', hm'⟩ := hI2.put (s := slot) hlo hsl' hfree c' e' (.fl .f32 (inF xs i (gF ys off2))) (by show (inF xs i (gF ys off2)).length ≤ _; omega) rfl (fun j q hj hq => by
                  obtain ⟨u, g1, g2⟩ := hrow j q hj hq
                  have hj' : j < (inF xs i (gF ys off2)).length := hj
                  exact ⟨u, by rw [d4 j (by omega)]; exact g1, g2 _ _⟩)
                have hmd : ∀ u, Mv β H β (setL H t ⟨false, .dead len⟩) u := mv_set hb (by rw [← hsz]; exact Nat.le_refl _)
                exact ⟨_, _, _, _, hI'.same d3, fun u => (hmd u).trans (hm' u), hfin _ _ nc d1 d2, fun t' ht hn => by rw [hout' t' ht]; exact hn, hk'⟩
            · cases e0
          · omega
        · cases h
      · cases h
    · cases h
  · cases h
theorem insH_sound {R : Type} {g : FuncId} (hg : InsRow P g) {args : List AV} {k : AV → List Blk → Option R} {r : R} (h : insH args H k = some r) {vals : Array Value} (hw : WR β H w) (hv : All2 (RV β H) args vals.toList) :
    CallRes P g vals w fun u w' => ∃ β' v H', Inv β H w β' H' w' ∧ RV β' H' v u ∧ k v H' = some r := by
  have hI1 := (Inv.start hw).phs 1
  have hm1 : ∀ t, Mv β H (cutB β H.length) (H ++ Go.Rf.phs 1) t := fun t => mv_phs β H 1 t
  have hv1 : All2 (RV (cutB β H.length) (H ++ Go.Rf.phs 1)) args vals.toList := hv.mono fun a _ v h => h.move fun t _ => hm1 t
  exact (insD_sound hg hI1 (slot := H.length) (Nat.le_refl _) (by simp [Go.Rf.phs]) (cutB_ge _ (Nat.le_refl _)) h hv1).mono fun u w' ⟨v, ed, rd, β', h1, _, h3, _, h5⟩ => ⟨β', v, _, h1, h3, h5⟩
end
end Go.Rf

/-
  The evaluator answers what the model's runs come to: regions in the text's order; slots, blocks that are forgotten.
-/
set_option linter.unusedVariables false
set_option linter.unusedSimpArgs false
namespace Go.Rf
open Go

section
variable {β0 : Bm} {H0 : List Blk} {w0 : World} {β : Bm} {H : List Blk} {w : World} {P : Program} {Γ : Ctx}

theorem evCall_sound {R : Type} {hd : FuncId → List AV → List Blk → (AV → List Blk → Option R) → Option R} (hH : HdOk P hd) (hS : SumOk P Γ) {st : St} (hI : Inv β0 H0 w0 β st.H w) {a : Act} (hv : RTm β st.H st.tm a.tmps) {k : AV → St → Option R} {r : R} {o : Oper} {c : Call} (hc : o.op = .call c)
    (h : evCall Γ hd c st k = some r) {next : Act → World → Prop} {Q : Exit → Act → World → Prop}
    (hn : ∀ β' st' v u w', Inv β0 H0 w0 β' st'.H w' → RTm β' st'.H st'.tm a.tmps → RV β' st'.H v u → k v st' = some r → next (a.put o.dst u) w') : o.wp P a w next Q := by
  unfold evCall at h
  split at h
  · rename_i f hcf
    split at h
    · rename_i g caps hf
      have e := opnd_rel hv f
      rw [hf] at e
      obtain ⟨cs, he, hcs⟩ := e
      have hargs : All2 (RV β st.H) (opnds st.tm c.args.toList ++ caps.map A1) (c.args.map a.eval ++ cs).toList := by
        rw [Array.toList_append]
        refine All2.append ?_ (A1_all hcs)
        simpa using opnds_rel hv c.args.toList
      have hx : execOp a.eval o = callFunc g (c.args.map a.eval ++ cs) := by
        simp only [execOp, hc, resolve, hcf, Deferred.ofValue, he]
        simp [invoke]
      have fin : CallRes P g (c.args.map a.eval ++ cs) w (fun u w' => next (a.put o.dst u) w') → o.wp P a w next Q := by
        intro hcr
        unfold Oper.wp
        rw [hx]
        rcases hcr with ⟨u, w', h1, h2⟩ | ⟨h1, h2⟩
        · rw [h1]; exact h2
        · rw [h1]
          show Calls P g _ w _
          refine h2.mono fun e w' ⟨u, he, h3⟩ => ?_
          subst he
          exact h3
      have viaHd : hd g (opnds st.tm c.args.toList ++ caps.map A1) st.H (fun v H => k v ⟨st.tm, H⟩) = some r → o.wp P a w next Q := fun h =>
        fin ((hH g _ _ _ _ h β w (c.args.map a.eval ++ cs) hI.wr hargs).mono fun u w' ⟨β', v, H', k2, k3, k4⟩ =>
          hn β' ⟨st.tm, H'⟩ v u w' (hI.trans k2) (hv.move k2.mv) k3 k4)
      split at h
      · rename_i pts rd hd'
        split at h
        · rename_i b v news hs
          obtain ⟨rfl, h⟩ := grd_inv h
          refine fin ((hS.1 g _ _ _ hs w _ (dpVs_sound hI.wr hargs hd')).mono fun u w' ⟨γ, k1, k2⟩ => ?_)
          obtain ⟨β', q1, q2, q3⟩ := hI.call k1
          exact hn β' ⟨st.tm, st.H ++ shH st.H.length news⟩ _ u w' q1 (hv.move q2) (q3 k2) h
        · exact viaHd h
      · exact viaHd h
    · cases h
  · cases h

theorem evNil_sound {R : Type} (hT : chkTab P Γ.ty = true) {op : BinOp} {T : TypeId} {X : Operand} {Y : Operand} {e : Option Addr} {c1 c2 : Nat} (hY : Y = .const (.slice e c1 c2)) (he : e = none) {x : AV} {v : Value} (hv : RV β H x v) {k : AV → Option R} {r : R}
    (h : evNil Γ op T x k = some r) : ∃ b, (do eqGuard op T X Y v (.slice e c1 c2); binOp op T v (.slice e c1 c2) : Sem Value).run P w = .ok (.bool b) w ∧ k (A1 (.bool b)) = some r := by
  subst he
  unfold evNil at h
  split at h
  case h_2 => cases h
  rename_i i hi
  split at h
  case h_2 => cases h
  rename_i el hd
  have hu := slice_at (tab_fact hT hi) hd
  have key : ∀ {a : Option Addr} {len cap : Nat}, (0 < len → a ≠ none) → v = .slice a len cap →
      nilQ op len k = some r → ∃ b, (do eqGuard op T X Y v (.slice none c1 c2); binOp op T v (.slice none c1 c2) : Sem Value).run P w = .ok (.bool b) w ∧ k (A1 (.bool b)) = some r := by
    intro a len cap ha hval h
    subst hval
    have heq : (Op.equal T (.slice a len cap) (.slice none c1 c2)).run P w = .ok a.isNone w := by
      unfold Op.equal
      have hm : Op.maxDepth = (Op.maxDepth - 1) + 1 := by decide
      rw [hm]
      unfold Op.equalIn
      simp only [Sem.run_bind, run_und (w := w) hu, Result.andThen_ok]
      cases a <;> rfl
    have hz : a = none → okZ len = true := fun e => by
      rcases Nat.eq_zero_or_pos len with e' | e'
      · exact decide_eq_true e'
      · exact absurd e (ha e')
    unfold nilQ at h
    split at h
    · refine ⟨a.isNone, ?_, ?_⟩
      · simp [eqGuard, binOp, heq]
      · obtain ⟨h1, h2⟩ := unk_inv h
        cases a with
        | none => exact h1 (hz rfl)
        | some _ => exact h2
    · refine ⟨!a.isNone, ?_, ?_⟩
      · simp [eqGuard, binOp, heq]
      · obtain ⟨h1, h2⟩ := unk_inv h
        cases a with
        | none => exact h1 (hz rfl)
        | some _ => exact h2
    · cases h
  split at h
  · rename_i t off len sz
    rcases hv with ⟨B, o, C, cap, _, _, _, _, _, rfl⟩ | ⟨rfl, a, rfl⟩
    · exact key (fun _ => by intro q; cases q) rfl h
    · exact key (fun q => absurd q (Nat.lt_irrefl _)) rfl h
  · rename_i t off len sz
    obtain ⟨a, cap, rfl, _, h2⟩ := hv
    exact key (fun q => by obtain ⟨B, o, C, _, _, _, rfl⟩ := h2 q; intro q; cases q) rfl h
  · cases h

theorem evOp_sound {R : Type} (hT : chkTab P Γ.ty = true) {hd : FuncId → List AV → List Blk → (AV → List Blk → Option R) → Option R} (hH : HdOk P hd) (hS : SumOk P Γ) {nt : Nat} {st : St} {a : Act} (hR : Rel β0 H0 w0 nt st a w) {k : AV → St → Option R} {r : R} {o : Oper}
    (h : evOp Γ hd o.op st k = some r) {next : Act → World → Prop} {Q : Exit → Act → World → Prop}
    (hn : ∀ β' st' v u w', Inv β0 H0 w0 β' st'.H w' → RTm β' st'.H st'.tm a.tmps → RV β' st'.H v u → k v st' = some r → next (a.put o.dst u) w') : o.wp P a w next Q := by
  obtain ⟨β, hI, hv, hs, hdf⟩ := hR
  unfold evOp at h
  split at h
  · obtain ⟨v, u, w', h1, h2, h3, h4⟩ := evQ_sound (P := P) hT hI.wr hv h
    exact Oper.wp_value (.inl h1) (hn β st v u w' (hI.same h2) hv h3 h4)
  · have hI1 := hI.phs 1
    have hm := mv_phs β st.H 1
    obtain ⟨v, u, w', ed, rd, β', h1, h2, h3, h4, _, h5⟩ := evE_sound hT hI1 (slot := st.H.length) hI.ext.len (by simp [Go.Rf.phs]) (cutB_ge _ (Nat.le_refl _)) (hv.move hm) h
    exact Oper.wp_value h1 (hn β' ⟨st.tm, edit ed (st.H ++ Go.Rf.phs 1)⟩ v u w' h2 ((hv.move hm).move h3) h4 h5)
  · split at h
    · rename_i c hc
      exact evCall_sound hH hS hI hv hc h hn
    · rename_i hk _ op T x y t hop
      have hny : ∃ c1 c2, y = .const (.slice none c1 c2) := by
        rename_i hk0 hk1
        rw [hop] at hk0
        simp only [kindOf] at hk0
        cases hny : isNilC y with
        | false => rw [hny] at hk0; exact absurd rfl hk0
        | true =>
          unfold isNilC at hny
          split at hny
          · exact ⟨_, _, rfl⟩
          · cases hny
      obtain ⟨c1, c2, rfl⟩ := hny
      obtain ⟨b, h1, h2⟩ := evNil_sound (w := w) hT (X := x) (Y := .const (.slice none c1 c2)) rfl rfl (opnd_rel hv x) h
      refine Oper.wp_value (.inl ?_) (hn β st (A1 (.bool b)) (.bool b) w hI hv rfl h2)
      simp only [execOp, hop]
      have h1' : (do eqGuard op T x (.const (.slice none c1 c2)) (a.eval x) (a.eval (.const (.slice none c1 c2))); binOp op T (a.eval x) (a.eval (.const (.slice none c1 c2))) : Sem Value).run P w = .ok (.bool b) w := h1
      simp only [Sem.run_bind] at h1' ⊢
      cases hq : (eqGuard op T x (.const (.slice none c1 c2)) (a.eval x) (a.eval (.const (.slice none c1 c2)))).run P w with
      | ok u w1 =>
        rw [hq] at h1'
        simp only [Result.andThen_ok] at h1' ⊢
        rw [h1']
        rfl
      | halt e => rw [hq] at h1'; cases h1'
    · cases h

theorem dstAt_eq {ops : Array Oper} {j d : Nat} (h : dstAt ops.toList j = some d) : (ops[j]?).bind (·.dst) = some d := by
  unfold dstAt at h
  rw [nth_eq] at h
  rw [← Array.getElem?_toList]
  split at h
  · rename_i o ho; rw [ho]; exact h
  · cases h

theorem evOper_sound {R : Type} (hT : chkTab P Γ.ty = true) {hd : FuncId → List AV → List Blk → (AV → List Blk → Option R) → Option R} (hH : HdOk P hd) (hS : SumOk P Γ) {nt : Nat} {ops : Array Oper} {st : St} {a : Act} (hR : Rel β0 H0 w0 nt st a w) {k : St → Option R} {r : R} {o : Oper}
    (h : evOper Γ hd nt ops.toList o st k = some r) {K : Act → World → Prop} {Q : Exit → Act → World → Prop}
    (hK : ∀ st' a' w', Rel β0 H0 w0 nt st' a' w' → k st' = some r → K a' w') :
    if Region.wanted o (yielded ops a.tmps) then o.wp P a w K Q else K (a.put o.dst undef) w := by
  have run : ∀ st : St, Rel β0 H0 w0 nt st a w → (match okDst nt o.dst with
      | true => evOp Γ hd o.op st fun v st' => k ⟨put st'.tm o.dst v, st'.H⟩
      | false => none) = some r → o.wp P a w K Q := by
    intro st hR h
    split at h
    · rename_i hok
      refine evOp_sound hT hH hS hR h fun β' st' v u w' k1 k2 k3 k4 => hK _ _ _ ?_ k4
      obtain ⟨_, _, _, hs, hdf⟩ := hR
      exact ⟨β', k1, k2.put k3 fun i hi => by rw [hs]; exact okDst_lt hok hi, by rw [put_size]; exact hs, by rw [put_defers]; exact hdf⟩
    · cases h
  have skip : ∀ st : St, Rel β0 H0 w0 nt st a w → (match okDst nt o.dst with
      | true => k ⟨put st.tm o.dst (.tup []), st.H⟩
      | false => none) = some r → K (a.put o.dst undef) w := by
    intro st hR h
    split at h
    · rename_i hok
      obtain ⟨β, hI, hv, hs, hdf⟩ := hR
      refine hK _ _ _ ?_ h
      exact ⟨β, hI, hv.put ⟨#[], rfl, .nil⟩ fun i hi => by rw [hs]; exact okDst_lt hok hi, by rw [put_size]; exact hs, by rw [put_defers]; exact hdf⟩
    · cases h
  have know : ∀ {d : Nat} {b : Bool}, get st.tm d = .v (.one (.bool b)) → Rel β0 H0 w0 nt ⟨(d, A1 (.bool b)) :: st.tm, st.H⟩ a w := by
    intro d b hg
    obtain ⟨β, hI, hv, hs, hdf⟩ := hR
    refine ⟨β, hI, fun t => ?_, hs, hdf⟩
    simp only
    rw [look_put]
    by_cases e : d = t
    · subst e; rw [if_pos rfl]; have := hv d; rw [hg] at this; exact this
    · rw [if_neg e]; exact hv t
  unfold evOper at h
  simp only at h
  split at h
  · rename_i hg
    simp only [Region.wanted, hg, if_true]
    exact run st hR h
  · rename_i j want hg
    split at h
    · cases h
    · rename_i d hd
      have hd' := dstAt_eq hd
      obtain ⟨β, hI, hv, hs, hdf⟩ := id hR
      split at h
      · rename_i b hb
        have e := hv d
        rw [hb] at e
        have e : a.tmps.getD d undef = .bool b := e
        have hy : yielded ops a.tmps j = some b := by
          unfold yielded
          rw [hd']
          have : a.tmps[d]? = some (.bool b) := by
            rw [Array.getD_eq_getD_getElem?] at e
            cases hx : a.tmps[d]? with
            | none => rw [hx] at e; cases e
            | some x => rw [hx] at e; simp at e; rw [e]
          simp [this]
        have hw : Region.wanted o (yielded ops a.tmps) = (b == want) := by simp only [Region.wanted, hg, hy]; cases b <;> cases want <;> rfl
        rw [hw]
        cases b
        · have hk := know hb
          cases want
          · simp only [br] at h
            simpa using run _ hk h
          · simp only [br] at h
            simpa using skip _ hk h
        · have hk := know hb
          cases want
          · simp only [br] at h
            simpa using skip _ hk h
          · simp only [br] at h
            simpa using run _ hk h
      · rename_i hb
        have e := hv d
        rw [hb] at e
        obtain ⟨arr, e, harr⟩ := e
        have hy : yielded ops a.tmps j = none := by
          unfold yielded
          rw [hd']
          rw [Array.getD_eq_getD_getElem?] at e
          cases hx : a.tmps[d]? with
          | none => simp [hx]
          | some x => rw [hx] at e; simp at e; subst e; simp [hx]
        have hw : Region.wanted o (yielded ops a.tmps) = false := by simp [Region.wanted, hg, hy]
        rw [hw]
        simpa using skip st hR h
      · cases h

def KP {R : Type} (β0 : Bm) (H0 : List Blk) (w0 : World) (nt : Nat) (k : Ex → St → Option R) (r : R) : Exit → Act → World → Prop
  | .normal, a, w => ∃ st, Rel β0 H0 w0 nt st a w ∧ k .normal st = some r
  | .exit id, a, w => ∃ st, Rel β0 H0 w0 nt st a w ∧ k (.exit id) st = some r
  | .ret, a, w => ∃ st, Rel β0 H0 w0 nt st a w ∧ k .ret st = some r
  | _, _, _ => False

theorem evOps_sound {R : Type} (hT : chkTab P Γ.ty = true) {hd : FuncId → List AV → List Blk → (AV → List Blk → Option R) → Option R} (hH : HdOk P hd) (hS : SumOk P Γ) {nt : Nat} {ops : Array Oper} {k : St → Option R} {r : R} {Q : Exit → Act → World → Prop}
    (hQ : ∀ st' a' w', Rel β0 H0 w0 nt st' a' w' → k st' = some r → Q .normal a' w') : ∀ (l : List Oper) {st : St} {a : Act} {w : World}, Rel β0 H0 w0 nt st a w → evOps Γ hd nt ops.toList l st k = some r → wpList P ops Q l a w
  | [], st, a, w, hR, h => hQ st a w hR h
  | o :: l, st, a, w, hR, h => by
    simp only [evOps] at h
    have := evOper_sound hT hH hS hR h (K := wpList P ops Q l) (Q := Q) fun st' a' w' h1 h2 => evOps_sound hT hH hS hQ l h1 h2
    unfold wpList
    split
    · rename_i hw; rw [if_pos hw] at this; exact .inl this
    · rename_i hw; rw [if_neg hw] at this; exact this


theorem keepM_get : ∀ (live : List Nat) (tm : List (Nat × AV)) (t : Nat), get (keepM live tm) t = .top ∨ get (keepM live tm) t = get tm t
  | [], tm, t => .inl rfl
  | u :: r, tm, t => by
    simp only [keepM]
    split
    · rename_i v hu
      rw [look_put]
      by_cases e : u = t
      · subst e
        rw [if_pos rfl]
        right
        unfold get
        rw [hu]
      · rw [if_neg e]; exact keepM_get r tm t
    · exact keepM_get r tm t

theorem idx_some : ∀ {ord : List Nat} {n t t' : Nat}, idx ord n t = some t' → n ≤ t' ∧ ord[t' - n]? = some t
  | [], n, t, t', h => by cases h
  | u :: r, n, t, t', h => by
    simp only [idx] at h
    split at h
    · rename_i hb
      cases h
      have := beq_eq hb
      subst this
      simp
    · obtain ⟨h1, h2⟩ := idx_some h
      refine ⟨by omega, ?_⟩
      rw [show t' - n = (t' - (n + 1)) + 1 by omega, List.getElem?_cons_succ]
      exact h2

theorem fitO_facts {lo n : Nat} : ∀ {ord : List Nat}, fitO lo n ord = true → (∀ t ∈ ord, lo ≤ t ∧ t < n) ∧ ord.Nodup
  | [], _ => ⟨(fun t h => by cases h), List.nodup_nil⟩
  | t :: r, h => by
    simp only [fitO] at h
    split at h
    · cases h
    · rename_i h1
      split at h
      · cases h
      · rename_i h2
        split at h
        · cases h
        · rename_i h3
          obtain ⟨k1, k2⟩ := fitO_facts h
          have hm : ∀ {l : List Nat}, t ∈ l → mem t l = true := by
            intro l
            induction l with
            | nil => intro h; cases h
            | cons u l ih =>
              intro h
              simp only [mem]
              rcases List.mem_cons.1 h with rfl | h
              · simp
              · split
                · rfl
                · exact ih h
          refine ⟨fun u hu => ?_, List.nodup_cons.2 ⟨fun hin => ?_, k2⟩⟩
          · rcases List.mem_cons.1 hu with rfl | hu
            · exact ⟨ble_le h1, blt_lt h2⟩
            · exact k1 u hu
          · rw [hm hin] at h3; cases h3

theorem pickH_nth {lo : Nat} {ord : List Nat} {H : List Blk} : ∀ {l : List Nat}, (∀ t ∈ l, t < H.length) → (pickH lo ord H l).length = l.length ∧ ∀ i, nth (pickH lo ord H l) i = (l[i]?).bind fun t => (nth H t).map fun b => ⟨b.own, renB lo ord b.body⟩
  | [], _ => ⟨rfl, fun i => by cases i <;> rfl⟩
  | t :: r, h => by
    obtain ⟨k1, k2⟩ := pickH_nth (lo := lo) (ord := ord) (H := H) (l := r) fun u hu => h u (by simp [hu])
    have ht := h t (by simp)
    have hn : nth H t = some H[t] := by rw [nth_eq]; exact List.getElem?_eq_getElem ht
    simp only [pickH, hn]
    refine ⟨by simp [k1], fun i => ?_⟩
    cases i with
    | zero => simp [nth, hn]
    | succ i => simp only [nth, k2 i, List.getElem?_cons_succ]
theorem upto_facts : ∀ (n i : Nat), (upto i n).length = n ∧ ∀ j, j < n → (upto i n)[j]? = some (i + j)
  | 0, i => ⟨rfl, fun j h => by omega⟩
  | n + 1, i => by
    obtain ⟨h1, h2⟩ := upto_facts n (i + 1)
    refine ⟨by simp [upto, h1], fun j hj => ?_⟩
    cases j with
    | zero => rfl
    | succ j => simp only [upto, List.getElem?_cons_succ]; rw [h2 j (by omega)]; congr 1; omega

theorem renB_size (lo : Nat) (ord : List Nat) (b : Body) : (renB lo ord b).size = b.size := by
  cases b with
  | cells cs =>
    simp only [renB, Body.size]
    induction cs with
    | nil => rfl
    | cons a r ih => simp [ren1s, ih]
  | _ => rfl
theorem ren1s_get (lo : Nat) (ord : List Nat) : ∀ (cs : List At) (j : Nat) (a : At), (ren1s lo ord cs)[j]? = some a → ∃ c, cs[j]? = some c ∧ a = ren1 lo ord c
  | [], j, a, h => by simp [ren1s] at h
  | c :: r, 0, a, h => by simp only [ren1s, List.getElem?_cons_zero] at h; cases h; exact ⟨c, rfl, rfl⟩
  | c :: r, j + 1, a, h => by simp only [ren1s, List.getElem?_cons_succ] at h; exact ren1s_get lo ord r j a h
theorem renB_get (lo : Nat) (ord : List Nat) (b : Body) (j : Nat) (a : At) (h : (renB lo ord b).get j = some a) : ∃ c, b.get j = some c ∧ (a = ren1 lo ord c ∨ a = c ∧ ∀ u, m1 u c = false) := by
  cases b with
  | cells cs =>
    simp only [renB, Body.get, nth_eq] at h ⊢
    obtain ⟨c, h1, h2⟩ := ren1s_get lo ord cs j a h
    exact ⟨c, h1, .inl h2⟩
  | dead n => cases h
  | _ => exact ⟨a, h, .inr ⟨rfl, fun u => by cases h; rfl⟩⟩
theorem renB_dead (lo : Nat) (ord : List Nat) (b : Body) : isDead (renB lo ord b) = isDead b := by cases b <;> rfl

section ren
variable {β' : Bm} {H' : List Blk} {lo : Nat} {ord : List Nat}
def RenOk (β : Bm) (H : List Blk) (β' : Bm) (H' : List Blk) (lo : Nat) (ord : List Nat) : Prop := ∀ t t' x, renN lo ord t = some t' → β t = some x → t < H.length → β' t' = some x ∧ t' < H'.length ∧ szH H t ≤ szH H' t'
theorem R0.ren (hm : RenOk β H β' H' lo ord) {a : At} {v : Value} (h : R0 β H a v) : R0 β' H' (ren0 lo ord a) v := by
  have hone := h.any_one
  cases a with
  | ptr t off ext =>
    obtain ⟨B, o, C, h1, h2, h3, h4⟩ := h
    simp only [ren0]
    split
    · rename_i t' ht
      obtain ⟨k1, k2, k3⟩ := hm t t' _ ht h1 h2
      exact ⟨B, o, C, k1, k2, Nat.le_trans h3 k3, h4⟩
    · exact hone
  | sl t off len sz =>
    simp only [ren0]
    split
    · rename_i t' ht
      rcases h with ⟨B, o, C, cap, h1, h2, h3, h4, h5, h6⟩ | h
      · obtain ⟨k1, k2, k3⟩ := hm t t' _ ht h1 h2
        exact .inl ⟨B, o, C, cap, k1, k2, Nat.le_trans h3 k3, h4, h5, h6⟩
      · exact .inr h
    · exact hone
  | vw t off len sz =>
    simp only [ren0]
    split
    · rename_i t' ht
      obtain ⟨a, cap, h1, h2, h3⟩ := h
      refine ⟨a, cap, h1, h2, fun hl => ?_⟩
      obtain ⟨B, o, C, h4, h5, h6, h7⟩ := h3 hl
      obtain ⟨k1, k2, k3⟩ := hm t t' _ ht h4 h5
      exact ⟨B, o, C, k1, k2, Nat.le_trans h6 k3, h7⟩
    · exact hone
  | _ => exact h
theorem R0s.ren (hm : RenOk β H β' H' lo ord) {as : List At} {vs : List Value} (h : All2 (R0 β H) as vs) : All2 (R0 β' H') (ren0s lo ord as) vs := by
  induction h with
  | nil => exact .nil
  | cons h _ ih => exact .cons (h.ren hm) ih
theorem RAt.ren (hm : RenOk β H β' H' lo ord) {a : At} {v : Value} (h : RAt β H a v) : RAt β' H' (ren1 lo ord a) v := by
  rcases (RAt_iff β H a v).1 h with ⟨f, caps, rfl, cs, h1, h2⟩ | h0
  · exact ⟨cs, h1, R0s.ren hm h2⟩
  · refine (RAt_iff β' H' _ v).2 (.inr ?_)
    have := h0.ren hm
    cases a <;> first | exact this | exact h0.elim
theorem RAts.ren (hm : RenOk β H β' H' lo ord) {as : List At} {vs : List Value} (h : All2 (RAt β H) as vs) : All2 (RAt β' H') (ren1s lo ord as) vs := by
  induction h with
  | nil => exact .nil
  | cons h _ ih => exact .cons (h.ren hm) ih
theorem RT.ren (hm : RenOk β H β' H' lo ord) {a : TV} {v : Value} (h : RT β H a v) : RT β' H' (renT lo ord a) v := by
  cases a with
  | one a => exact RAt.ren hm h
  | agg cs => obtain ⟨arr, h1, h2⟩ := h; exact ⟨arr, h1, RAts.ren hm h2⟩
theorem RTs.ren (hm : RenOk β H β' H' lo ord) {as : List TV} {vs : List Value} (h : All2 (RT β H) as vs) : All2 (RT β' H') (renTs lo ord as) vs := by
  induction h with
  | nil => exact .nil
  | cons h _ ih => exact .cons (h.ren hm) ih
theorem RV.ren (hm : RenOk β H β' H' lo ord) {a : AV} {v : Value} (h : RV β H a v) : RV β' H' (renV lo ord a) v := by
  cases a with
  | top => trivial
  | v x => exact RT.ren hm h
  | tup vs => obtain ⟨arr, h1, h2⟩ := h; exact ⟨arr, h1, RTs.ren hm h2⟩
theorem renM_get : ∀ (tm : List (Nat × AV)) (d : Nat), get (renM lo ord tm) d = renV lo ord (get tm d)
  | [], d => rfl
  | (e, v) :: r, d => by
    simp only [renM]
    rw [look_put, look_put]
    by_cases q : e = d
    · rw [if_pos q, if_pos q]
    · rw [if_neg q, if_neg q]; exact renM_get r d
end ren

def renβ (β : Bm) (lo : Nat) (ord : List Nat) : Bm := fun t => if t < lo then β t else (ord[t - lo]?).bind β

theorem compact_own (h : Inv β0 H0 w0 β H w) (tm : List (Nat × AV)) : ∃ β', Inv β0 H0 w0 β' (compact H0.length tm H).H w ∧ (∀ d v, RV β H (get tm d) v → RV β' (compact H0.length tm H).H (get (compact H0.length tm H).tm d) v) ∧ ∀ B, OwnB β' (compact H0.length tm H).H B → OwnB β H B := by
  unfold compact
  simp only
  generalize reach H0.length H 256 (tgM tm ++ tgH H0.length H) [] = ord
  split
  · rename_i hf
    obtain ⟨ho, hnd⟩ := fitO_facts hf
    have hle := h.ext.len
    obtain ⟨u1, u2⟩ := upto_facts H0.length 0
    have hall : ∀ t ∈ upto 0 H0.length ++ ord, t < H.length := by
      intro t ht
      rcases List.mem_append.1 ht with ht | ht
      · obtain ⟨j, hj, e⟩ := List.getElem_of_mem ht
        have hj' := hj
        rw [u1] at hj'
        have := u2 j hj'
        rw [List.getElem?_eq_getElem hj, e] at this
        injection this with this
        omega
      · exact (ho t ht).2
    obtain ⟨p1, p2⟩ := pickH_nth (lo := H0.length) (ord := ord) (H := H) hall
    rw [List.length_append, u1] at p1
    -- the old number of each block
    have hsrc : ∀ i, i < H0.length + ord.length → ∃ t, (upto 0 H0.length ++ ord)[i]? = some t ∧ t < H.length ∧ renβ β H0.length ord i = β t ∧ ((i < H0.length ∧ t = i) ∨ (H0.length ≤ i ∧ H0.length ≤ t ∧ ord[i - H0.length]? = some t)) := by
      intro i hi
      by_cases hl : i < H0.length
      · refine ⟨i, ?_, by omega, by unfold renβ; rw [if_pos hl], .inl ⟨hl, rfl⟩⟩
        rw [List.getElem?_append_left (by rw [u1]; exact hl), u2 i hl, Nat.zero_add]
      · have hlt : i - H0.length < ord.length := by omega
        have hg := List.getElem?_eq_getElem hlt
        have hm := ho _ (List.getElem_mem hlt)
        refine ⟨ord[i - H0.length], ?_, hm.2, by unfold renβ; rw [if_neg hl, hg]; rfl, .inr ⟨by omega, hm.1, hg⟩⟩
        rw [List.getElem?_append_right (by rw [u1]; omega), u1, hg]
    have hinj : ∀ {i j t : Nat}, i < H0.length + ord.length → j < H0.length + ord.length → (upto 0 H0.length ++ ord)[i]? = some t → (upto 0 H0.length ++ ord)[j]? = some t → i = j := by
      intro i j t hi hj h1 h2
      obtain ⟨a, a1, _, _, a2⟩ := hsrc i hi
      obtain ⟨b, b1, _, _, b2⟩ := hsrc j hj
      rw [h1] at a1; cases a1
      rw [h2] at b1; cases b1
      rcases a2 with ⟨a2, a3⟩ | ⟨a2, a3, a4⟩ <;> rcases b2 with ⟨b2, b3⟩ | ⟨b2, b3, b4⟩
      · omega
      · omega
      · omega
      · have hi' : i - H0.length < ord.length := by omega
        have := (List.getElem?_inj hi' hnd).1 (a4.trans b4.symm)
        omega
    have hnth : ∀ {i : Nat} {b' : Blk}, nth (pickH H0.length ord H (upto 0 H0.length ++ ord)) i = some b' → ∃ t b, i < H0.length + ord.length ∧ (upto 0 H0.length ++ ord)[i]? = some t ∧ nth H t = some b ∧ renβ β H0.length ord i = β t ∧ b' = ⟨b.own, renB H0.length ord b.body⟩ := by
      intro i b' hb
      have hi := nth_lt hb
      rw [p1] at hi
      obtain ⟨t, t1, t2, t3, _⟩ := hsrc i hi
      rw [p2, t1] at hb
      simp only [Option.bind_some] at hb
      cases hn : nth H t with
      | none => rw [hn] at hb; cases hb
      | some b => rw [hn] at hb; cases hb; exact ⟨t, b, hi, t1, hn, t3, rfl⟩
    have hsz : ∀ {i t : Nat}, (upto 0 H0.length ++ ord)[i]? = some t → szH (pickH H0.length ord H (upto 0 H0.length ++ ord)) i = szH H t := by
      intro i t hi
      unfold szH
      rw [p2, hi]
      simp only [Option.bind_some]
      cases nth H t with
      | none => rfl
      | some b => simp [renB_size]
    have hren : RenOk β H (renβ β H0.length ord) (pickH H0.length ord H (upto 0 H0.length ++ ord)) H0.length ord := by
      intro t t' x ht hx hlt
      unfold renN at ht
      split at ht
      · rename_i hb
        cases ht
        have hb := blt_lt hb
        have e : (upto 0 H0.length ++ ord)[t]? = some t := by rw [List.getElem?_append_left (by rw [u1]; exact hb), u2 t hb, Nat.zero_add]
        exact ⟨by unfold renβ; rw [if_pos hb]; exact hx, by rw [p1]; omega, by rw [hsz e]; exact Nat.le_refl _⟩
      · obtain ⟨h1, h2⟩ := idx_some ht
        have hl : t' - H0.length < ord.length := (List.getElem?_eq_some_iff.1 h2).1
        have e : (upto 0 H0.length ++ ord)[t']? = some t := by rw [List.getElem?_append_right (by rw [u1]; exact h1), u1]; exact h2
        exact ⟨by unfold renβ; rw [if_neg (by omega), h2]; exact hx, by rw [p1]; omega, by rw [hsz e]; exact Nat.le_refl _⟩
    have hown : ∀ B, OwnB (renβ β H0.length ord) (pickH H0.length ord H (upto 0 H0.length ++ ord)) B → OwnB β H B := fun B hB => by
      obtain ⟨i, b', o, C, h1, h2, h3⟩ := hB
      obtain ⟨t, b, hi, g1, g2, g3, rfl⟩ := hnth h1
      rw [g3] at h3
      exact ⟨t, b, o, C, g2, h2, h3⟩
    refine ⟨renβ β H0.length ord, ⟨⟨fun i b' hb => ?_, fun i j b c x x' hne h1 h2 hoc hd hx hx' => ?_⟩, fun t x ht hx => ?_, ⟨by rw [p1]; omega, fun t ht => ?_⟩, fun B hB => h.own B (hown B hB), h.fr⟩, fun d v hv => ?_, hown⟩
    · obtain ⟨t, b, hi, h1, h2, h3, rfl⟩ := hnth hb
      rw [h3]
      have := h.wr.blk t b h2
      split
      · rename_i e; rw [e] at this; simpa [renB_size] using this
      · rename_i B o C e
        rw [e] at this
        refine ⟨fun j a q1 q2 => ?_, fun hoo => ?_, this.lt⟩
        · simp only [renB_size] at q1
          obtain ⟨c, q3, q4⟩ := renB_get _ _ _ _ _ q2
          obtain ⟨v, g1, g2⟩ := this.cell j c q1 q3
          rcases q4 with rfl | ⟨rfl, hp⟩
          · exact ⟨v, g1, g2.ren hren⟩
          · exact ⟨v, g1, g2.move fun u hu => by rw [hp u] at hu; cases hu⟩
        · obtain ⟨k1, k2, k3⟩ := this.own hoo
          exact ⟨k1, by simp only [renB_dead]; exact k2, k3⟩
    · obtain ⟨t, b1, hi, g1, g2, g3, rfl⟩ := hnth h1
      obtain ⟨t', b2, hj, g4, g5, g6, rfl⟩ := hnth h2
      rw [g3] at hx
      rw [g6] at hx'
      simp only [renB_dead] at hd
      exact h.wr.sep t t' b1 b2 x x' (fun e => hne (by subst e; exact hinj hi hj g1 g4)) g2 g5 hoc hd hx hx'
    · unfold renβ; rw [if_pos ht]; exact h.agree t x ht hx
    · have e : (upto 0 H0.length ++ ord)[t]? = some t := by rw [List.getElem?_append_left (by rw [u1]; exact ht), u2 t ht, Nat.zero_add]
      rw [hsz e]; exact h.ext.size t ht
    · rw [renM_get]; exact hv.ren hren
  · exact ⟨β, h, fun d v hv => hv, fun B h => h⟩
theorem compact_sound (h : Inv β0 H0 w0 β H w) (tm : List (Nat × AV)) : ∃ β', Inv β0 H0 w0 β' (compact H0.length tm H).H w ∧ ∀ d v, RV β H (get tm d) v → RV β' (compact H0.length tm H).H (get (compact H0.length tm H).tm d) v :=
  let ⟨β', h1, h2, _⟩ := compact_own h tm
  ⟨β', h1, h2⟩

theorem clean_sound {nt : Nat} {st : St} {a : Act} (hR : Rel β0 H0 w0 nt st a w) (live : List (Nat × List Nat)) (id : Nat) : Rel β0 H0 w0 nt (clean H0.length live id st) a w := by
  obtain ⟨β, hI, hv, hs, hdf⟩ := hR
  unfold clean
  split
  · rename_i l hl
    have hv' : RTm β st.H (keepM l st.tm) a.tmps := fun t => by
      rcases keepM_get l st.tm t with e | e
      · rw [e]; trivial
      · rw [e]; exact hv t
    obtain ⟨β', k1, k2⟩ := compact_sound hI (keepM l st.tm)
    exact ⟨β', k1, fun t => k2 t _ (hv' t), hs, hdf⟩
  · exact ⟨β, hI, hv, hs, hdf⟩
end
end Go.Rf

/-
  A region whose order is drawn: what each operation has done in the text's order.
-/
set_option linter.unusedVariables false
set_option linter.unusedSimpArgs false
namespace Go.Rf
open Go

structure Deed where
  slot : Nat
  run : Bool
  v : AV
  ed : List (Nat × Blk)
  rd : List Nat

section
variable {β0 : Bm} {H0 : List Blk} {w0 : World} {β : Bm} {H : List Blk} {w : World} {P : Program} {Γ : Ctx}

def ap (p : Oper × Deed) (S : St) : St := ⟨put S.tm p.1.dst p.2.v, edit p.2.ed S.H⟩
def runE : List (Oper × Deed) → St → St
  | [], S => S
  | p :: r, S => runE r (ap p S)

def EqS (S S' : St) : Prop := (∀ d, get S.tm d = get S'.tm d) ∧ S.H = S'.H
theorem EqS.refl (S : St) : EqS S S := ⟨fun _ => rfl, rfl⟩
theorem EqS.trans {a b c : St} (h : EqS a b) (k : EqS b c) : EqS a c := ⟨fun d => (h.1 d).trans (k.1 d), h.2.trans k.2⟩
theorem get_put (tm : List (Nat × AV)) (d : Option Nat) (v : AV) (x : Nat) : get (put tm d v) x = if d = some x then v else get tm x := by
  cases d with
  | none => simp [put]
  | some d =>
    simp only [put]
    rw [look_put]
    by_cases e : d = x
    · subst e; simp
    · rw [if_neg e, if_neg (by simpa using e)]
theorem EqS.ap {S S' : St} (h : EqS S S') (p : Oper × Deed) : EqS (ap p S) (ap p S') :=
  ⟨fun d => by simp only [Go.Rf.ap]; rw [get_put, get_put, h.1 d], by simp only [Go.Rf.ap]; rw [h.2]⟩
theorem EqS.runE : ∀ (E : List (Oper × Deed)) {S S' : St}, EqS S S' → EqS (runE E S) (runE E S')
  | [], S, S', h => h
  | p :: r, S, S', h => EqS.runE r (h.ap p)

structure Evs (Γ : Ctx) (nt : Nat) (all : List Oper) (p : Oper × Deed) (tm : List (Nat × AV)) (H : List Blk) : Prop where
  dst : okDst nt p.1.dst = true
  ran : p.2.run = true → (p.1.guard = none ∨ ∃ j want d, p.1.guard = some (j, want) ∧ dstAt all j = some d ∧ get tm d = .v (.one (.bool want))) ∧
    evD Γ p.2.slot p.1.op tm H (fun v ed rd => some (v, ed, rd)) = some (p.2.v, p.2.ed, p.2.rd)
  skp : p.2.run = false → p.2.v = .tup [] ∧ p.2.ed = [] ∧ p.2.rd = [] ∧ ∃ j want d, p.1.guard = some (j, want) ∧ dstAt all j = some d ∧ (get tm d = .v (.one (.bool (!want))) ∨ get tm d = .tup [])

def looks (all : List Oper) (o : Oper) (d : Nat) : Prop := (.tmp d : Operand) ∈ o.op.operands ∨ ∃ j want, o.guard = some (j, want) ∧ dstAt all j = some d

theorem opnd_congr {tm tm' : List (Nat × AV)} {x : Operand} (h : ∀ d, x = .tmp d → get tm' d = get tm d) : opnd tm' x = opnd tm x := by
  cases x with
  | tmp t => exact h t rfl
  | _ => rfl
theorem Evs.local_ {nt : Nat} {all : List Oper} {p : Oper × Deed} {tm tm' : List (Nat × AV)} {H H' : List Blk} (h : Evs Γ nt all p tm H) (ht : ∀ d, looks all p.1 d → get tm' d = get tm d) (hb : SameBlk p.2.rd H H') : Evs Γ nt all p tm' H' := by
  refine ⟨h.dst, fun hr => ?_, fun hr => ?_⟩
  · obtain ⟨h1, h2⟩ := h.ran hr
    refine ⟨?_, ?_⟩
    · rcases h1 with h1 | ⟨j, want, d, e1, e2, e3⟩
      · exact .inl h1
      · exact .inr ⟨j, want, d, e1, e2, by rw [ht d (.inr ⟨j, want, e1, e2⟩)]; exact e3⟩
    · obtain ⟨v, ed, rd, e, hl⟩ := evD_local h2
      injection e with e
      injection e with e1 e
      injection e with e2 e3
      subst e1; subst e2; subst e3
      exact hl tm' H' _ _ (fun x hx => opnd_congr fun d hd => ht d (.inl (by subst hd; exact hx))) hb
  · obtain ⟨h1, h2, h3, j, want, d, e1, e2, e3⟩ := h.skp hr
    exact ⟨h1, h2, h3, j, want, d, e1, e2, by rw [ht d (.inr ⟨j, want, e1, e2⟩)]; exact e3⟩
theorem Evs.eqS {nt : Nat} {all : List Oper} {p : Oper × Deed} {S S' : St} (h : Evs Γ nt all p S.tm S.H) (e : EqS S S') : Evs Γ nt all p S'.tm S'.H :=
  h.local_ (fun d _ => (e.1 d).symm) fun t _ => by rw [e.2]

def didsFrom : Nat → List (Oper × Deed) → List Did
  | _, [] => []
  | i, p :: r => match p.2.run with
    | true => ⟨i, fsts p.2.ed, p.2.rd⟩ :: didsFrom (i + 1) r
    | false => didsFrom (i + 1) r
def slotsFrom : Nat → List Oper → List Nat
  | _, [] => []
  | s, o :: r => s :: slotsFrom (s + wd o) r

theorem know_eq {tm : List (Nat × AV)} {d : Nat} {b : Bool} (h : get tm d = .v (.one (.bool b))) (H : List Blk) : EqS ⟨(d, A1 (.bool b)) :: tm, H⟩ ⟨tm, H⟩ :=
  ⟨fun x => by
    simp only
    rw [look_put]
    by_cases e : d = x
    · subst e; rw [if_pos rfl, h]; rfl
    · rw [if_neg e], rfl⟩

theorem evDs_split {R : Type} {nt : Nat} {all : List Oper} {k : St → List Did → Option R} {r : R} : ∀ {l : List Oper} {i slot : Nat} {st : St} {log : List Did}, evDs Γ nt all i slot l st log k = some r →
    ∃ E st' log', E.map (·.1) = l ∧ E.map (·.2.slot) = slotsFrom slot l ∧ k st' log' = some r ∧ (∀ j p, E[j]? = some p → Evs Γ nt all p (runE (E.take j) st).tm (runE (E.take j) st).H) ∧ EqS st' (runE E st) ∧ log' = (didsFrom i E).reverse ++ log
  | [], i, slot, st, log, h => by
    simp only [evDs] at h
    exact ⟨[], st, log, rfl, rfl, h, fun j p hp => by simp at hp, EqS.refl _, rfl⟩
  | o :: l, i, slot, st, log, h => by
    simp only [evDs] at h
    have run : ∀ st1 : St, EqS st1 st → (o.guard = none ∨ ∃ j want d, o.guard = some (j, want) ∧ dstAt all j = some d ∧ get st1.tm d = .v (.one (.bool want))) →
        (match okDst nt o.dst with
        | true => evD Γ slot o.op st1.tm st1.H fun v ed rd => evDs Γ nt all (i + 1) (slot + wd o) l ⟨put st1.tm o.dst v, edit ed st1.H⟩ (⟨i, fsts ed, rd⟩ :: log) k
        | false => none) = some r → ∃ E st' log', E.map (·.1) = o :: l ∧ E.map (·.2.slot) = slotsFrom slot (o :: l) ∧ k st' log' = some r ∧ (∀ j p, E[j]? = some p → Evs Γ nt all p (runE (E.take j) st).tm (runE (E.take j) st).H) ∧ EqS st' (runE E st) ∧ log' = (didsFrom i E).reverse ++ log := by
      intro st1 he hg h
      split at h
      · rename_i hok
        obtain ⟨v, ed, rd, h1, h2⟩ := evD_local h
        obtain ⟨E, st', log', e1, e2, e3, e4, e5, e6⟩ := evDs_split h1
        have ha : EqS ⟨put st1.tm o.dst v, edit ed st1.H⟩ (ap (o, ⟨slot, true, v, ed, rd⟩) st) := he.ap (o, ⟨slot, true, v, ed, rd⟩)
        refine ⟨(o, ⟨slot, true, v, ed, rd⟩) :: E, st', log', by simp [e1], by simp [e2, slotsFrom], e3, fun j p hp => ?_, e5.trans (ha.runE E), ?_⟩
        · cases j with
          | zero =>
            simp at hp
            subst hp
            have : Evs Γ nt all (o, ⟨slot, true, v, ed, rd⟩) st1.tm st1.H := ⟨hok, fun _ => ⟨hg, h2 _ _ _ _ (fun _ _ => rfl) (fun _ _ => rfl)⟩, fun hh => by cases hh⟩
            exact this.eqS he
          | succ j =>
            simp only [List.getElem?_cons_succ] at hp
            simp only [List.take_succ_cons, runE]
            exact (e4 j p hp).eqS (ha.runE _)
        · rw [e6]
          simp only [didsFrom, List.reverse_cons, List.append_assoc, List.singleton_append]
      · cases h
    have skip : ∀ st1 : St, EqS st1 st → (∃ j want d, o.guard = some (j, want) ∧ dstAt all j = some d ∧ (get st1.tm d = .v (.one (.bool (!want))) ∨ get st1.tm d = .tup [])) →
        (match okDst nt o.dst with
        | true => evDs Γ nt all (i + 1) (slot + wd o) l ⟨put st1.tm o.dst (.tup []), st1.H⟩ log k
        | false => none) = some r → ∃ E st' log', E.map (·.1) = o :: l ∧ E.map (·.2.slot) = slotsFrom slot (o :: l) ∧ k st' log' = some r ∧ (∀ j p, E[j]? = some p → Evs Γ nt all p (runE (E.take j) st).tm (runE (E.take j) st).H) ∧ EqS st' (runE E st) ∧ log' = (didsFrom i E).reverse ++ log := by
      intro st1 he hg h
      split at h
      · rename_i hok
        obtain ⟨E, st', log', e1, e2, e3, e4, e5, e6⟩ := evDs_split h
        have ha : EqS ⟨put st1.tm o.dst (.tup []), st1.H⟩ (ap (o, ⟨slot, false, .tup [], [], []⟩) st) := he.ap (o, ⟨slot, false, .tup [], [], []⟩)
        refine ⟨(o, ⟨slot, false, .tup [], [], []⟩) :: E, st', log', by simp [e1], by simp [e2, slotsFrom], e3, fun j p hp => ?_, e5.trans (ha.runE E), ?_⟩
        · cases j with
          | zero =>
            simp at hp
            subst hp
            have : Evs Γ nt all (o, ⟨slot, false, .tup [], [], []⟩) st1.tm st1.H := ⟨hok, (fun hh => by cases hh), fun _ => ⟨rfl, rfl, rfl, hg⟩⟩
            exact this.eqS he
          | succ j =>
            simp only [List.getElem?_cons_succ] at hp
            simp only [List.take_succ_cons, runE]
            exact (e4 j p hp).eqS (ha.runE _)
        · rw [e6]
          simp only [didsFrom]
      · cases h
    split at h
    · rename_i hg
      exact run st (EqS.refl _) (.inl hg) h
    · rename_i j want hg
      split at h
      · cases h
      · rename_i d hd
        split at h
        · rename_i b hb
          have hk := know_eq hb st.H
          cases b
          · cases want
            · simp only [br] at h
              exact run _ hk (.inr ⟨j, false, d, hg, hd, by rw [hk.1 d]; exact hb⟩) h
            · simp only [br] at h
              exact skip _ hk ⟨j, true, d, hg, hd, .inl (by rw [hk.1 d]; exact hb)⟩ h
          · cases want
            · simp only [br] at h
              exact skip _ hk ⟨j, false, d, hg, hd, .inl (by rw [hk.1 d]; exact hb)⟩ h
            · simp only [br] at h
              exact run _ hk (.inr ⟨j, true, d, hg, hd, by rw [hk.1 d]; exact hb⟩) h
        · rename_i hb
          exact skip st (EqS.refl _) ⟨j, want, d, hg, hd, .inr hb⟩ h
        · cases h

theorem deed_sound (hT : chkTab P Γ.ty = true) (hS : SumOk P Γ) {nt : Nat} {ops : Array Oper} {p : Oper × Deed} {tm : List (Nat × AV)} {a : Act} (hI : Inv β0 H0 w0 β H w) (hv : RTm β H tm a.tmps) (hsz : a.tmps.size = nt) (hdf : a.defers = [])
    (hlo : H0.length ≤ p.2.slot) (hsl : p.2.slot + wd p.1 ≤ H.length) (hfree : ∀ t, p.2.slot ≤ t → t < p.2.slot + wd p.1 → β t = none) (hE : Evs Γ nt ops.toList p tm H) {K : Act → World → Prop} {Q : Exit → Act → World → Prop}
    (hK : ∀ β' a' w', Inv β0 H0 w0 β' (edit p.2.ed H) w' → RTm β' (edit p.2.ed H) (put tm p.1.dst p.2.v) a'.tmps → a'.tmps.size = nt → a'.defers = [] → (∀ t, ¬ (p.2.slot ≤ t ∧ t < p.2.slot + wd p.1) → β t = none → β' t = none) → K a' w') :
    if Region.wanted p.1 (yielded ops a.tmps) then p.1.wp P a w K Q else K (a.put p.1.dst undef) w := by
  obtain ⟨o, slot, ran, v, ed, rd⟩ := p
  simp only at *
  have hdst : ∀ i, o.dst = some i → i < a.tmps.size := fun i hi => by rw [hsz]; exact okDst_lt hE.dst hi
  have yl : ∀ {j d : Nat}, dstAt ops.toList j = some d → ∀ {b : Bool}, get tm d = .v (.one (.bool b)) → yielded ops a.tmps j = some b := by
    intro j d hd b hb
    have e := hv d
    rw [hb] at e
    have e : a.tmps.getD d undef = .bool b := e
    unfold yielded
    rw [dstAt_eq hd]
    have : a.tmps[d]? = some (.bool b) := by
      rw [Array.getD_eq_getD_getElem?] at e
      cases hx : a.tmps[d]? with
      | none => rw [hx] at e; cases e
      | some x => rw [hx] at e; simp at e; rw [e]
    simp [this]
  cases ran with
  | false =>
    obtain ⟨rfl, rfl, rfl, j, want, d, e1, e2, e3⟩ := hE.skp rfl
    have hw : Region.wanted o (yielded ops a.tmps) = false := by
      rcases e3 with e3 | e3
      · simp only at e1 e2 e3
        simp only [Region.wanted, e1, yl e2 e3]
        cases want <;> rfl
      · have e := hv d
        rw [e3] at e
        obtain ⟨arr, e, harr⟩ := e
        have hy : yielded ops a.tmps j = none := by
          unfold yielded
          rw [dstAt_eq e2]
          rw [Array.getD_eq_getD_getElem?] at e
          cases hx : a.tmps[d]? with
          | none => simp [hx]
          | some x => rw [hx] at e; simp at e; subst e; simp [hx]
        simp only at e1
        simp [Region.wanted, e1, hy]
    rw [hw]
    simp only [Bool.false_eq_true, if_false]
    exact hK β _ _ hI (hv.put ⟨#[], rfl, .nil⟩ hdst) (by rw [put_size]; exact hsz) (by rw [put_defers]; exact hdf) fun _ _ hn => hn
  | true =>
    obtain ⟨hg, h⟩ := hE.ran rfl
    simp only at hg h
    have hw : Region.wanted o (yielded ops a.tmps) = true := by
      rcases hg with hg | ⟨j, want, d, e1, e2, e3⟩
      · simp [Region.wanted, hg]
      · simp only [Region.wanted, e1, yl e2 e3]
        cases want <;> rfl
    rw [hw]
    simp only [if_true]
    unfold evD at h
    split at h
    · rename_i hk
      obtain ⟨x, u, w', h1, h2, h3, h4⟩ := evQ_sound (P := P) hT hI.wr hv h
      injection h4 with h4
      injection h4 with e1 e
      injection e with e2 e3
      subst e1; subst e2
      exact Oper.wp_value (.inl h1) (hK β _ _ (hI.same h2) (hv.put h3 hdst) (by rw [put_size]; exact hsz) (by rw [put_defers]; exact hdf) fun _ _ hn => hn)
    · rename_i hk
      have hwd : wd o = room := by unfold wd; simp only [hk]
      rw [hwd] at hsl hfree hK
      have hr : 0 < room := by decide
      obtain ⟨x, u, w', ed', rd', β', h1, h2, h3, h4, h5, h6⟩ := evE_sound hT hI hlo (by omega) (hfree slot (Nat.le_refl _) (by omega)) hv h
      injection h6 with h6
      injection h6 with e1 e
      injection e with e2 e3
      subst e1; subst e2
      exact Oper.wp_value h1 (hK β' _ _ h2 ((hv.move h3).put h4 hdst) (by rw [put_size]; exact hsz) (by rw [put_defers]; exact hdf) h5)
    · rename_i hk0 hk1
      split at h
      · rename_i c hc
        split at h
        · rename_i f hcf
          split at h
          · rename_i g caps hf
            split at h
            · rename_i hins
              have hk2 : kindOf (.call c) = 2 := by simp only [kindOf, hcf]
              have hwd : wd o = room := by unfold wd; simp only [hc, hk2]
              rw [hwd] at hsl hfree hK
              have hr : 0 < room := by decide
              have e := opnd_rel hv f
              rw [hf] at e
              obtain ⟨cs, he, hcs⟩ := e
              have hargs : All2 (RV β H) (opnds tm c.args.toList ++ caps.map A1) (c.args.map a.eval ++ cs).toList := by
                rw [Array.toList_append]
                refine All2.append ?_ (A1_all hcs)
                simpa using opnds_rel hv c.args.toList
              have hx : execOp a.eval o = callFunc g (c.args.map a.eval ++ cs) := by
                simp only [execOp, hc, resolve, hcf, Deferred.ofValue, he]
                simp [invoke]
              have hcr := (insD_sound (hS.2 g hins) hI hlo (by omega) (hfree slot (Nat.le_refl _) (by omega)) h hargs).mono (q := fun u w' => K (a.put o.dst u) w') fun u w' ⟨v', ed', rd', β', k1, k2, k3, k4, k5⟩ => by
                injection k5 with k5
                injection k5 with e1 e
                injection e with e2 e3
                subst e1; subst e2
                exact hK β' _ _ k1 ((hv.move k2).put k3 hdst) (by rw [put_size]; exact hsz) (by rw [put_defers]; exact hdf) k4
              unfold Oper.wp
              rw [hx]
              rcases hcr with ⟨u, w', h1, h2⟩ | ⟨h1, h2⟩
              · rw [h1]; exact h2
              · rw [h1]
                show Calls P g _ w _
                refine h2.mono fun e w' ⟨u, he, h3⟩ => ?_
                subst he
                exact h3
            rename_i hins
            split at h
            · rename_i pts rd' hd
              split at h
              · rename_i b' v' news hs
                split at h
                · rename_i hl
                  obtain ⟨rfl, h⟩ := grd_inv h
                  have hl := ble_le hl
                  injection h with h
                  injection h with e1 e
                  injection e with e2 e3
                  subst e1; subst e2
                  have hk2 : kindOf (.call c) = 2 := by simp only [kindOf, hcf]
                  have hwd : wd o = room := by unfold wd; simp only [hc, hk2]
                  rw [hwd] at hsl hfree hK
                  have e := opnd_rel hv f
                  rw [hf] at e
                  obtain ⟨cs, he, hcs⟩ := e
                  have hargs : All2 (RV β H) (opnds tm c.args.toList ++ caps.map A1) (c.args.map a.eval ++ cs).toList := by
                    rw [Array.toList_append]
                    refine All2.append ?_ (A1_all hcs)
                    simpa using opnds_rel hv c.args.toList
                  have hx : execOp a.eval o = callFunc g (c.args.map a.eval ++ cs) := by
                    simp only [execOp, hc, resolve, hcf, Deferred.ofValue, he]
                    simp [invoke]
                  have hcr := (hS.1 g _ _ _ hs w _ (dpVs_sound hI.wr hargs hd)).mono (q := fun u w' => K (a.put o.dst u) w') fun u w' ⟨γ, k1, k2⟩ => by
                    have hsn : slot + news.length ≤ H.length := by omega
                    have hfr : ∀ t, slot ≤ t → t < slot + news.length → β t = none := fun t q1 q2 => hfree t q1 (by omega)
                    refine hK _ _ _ (hI.place k1 hlo hsn hfr) ((hv.move (mv_place hsn hfr)).put (k2.shift (sh_place hsn)) hdst) (by rw [put_size]; exact hsz) (by rw [put_defers]; exact hdf) fun t q1 q2 => ?_
                    rw [placeB_out _ _ (fun q => q1 ⟨q.1, by omega⟩)]; exact q2
                  unfold Oper.wp
                  rw [hx]
                  rcases hcr with ⟨u, w', h1, h2⟩ | ⟨h1, h2⟩
                  · rw [h1]; exact h2
                  · rw [h1]
                    show Calls P g _ w _
                    refine h2.mono fun e w' ⟨u, he, h3⟩ => ?_
                    subst he
                    exact h3
                · cases h
              · cases h
            · cases h
          · cases h
        · cases h
      · cases h
end
end Go.Rf

/-
  A region whose order is drawn: every order comes to what the text's order comes to.
-/
set_option linter.unusedVariables false
set_option linter.unusedSimpArgs false
namespace Go.Rf
open Go

theorem fold_loc {α β : Type} {f : β → Nat → β} {obs : β → α} {g : Nat → α → α} (h : ∀ b i, obs (f b i) = g i (obs b)) : ∀ (L : List Nat) (b : β), obs (L.foldl f b) = L.foldl (fun c i => g i c) (obs b)
  | [], b => rfl
  | i :: L, b => by simp only [List.foldl_cons]; rw [fold_loc h L, h]
theorem fold_filter {α : Type} {g : Nat → α → α} {p : Nat → Bool} (h : ∀ i c, p i = false → g i c = c) : ∀ (L : List Nat) (c : α), L.foldl (fun c i => g i c) c = (L.filter p).foldl (fun c i => g i c) c
  | [], c => rfl
  | i :: L, c => by
    simp only [List.foldl_cons, List.filter_cons]
    cases hp : p i with
    | true => simp only [if_true, List.foldl_cons]; exact fold_filter h L _
    | false => simp only [Bool.false_eq_true, if_false]; rw [h i c hp]; exact fold_filter h L _

theorem sorted_ext : ∀ {l l' : List Nat}, l.Pairwise (· < ·) → l'.Pairwise (· < ·) → (∀ x, x ∈ l ↔ x ∈ l') → l = l'
  | [], [], _, _, _ => rfl
  | [], b :: l', _, _, h => by have := (h b).2 (by simp); cases this
  | a :: l, [], _, _, h => by have := (h a).1 (by simp); cases this
  | a :: l, b :: l', h1, h2, h => by
    obtain ⟨p1, q1⟩ := List.pairwise_cons.1 h1
    obtain ⟨p2, q2⟩ := List.pairwise_cons.1 h2
    have hab : a = b := by
      have ha := (h a).1 (by simp)
      have hb := (h b).2 (by simp)
      rcases List.mem_cons.1 ha with e | ha
      · exact e
      · rcases List.mem_cons.1 hb with e | hb
        · exact e.symm
        · have := p2 a ha; have := p1 b hb; omega
    subst hab
    congr 1
    refine sorted_ext q1 q2 fun x => ⟨fun hx => ?_, fun hx => ?_⟩
    · rcases List.mem_cons.1 ((h x).1 (by simp [hx])) with e | h'
      · subst e; have := p1 x hx; omega
      · exact h'
    · rcases List.mem_cons.1 ((h x).2 (by simp [hx])) with e | h'
      · subst e; have := p2 x hx; omega
      · exact h'

section
variable (E : List (Oper × Deed)) (S0 : St)
def apI (S : St) (i : Nat) : St := match E[i]? with | some p => ap p S | none => S
def sOf (L : List Nat) : St := L.foldl (apI E) S0
def effT (d i : Nat) (c : AV) : AV := match E[i]? with | some p => if p.1.dst = some d then p.2.v else c | none => c
def effB : List (Nat × Blk) → Nat → Option Blk → Option Blk
  | [], _, x => x
  | (u, b) :: r, t, x => effB r t (if t = u then x.map fun _ => b else x)
def effBI (t i : Nat) (c : Option Blk) : Option Blk := match E[i]? with | some p => effB p.2.ed t c | none => c
def wT (d i : Nat) : Bool := match E[i]? with | some p => decide (p.1.dst = some d) | none => false
def wB (t i : Nat) : Bool := match E[i]? with | some p => decide (t ∈ fsts p.2.ed) | none => false
end

theorem nth_setL (H : List Blk) (u : Nat) (b : Blk) (t : Nat) : nth (setL H u b) t = if t = u then (nth H t).map fun _ => b else nth H t := by
  rw [setL_eq, nth_eq, nth_eq]
  by_cases e : t = u
  · subst e
    rw [if_pos rfl]
    by_cases h : t < H.length
    · rw [List.getElem?_set_self h, List.getElem?_eq_getElem h]; rfl
    · rw [List.getElem?_eq_none (by simpa using Nat.le_of_not_lt h), List.getElem?_eq_none (by omega)]; rfl
  · rw [if_neg e, List.getElem?_set_ne (Ne.symm e)]
theorem nth_edit : ∀ (ed : List (Nat × Blk)) (H : List Blk) (t : Nat), nth (edit ed H) t = effB ed t (nth H t)
  | [], H, t => rfl
  | (u, b) :: r, H, t => by simp only [edit, effB]; rw [nth_edit r, nth_setL]
theorem effB_id : ∀ (ed : List (Nat × Blk)) (t : Nat) (x : Option Blk), t ∉ fsts ed → effB ed t x = x
  | [], t, x, _ => rfl
  | (u, b) :: r, t, x, h => by
    simp only [fsts, List.mem_cons, not_or] at h
    simp only [effB, if_neg h.1]
    exact effB_id r t x h.2

section
variable {E : List (Oper × Deed)} {S0 : St}
theorem get_sOf (L L' : List Nat) (d : Nat) (h : L.filter (wT E d) = L'.filter (wT E d)) : get (sOf E S0 L).tm d = get (sOf E S0 L').tm d := by
  have step : ∀ (b : St) (i : Nat), get (apI E b i).tm d = effT E d i (get b.tm d) := by
    intro b i
    unfold apI effT
    split
    · simp only [ap]; rw [get_put]
    · rfl
  have id_ : ∀ (i : Nat) (c : AV), wT E d i = false → effT E d i c = c := by
    intro i c hw
    unfold wT at hw
    unfold effT
    split
    · rename_i p hp
      rw [hp] at hw
      rw [if_neg (by simpa using hw)]
    · rfl
  have key : ∀ L, get (sOf E S0 L).tm d = (L.filter (wT E d)).foldl (fun c i => effT E d i c) (get S0.tm d) := fun L => by
    unfold sOf
    rw [fold_loc (obs := fun S : St => get S.tm d) (g := effT E d) step, fold_filter id_]
  rw [key, key, h]
theorem nth_sOf (L L' : List Nat) (t : Nat) (h : L.filter (wB E t) = L'.filter (wB E t)) : nth (sOf E S0 L).H t = nth (sOf E S0 L').H t := by
  have step : ∀ (b : St) (i : Nat), nth (apI E b i).H t = effBI E t i (nth b.H t) := by
    intro b i
    unfold apI effBI
    split
    · simp only [ap]; rw [nth_edit]
    · rfl
  have id_ : ∀ (i : Nat) (c : Option Blk), wB E t i = false → effBI E t i c = c := by
    intro i c hw
    unfold wB at hw
    unfold effBI
    split
    · rename_i p hp
      rw [hp] at hw
      exact effB_id _ _ _ (by simpa using hw)
    · rfl
  have key : ∀ L, nth (sOf E S0 L).H t = (L.filter (wB E t)).foldl (fun c i => effBI E t i c) (nth S0.H t) := fun L => by
    unfold sOf
    rw [fold_loc (obs := fun S : St => nth S.H t) (g := effBI E t) step, fold_filter id_]
  rw [key, key, h]
theorem len_sOf (L : List Nat) : ∀ S0 : St, (sOf E S0 L).H.length = S0.H.length := by
  induction L with
  | nil => intro S0; rfl
  | cons i L ih =>
    intro S0
    have : sOf E S0 (i :: L) = sOf E (apI E S0 i) L := rfl
    rw [this, ih]
    unfold apI
    split
    · simp only [ap, edit_length]
    · rfl
theorem runE_append (E' : List (Oper × Deed)) (p : Oper × Deed) : ∀ (F : List (Oper × Deed)) (S : St), runE (F ++ [p]) S = ap p (runE F S)
  | [], S => rfl
  | q :: F, S => by simp only [List.cons_append, runE]; exact runE_append E' p F _
theorem sOf_range : ∀ (j : Nat), j ≤ E.length → sOf E S0 (List.range j) = runE (E.take j) S0
  | 0, _ => by simp [sOf, runE]
  | j + 1, h => by
    have hj : j < E.length := h
    rw [List.range_succ]
    have : sOf E S0 (List.range j ++ [j]) = apI E (sOf E S0 (List.range j)) j := by simp [sOf, List.foldl_append]
    rw [this, sOf_range j (by omega), List.take_add_one, List.getElem?_eq_getElem hj]
    simp only [Option.toList_some]
    rw [runE_append E]
    unfold apI
    rw [List.getElem?_eq_getElem hj]
end

structure Ind (all : List Oper) (p q : Oper × Deed) : Prop where
  a : ∀ d, p.1.dst = some d → ¬ looks all q.1 d ∧ q.1.dst ≠ some d
  b : ∀ d, q.1.dst = some d → ¬ looks all p.1 d
  c : ∀ t, t ∈ fsts p.2.ed → t ∉ fsts q.2.ed ∧ t ∉ q.2.rd
  d : ∀ t, t ∈ fsts q.2.ed → t ∉ p.2.rd
theorem Ind.symm {all : List Oper} {p q : Oper × Deed} (h : Ind all p q) : Ind all q p :=
  ⟨fun d hd => ⟨h.b d hd, fun e => (h.a d e).2 hd⟩, fun d hd => (h.a d hd).1, fun t ht => ⟨fun e => (h.c t e).1 ht, h.d t ht⟩, fun t ht => (h.c t ht).2⟩

def bitOf (bf : List Nat) (i j : Nat) : Bool := match bf[i]? with | some m => m.testBit j | none => false

section
variable {E : List (Oper × Deed)} {S0 : St} {all : List Oper} {bf : List Nat}
structure Done (E : List (Oper × Deed)) (all : List Oper) (bf : List Nat) (L : List Nat) : Prop where
  nd : L.Nodup
  lt : ∀ i ∈ L, i < E.length
  cl : ∀ i ∈ L, ∀ j, bitOf bf i j = true → j ∈ L
  pw : L.Pairwise fun j k => j < k ∨ ∀ p q, E[j]? = some p → E[k]? = some q → Ind all p q

def Inds (E : List (Oper × Deed)) (all : List Oper) (bf : List Nat) : Prop := ∀ i j p q, j < i → E[i]? = some p → E[j]? = some q → bitOf bf i j = true ∨ Ind all p q

theorem wT_true {d i : Nat} (h : wT E d i = true) : ∃ p, E[i]? = some p ∧ p.1.dst = some d := by
  unfold wT at h
  split at h
  · rename_i p hp; exact ⟨p, hp, by simpa using h⟩
  · cases h
theorem wB_true {d i : Nat} (h : wB E d i = true) : ∃ p, E[i]? = some p ∧ d ∈ fsts p.2.ed := by
  unfold wB at h
  split at h
  · rename_i p hp; exact ⟨p, hp, by simpa using h⟩
  · cases h

theorem Done.filter_sorted {L : List Nat} (h : Done E all bf L) {f : Nat → Bool} (hf : ∀ j k p q, f j = true → f k = true → E[j]? = some p → E[k]? = some q → ¬ Ind all p q) : (L.filter f).Pairwise (· < ·) := by
  refine (h.pw.filter f).imp_of_mem fun {j k} hj hk hjk => ?_
  obtain ⟨hj1, hj2⟩ := List.mem_filter.1 hj
  obtain ⟨hk1, hk2⟩ := List.mem_filter.1 hk
  rcases hjk with hjk | hjk
  · exact hjk
  · have e1 := List.getElem?_eq_getElem (h.lt j hj1)
    have e2 := List.getElem?_eq_getElem (h.lt k hk1)
    exact absurd (hjk _ _ e1 e2) (hf j k _ _ hj2 hk2 e1 e2)
theorem range_sorted (n : Nat) (f : Nat → Bool) : ((List.range n).filter f).Pairwise (· < ·) := List.pairwise_lt_range.filter f
theorem T_no {d : Nat} : ∀ j k p q, wT E d j = true → wT E d k = true → E[j]? = some p → E[k]? = some q → ¬ Ind all p q := by
  intro j k p q h1 h2 e1 e2 hi
  obtain ⟨p', k1, k2⟩ := wT_true h1
  obtain ⟨q', k3, k4⟩ := wT_true h2
  rw [e1] at k1; cases k1
  rw [e2] at k3; cases k3
  exact (hi.a d k2).2 k4
theorem B_no {d : Nat} : ∀ j k p q, wB E d j = true → wB E d k = true → E[j]? = some p → E[k]? = some q → ¬ Ind all p q := by
  intro j k p q h1 h2 e1 e2 hi
  obtain ⟨p', k1, k2⟩ := wB_true h1
  obtain ⟨q', k3, k4⟩ := wB_true h2
  rw [e1] at k1; cases k1
  rw [e2] at k3; cases k3
  exact (hi.c d k2).1 k4

theorem Done.reads {L : List Nat} (h : Done E all bf L) (hI : Inds E all bf) {i : Nat} {p : Oper × Deed} (hp : E[i]? = some p) (hn : i ∉ L) (hb : ∀ j, bitOf bf i j = true → j ∈ L) {f : Nat → Bool}
    (hf : ∀ j k p q, f j = true → f k = true → E[j]? = some p → E[k]? = some q → ¬ Ind all p q) (hr : ∀ j q, f j = true → E[j]? = some q → ¬ Ind all p q) : L.filter f = (List.range i).filter f := by
  have hil : i < E.length := (List.getElem?_eq_some_iff.1 hp).1
  refine sorted_ext (h.filter_sorted hf) (range_sorted i f) fun x => ?_
  simp only [List.mem_filter, List.mem_range]
  constructor
  · rintro ⟨hx, hfx⟩
    refine ⟨?_, hfx⟩
    have e := List.getElem?_eq_getElem (h.lt x hx)
    rcases Nat.lt_trichotomy x i with hlt | rfl | hgt
    · exact hlt
    · exact absurd hx hn
    · rcases hI x i _ _ hgt e hp with hbit | hind
      · exact absurd (h.cl x hx i hbit) hn
      · exact absurd hind.symm (hr x _ hfx e)
  · rintro ⟨hx, hfx⟩
    refine ⟨?_, hfx⟩
    have e := List.getElem?_eq_getElem (Nat.lt_trans hx hil)
    rcases hI i x _ _ hx hp e with hbit | hind
    · exact hb x hbit
    · exact absurd hind (hr x _ hfx e)

theorem Done.step {L : List Nat} (h : Done E all bf L) (hI : Inds E all bf) {i : Nat} (hi : i < E.length) (hn : i ∉ L) (hb : ∀ j, bitOf bf i j = true → j ∈ L) : Done E all bf (L ++ [i]) := by
  refine ⟨List.nodup_append.2 ⟨h.nd, by simp, fun a ha b hb' => ?_⟩, fun j hj => ?_, fun j hj k hk => ?_, List.pairwise_append.2 ⟨h.pw, by simp, fun j hj k hk => ?_⟩⟩
  · simp at hb'; subst hb'; intro e; subst e; exact hn ha
  · rcases List.mem_append.1 hj with hj | hj
    · exact h.lt j hj
    · simp at hj; subst hj; exact hi
  · rcases List.mem_append.1 hj with hj | hj
    · exact List.mem_append_left _ (h.cl j hj k hk)
    · simp at hj; subst hj; exact List.mem_append_left _ (hb k hk)
  · simp at hk
    subst hk
    rcases Nat.lt_trichotomy j k with hlt | rfl | hgt
    · exact .inl hlt
    · exact absurd hj hn
    · right
      intro p q hp hq
      rcases hI j k p q hgt hp hq with hbit | hind
      · exact absurd (h.cl j hj k hbit) hn
      · exact hind

theorem Done.all_ {L : List Nat} (h : Done E all bf L) (hall : ∀ i, i < E.length → i ∈ L) : EqS (sOf E S0 L) (runE E S0) := by
  have hm : ∀ (f : Nat → Bool), (∀ j k p q, f j = true → f k = true → E[j]? = some p → E[k]? = some q → ¬ Ind all p q) → L.filter f = (List.range E.length).filter f := fun f hf =>
    sorted_ext (h.filter_sorted hf) (range_sorted _ f) fun x => by
      simp only [List.mem_filter, List.mem_range]
      exact ⟨fun ⟨a, b⟩ => ⟨h.lt x a, b⟩, fun ⟨a, b⟩ => ⟨hall x a, b⟩⟩
  have e := sOf_range (E := E) (S0 := S0) E.length (Nat.le_refl _)
  rw [List.take_length] at e
  rw [← e]
  refine ⟨fun d => get_sOf _ _ d (hm _ T_no), List.ext_getElem? fun t => ?_⟩
  rw [← nth_eq, ← nth_eq]
  exact nth_sOf _ _ t (hm _ B_no)
end

theorem befs_len : ∀ (ops : List Oper) (acc : List Nat), (befs ops acc).length = acc.length + ops.length ∧ ∀ i, i < acc.length → (befs ops acc)[i]? = acc[i]?
  | [], acc => ⟨by simp [befs], fun i _ => by simp [befs]⟩
  | o :: r, acc => by
    simp only [befs]
    generalize hx : (o.after.toList.foldl (fun s e => match Region.binds .any e with | true => s ||| 2 ^ e.on ||| (match nth acc e.on with | some x => x | none => 0) | false => s) 0) = x
    obtain ⟨h1, h2⟩ := befs_len r (acc ++ [x])
    refine ⟨by rw [h1]; simp; omega, fun i hi => ?_⟩
    rw [h2 i (by simp; omega), List.getElem?_append_left hi]
theorem fold_bit {F : Nat → Nat} {j : Nat} : ∀ (es : List Edge) (s : Nat), (es.foldl (fun s e => match Region.binds .any e with | true => s ||| 2 ^ e.on ||| F e.on | false => s) s).testBit j = true →
    s.testBit j = true ∨ ∃ e ∈ es, Region.binds .any e = true ∧ (e.on = j ∨ (F e.on).testBit j = true)
  | [], s, h => .inl h
  | e :: es, s, h => by
    simp only [List.foldl_cons] at h
    rcases fold_bit es _ h with h | ⟨e', h1, h2⟩
    · split at h
      · rename_i hb
        simp only [Nat.testBit_or, Bool.or_eq_true] at h
        rcases h with (h | h) | h
        · exact .inl h
        · refine .inr ⟨e, by simp, hb, .inl ?_⟩
          rw [Nat.testBit_two_pow] at h
          simpa using h
        · exact .inr ⟨e, by simp, hb, .inr h⟩
      · exact .inl h
    · exact .inr ⟨e', by simp [h1], h2⟩
theorem befs_bit : ∀ (ops : List Oper) (acc : List Nat) (i : Nat) (o : Oper), ops[i]? = some o → ∀ (m j : Nat), (befs ops acc)[acc.length + i]? = some m → m.testBit j = true →
    ∃ e ∈ o.after, Region.binds .any e = true ∧ (e.on = j ∨ ∃ m', (befs ops acc)[e.on]? = some m' ∧ m'.testBit j = true)
  | [], acc, i, o, h => by simp at h
  | o' :: r, acc, i, o, h => by
    intro m j hm hj
    simp only [befs] at hm ⊢
    generalize hx : (o'.after.toList.foldl (fun s e => match Region.binds .any e with | true => s ||| 2 ^ e.on ||| (match nth acc e.on with | some x => x | none => 0) | false => s) 0) = x at hm ⊢
    cases i with
    | zero =>
      simp at h
      subst h
      obtain ⟨h1, h2⟩ := befs_len r (acc ++ [x])
      rw [Nat.add_zero, h2 _ (by simp), List.getElem?_append_right (Nat.le_refl _), Nat.sub_self] at hm
      simp at hm
      subst hm
      rw [← hx] at hj
      rcases fold_bit (F := fun n => match nth acc n with | some x => x | none => 0) _ _ hj with h | ⟨e, k1, k2, k3⟩
      · simp at h
      · refine ⟨e, by simpa using k1, k2, k3.imp id fun k3 => ?_⟩
        cases hn : nth acc e.on with
        | none => rw [hn] at k3; simp at k3
        | some m' =>
          rw [hn] at k3
          have hlt : e.on < acc.length := by rw [nth_eq] at hn; exact (List.getElem?_eq_some_iff.1 hn).1
          refine ⟨m', ?_, k3⟩
          rw [h2 _ (by simp; omega), List.getElem?_append_left hlt, ← nth_eq, hn]
    | succ i =>
      exact befs_bit r (acc ++ [x]) i o (by simpa using h) m j (by simpa [Nat.add_assoc, Nat.add_comm 1 i] using hm) hj

theorem slotsOne_spec {ops : Array Oper} {m : Nat} {o : Oper} : ∀ {l : List Oper} {j0 : Nat}, slotsOne ops m o j0 l = true → ∀ j x, l[j]? = some x → m.testBit (j0 + j) = true ∨ Oper.apart ops x o = true
  | [], j0, h, j, x, hx => by simp at hx
  | y :: l, j0, h, j, x, hx => by
    have h0 : m.testBit j0 = true ∨ Oper.apart ops y o = true := by
      simp only [slotsOne] at h
      split at h
      · rename_i hb; exact .inl hb
      · split at h
        · rename_i ha; exact .inr ha
        · cases h
    have h1 : slotsOne ops m o (j0 + 1) l = true := by
      simp only [slotsOne] at h
      split at h
      · exact h
      · split at h
        · exact h
        · cases h
    cases j with
    | zero => simp at hx; subst hx; exact h0
    | succ j =>
      have := slotsOne_spec h1 j x (by simpa using hx)
      rwa [Nat.add_assoc, Nat.add_comm 1 j] at this
theorem slotsOk_spec {ops : Array Oper} {bf : List Nat} : ∀ {l : List Oper} {i0 : Nat}, slotsOk ops bf i0 l = true → ∀ i o, l[i]? = some o → slotsOne ops (match nth bf (i0 + i) with | some m => m | none => 0) o 0 (ops.toList.take (i0 + i)) = true
  | [], i0, h, i, o, ho => by simp at ho
  | y :: l, i0, h, i, o, ho => by
    simp only [slotsOk] at h
    split at h
    · rename_i h1
      cases i with
      | zero => simp at ho; subst ho; exact h1
      | succ i =>
        have := slotsOk_spec h i o (by simpa using ho)
        rwa [Nat.add_assoc, Nat.add_comm 1 i] at this
    · cases h
theorem aftOk_spec : ∀ {l : List Oper} {i0 : Nat}, aftOk i0 l = true → ∀ i o, l[i]? = some o → ∀ e ∈ o.after, Region.binds .any e = true → e.on < i0 + i
  | [], i0, h, i, o, ho => by simp at ho
  | y :: l, i0, h, i, o, ho => by
    simp only [aftOk] at h
    split at h
    · rename_i h1
      cases i with
      | zero =>
        simp at ho; subst ho
        intro e he hb
        rw [List.all_eq_true] at h1
        have := h1 e (by simpa using he)
        rw [hb] at this
        exact blt_lt (by simpa using this)
      | succ i =>
        have := aftOk_spec h i o (by simpa using ho)
        rwa [Nat.add_assoc, Nat.add_comm 1 i] at this
    · cases h

theorem apart2_spec : ∀ {a b : List Nat}, apart2 a b = true → ∀ t, t ∈ a → t ∉ b
  | [], b, h, t, ht => by cases ht
  | u :: r, b, h, t, ht => by
    simp only [apart2] at h
    split at h
    · cases h
    · rename_i hm
      have notin : ∀ {l : List Nat} {t : Nat}, mem t l = false → t ∉ l := by
        intro l
        induction l with
        | nil => intro t _ h; cases h
        | cons u l ih =>
          intro t h hin
          simp only [mem] at h
          split at h
          · cases h
          · rename_i hb
            rcases List.mem_cons.1 hin with rfl | hin
            · simp at hb
            · exact ih h hin
      rcases List.mem_cons.1 ht with rfl | ht
      · exact notin hm
      · exact apart2_spec h t ht
theorem okLog_pw {bf : List Nat} : ∀ {l : List Did}, okLog bf l = true → l.Pairwise fun x y => okPair bf x y = true
  | [], _ => .nil
  | x :: r, h => by
    simp only [okLog] at h
    split at h
    · rename_i h1
      refine List.pairwise_cons.2 ⟨?_, okLog_pw h⟩
      clear h
      induction r with
      | nil => intro y hy; cases hy
      | cons z r ih =>
        simp only [okOne] at h1
        split at h1
        · rename_i h2
          intro y hy
          rcases List.mem_cons.1 hy with rfl | hy
          · exact h2
          · exact ih h1 y hy
        · cases h1
    · cases h
theorem dids_mem : ∀ {E : List (Oper × Deed)} {i j : Nat} {p : Oper × Deed}, E[j]? = some p → p.2.run = true → (⟨i + j, fsts p.2.ed, p.2.rd⟩ : Did) ∈ didsFrom i E
  | [], i, j, p, h, _ => by simp at h
  | q :: E, i, j, p, h, hr => by
    simp only [didsFrom]
    cases j with
    | zero => simp at h; subst h; rw [hr]; simp
    | succ j =>
      have := dids_mem (i := i + 1) (j := j) (p := p) (by simpa using h) hr
      rw [Nat.add_assoc, Nat.add_comm 1 j] at this
      split
      · exact List.mem_cons_of_mem _ this
      · exact this
theorem dids_pair {bf : List Nat} : ∀ {E : List (Oper × Deed)} {i : Nat}, (didsFrom i E).Pairwise (fun x y => okPair bf y x = true) → ∀ {j k : Nat} {p q : Oper × Deed}, j < k → E[j]? = some p → E[k]? = some q → p.2.run = true → q.2.run = true →
    okPair bf ⟨i + k, fsts q.2.ed, q.2.rd⟩ ⟨i + j, fsts p.2.ed, p.2.rd⟩ = true
  | [], i, h, j, k, p, q, hjk, hp, _, _, _ => by simp at hp
  | x :: E, i, h, j, k, p, q, hjk, hp, hq, hpr, hqr => by
    obtain ⟨k, rfl⟩ : ∃ k', k = k' + 1 := ⟨k - 1, by omega⟩
    have hq : E[k]? = some q := by simpa using hq
    simp only [didsFrom] at h
    cases j with
    | zero =>
      simp at hp
      subst hp
      rw [hpr] at h
      have := (List.pairwise_cons.1 h).1 _ (dids_mem (i := i + 1) hq hqr)
      rwa [Nat.add_assoc, Nat.add_comm 1 k] at this
    | succ j =>
      have h' : (didsFrom (i + 1) E).Pairwise (fun x y => okPair bf y x = true) := by
        split at h
        · exact (List.pairwise_cons.1 h).2
        · exact h
      have := dids_pair h' (j := j) (k := k) (by omega) (by simpa using hp) hq hpr hqr
      rwa [Nat.add_assoc, Nat.add_comm 1 k, Nat.add_assoc, Nat.add_comm 1 j] at this

theorem looks_iff {ops : Array Oper} {o : Oper} {d : Nat} (h : looks ops.toList o d) : d ∈ o.looksAt ops := by
  unfold Oper.looksAt
  rcases h with h | ⟨j, want, h1, h2⟩
  · exact List.mem_append_left _ (List.mem_filterMap.2 ⟨.tmp d, by simpa using h, rfl⟩)
  · refine List.mem_append_right _ ?_
    rw [h1]
    simp only
    rw [dstAt_eq h2]
    simp

theorem inds_of {Γ : Ctx} {nt : Nat} {ops : Array Oper} {E : List (Oper × Deed)} {S0 : St} {n : Nat} (hE : E.map (·.1) = ops.toList.take n) (hev : ∀ j p, E[j]? = some p → Evs Γ nt ops.toList p (runE (E.take j) S0).tm (runE (E.take j) S0).H)
    (hs : slotsOk ops (befs ops.toList []) 0 ops.toList = true) (hl : okLog (befs ops.toList []) (didsFrom 0 E).reverse = true) : Inds E ops.toList (befs ops.toList []) := by
  have hpw := List.pairwise_reverse.1 (okLog_pw hl)
  intro i j p q hji hp hq
  have hget : ∀ {i : Nat} {p : Oper × Deed}, E[i]? = some p → i < n ∧ ops.toList[i]? = some p.1 := by
    intro i p hp
    have h1 : (E.map (·.1))[i]? = some p.1 := by simp [hp]
    rw [hE] at h1
    have : i < n := by
      have := (List.getElem?_eq_some_iff.1 h1).1
      simp at this; omega
    rw [List.getElem?_take_of_lt this] at h1
    exact ⟨this, h1⟩
  obtain ⟨hin, ho⟩ := hget hp
  obtain ⟨hjn, hx⟩ := hget hq
  have hslot := slotsOne_spec (slotsOk_spec hs i p.1 ho) j q.1 (by rw [Nat.zero_add, List.getElem?_take_of_lt hji]; exact hx)
  rw [Nat.zero_add, Nat.zero_add] at hslot
  have hbit : ∀ {m : Nat}, (befs ops.toList [])[i]? = some m → m.testBit j = true → bitOf (befs ops.toList []) i j = true := by
    intro m h1 h2
    unfold bitOf
    rw [h1]; exact h2
  rcases hslot with h | hap
  · left
    rw [nth_eq] at h
    cases hm : (befs ops.toList [])[i]? with
    | none => rw [hm] at h; simp at h
    | some m => rw [hm] at h; exact hbit hm h
  · obtain ⟨a1, a2, a3⟩ := Oper.apart_spec hap
    have hslots : (∀ d, p.1.dst = some d → ¬ looks ops.toList q.1 d ∧ q.1.dst ≠ some d) ∧ (∀ d, q.1.dst = some d → ¬ looks ops.toList p.1 d) :=
      ⟨fun d hd => ⟨fun hh => a3 d hd (looks_iff hh), fun e => a2 d e hd⟩, fun d hd hh => a1 d hd (looks_iff hh)⟩
    cases hpr : p.2.run with
    | false =>
      obtain ⟨_, e1, e2, _⟩ := (hev i p hp).skp hpr
      right
      exact ⟨hslots.1, hslots.2, (fun t ht => by rw [e1] at ht; cases ht), (fun t ht => by rw [e2]; simp)⟩
    | true =>
      cases hqr : q.2.run with
      | false =>
        obtain ⟨_, e1, e2, _⟩ := (hev j q hq).skp hqr
        right
        exact ⟨hslots.1, hslots.2, (fun t ht => by rw [e1, e2]; simp [fsts]), (fun t ht => by rw [e1] at ht; cases ht)⟩
      | true =>
        have := dids_pair hpw hji hq hp hqr hpr
        simp only [Nat.zero_add] at this
        unfold okPair at this
        simp only at this
        split at this
        · rename_i h
          left
          rw [nth_eq] at h
          cases hm : (befs ops.toList [])[i]? with
          | none => rw [hm] at h; cases h
          | some m => rw [hm] at h; exact hbit hm h
        · simp only [Bool.and_eq_true] at this
          obtain ⟨⟨b1, b2⟩, b3⟩ := this
          right
          exact ⟨hslots.1, hslots.2, fun t ht => ⟨apart2_spec b3 t ht, apart2_spec b1 t ht⟩, fun t ht => apart2_spec b2 t ht⟩
end Go.Rf

/-
  A region whose order is drawn: carried out.
-/
set_option linter.unusedVariables false
set_option linter.unusedSimpArgs false
namespace Go.Rf
open Go

theorem countP_lt {p q : Nat → Bool} : ∀ {l : List Nat}, (∀ x ∈ l, q x = true → p x = true) → (∃ x ∈ l, p x = true ∧ q x = false) → l.countP q + 1 ≤ l.countP p
  | [], _, h => by obtain ⟨x, hx, _⟩ := h; cases hx
  | a :: l, h1, h2 => by
    have mono : ∀ {l : List Nat}, (∀ x ∈ l, q x = true → p x = true) → l.countP q ≤ l.countP p := by
      intro l
      induction l with
      | nil => intro _; simp
      | cons b l ih =>
        intro h
        have := ih fun x hx => h x (by simp [hx])
        simp only [List.countP_cons]
        have hb := h b (by simp)
        cases hq : q b with
        | false => simp; omega
        | true => rw [hb hq]; simp; omega
    simp only [List.countP_cons]
    have ha := h1 a (by simp)
    have hl := fun x (hx : x ∈ l) => h1 x (by simp [hx])
    obtain ⟨x, hx, hp, hq⟩ := h2
    rcases List.mem_cons.1 hx with rfl | hx
    · rw [hp, hq]
      have := mono hl
      simp; omega
    · have := countP_lt hl ⟨x, hx, hp, hq⟩
      cases hqa : q a with
      | false => simp; omega
      | true => rw [ha hqa]; simp; omega

theorem slots_facts : ∀ {l : List Oper} {s i a : Nat} {o : Oper}, (slotsFrom s l)[i]? = some a → l[i]? = some o → s ≤ a ∧ a + wd o ≤ s + room * makes l
  | [], s, i, a, o, h, _ => by simp [slotsFrom] at h
  | x :: l, s, i, a, o, h, ho => by
    have hm : wd x + room * makes l ≤ room * makes (x :: l) := by
      simp only [makes, wd]
      split
      · simp
      · rw [Nat.mul_add]; omega
    cases i with
    | zero =>
      simp [slotsFrom] at h ho
      subst h; subst ho
      exact ⟨Nat.le_refl _, by omega⟩
    | succ i =>
      simp only [slotsFrom, List.getElem?_cons_succ] at h ho
      obtain ⟨h1, h2⟩ := slots_facts h ho
      exact ⟨by omega, by omega⟩
theorem slots_lt : ∀ {l : List Oper} {s i j a b : Nat} {o : Oper}, i < j → (slotsFrom s l)[i]? = some a → (slotsFrom s l)[j]? = some b → l[i]? = some o → a + wd o ≤ b
  | [], s, i, j, a, b, o, _, h, _, _ => by simp [slotsFrom] at h
  | x :: l, s, i, j, a, b, o, hij, h, h', ho => by
    obtain ⟨j, rfl⟩ : ∃ j', j = j' + 1 := ⟨j - 1, by omega⟩
    simp only [slotsFrom, List.getElem?_cons_succ] at h'
    cases i with
    | zero =>
      simp [slotsFrom] at h ho
      subst h; subst ho
      have hl : j < l.length := by
        have : ∀ (l : List Oper) (s : Nat), (slotsFrom s l).length = l.length := by
          intro l
          induction l with
          | nil => intro s; rfl
          | cons x l ih => intro s; simp [slotsFrom, ih]
        rw [← this l (s + wd x)]
        exact (List.getElem?_eq_some_iff.1 h').1
      exact (slots_facts h' (List.getElem?_eq_getElem hl)).1
    | succ i =>
      simp only [slotsFrom, List.getElem?_cons_succ] at h ho
      exact slots_lt (by omega) h h' ho

section
variable {β0 : Bm} {H0 : List Blk} {w0 : World} {β : Bm} {H : List Blk} {w : World} {P : Program} {Γ : Ctx} {E : List (Oper × Deed)} {S0 : St} {nt : Nat} {ops : Array Oper} {Q : Exit → Act → World → Prop}

def RelD (β0 : Bm) (H0 : List Blk) (w0 : World) (nt : Nat) (E : List (Oper × Deed)) (S0 : St) (L : List Nat) (a : Act) (w : World) : Prop :=
  ∃ β, Inv β0 H0 w0 β (sOf E S0 L).H w ∧ RTm β (sOf E S0 L).H (sOf E S0 L).tm a.tmps ∧ a.tmps.size = nt ∧ a.defers = [] ∧ ∀ i p, E[i]? = some p → i ∉ L → ∀ t, p.2.slot ≤ t → t < p.2.slot + wd p.1 → β t = none

theorem Rel.eqS {st st' : St} {a : Act} (h : Rel β0 H0 w0 nt st a w) (e : EqS st st') : Rel β0 H0 w0 nt st' a w := by
  obtain ⟨β, h1, h2, h3, h4⟩ := h
  exact ⟨β, by rw [← e.2]; exact h1, fun d => by rw [← e.1 d, ← e.2]; exact h2 d, h3, h4⟩

theorem getD_lt {listed : Array Bool} {i : Nat} (h : listed.getD i true = false) : i < listed.size ∧ listed.getD i false = false := by
  by_cases hi : i < listed.size
  · refine ⟨hi, ?_⟩
    simp [hi] at h ⊢; exact h
  · simp [hi] at h
theorem getD_set {listed : Array Bool} {i j : Nat} (hi : i < listed.size) : (listed.setIfInBounds i true).getD j false = if i = j then true else listed.getD j false := by
  by_cases e : i = j
  · subst e; rw [if_pos rfl]; simp [hi]
  · rw [if_neg e]; exact getD_set_ne false e
theorem ready_nil {listed : Array Bool} (h : ∀ i, i < listed.size → listed.getD i false = true) : Region.ready .any ops listed = [] := by
  rw [List.eq_nil_iff_forall_not_mem]
  intro i hi
  rw [mem_ready] at hi
  obtain ⟨h1, h2⟩ := getD_lt hi.1
  rw [h i h1] at h2; cases h2

theorem any_sound (hT : chkTab P Γ.ty = true) (hS : SumOk P Γ) (hE : E.map (·.1) = ops.toList.take E.length) (hn : E.length ≤ ops.size) (haft : aftOk 0 ops.toList = true)
    (hlast : ∀ i, E.length ≤ i → i < ops.size → ∀ j, j < E.length → bitOf (befs ops.toList []) i j = true) (hI : Inds E ops.toList (befs ops.toList []))
    (hev : ∀ j p, E[j]? = some p → Evs Γ nt ops.toList p (runE (E.take j) S0).tm (runE (E.take j) S0).H)
    (hs1 : ∀ (i : Nat) (p : Oper × Deed), E[i]? = some p → H0.length ≤ p.2.slot ∧ p.2.slot + wd p.1 ≤ S0.H.length) (hs2 : ∀ (i j : Nat) (p q : Oper × Deed), i < j → E[i]? = some p → E[j]? = some q → p.2.slot + wd p.1 ≤ q.2.slot)
    (hfin : ∀ (listed : Array Bool) (a : Act) (w : World) (fuel : Nat), listed.size = ops.size → (∀ i, i < E.length → listed.getD i false = true) → (∀ i, E.length ≤ i → listed.getD i false = false) → ops.size - E.length ≤ fuel →
      Rel β0 H0 w0 nt (runE E S0) a w → wpAny P .any ops Q fuel listed a w) :
    ∀ (fuel : Nat) (listed : Array Bool) (L : List Nat) (a : Act) (w : World), Done E ops.toList (befs ops.toList []) L → (∀ i, i < E.length → (i ∈ L ↔ listed.getD i false = true)) → listed.size = ops.size → (∀ i, E.length ≤ i → listed.getD i false = false) →
      RelD β0 H0 w0 nt E S0 L a w → (List.range E.length).countP (fun i => !listed.getD i false) + (ops.size - E.length) ≤ fuel → wpAny P .any ops Q fuel listed a w := by
  intro fuel
  induction fuel with
  | zero =>
    intro listed L a w hD hL hsz hge hR hc
    have hall : ∀ i, i < E.length → listed.getD i false = true := by
      intro i hi
      cases hg : listed.getD i false with
      | true => rfl
      | false =>
        have : 0 < (List.range E.length).countP (fun i => !listed.getD i false) := List.countP_pos_iff.2 ⟨i, by simpa using hi, by rw [hg]; rfl⟩
        omega
    refine hfin listed a w 0 hsz hall hge (by omega) ?_
    obtain ⟨β, h1, h2, h3, h4, _⟩ := hR
    exact Rel.eqS ⟨β, h1, h2, h3, h4⟩ (hD.all_ fun i hi => (hL i hi).2 (hall i hi))
  | succ fuel ih =>
    intro listed L a w hD hL hsz hge hR hc
    by_cases hall : ∀ i, i < E.length → listed.getD i false = true
    · refine hfin listed a w (fuel + 1) hsz hall hge (by omega) ?_
      obtain ⟨β, h1, h2, h3, h4, _⟩ := hR
      exact Rel.eqS ⟨β, h1, h2, h3, h4⟩ (hD.all_ fun i hi => (hL i hi).2 (hall i hi))
    · -- what is ready waits for done operations alone
      have hbits : ∀ i ∈ Region.ready .any ops listed, i ∉ L ∧ i < listed.size ∧ listed.getD i false = false ∧ ∀ j, bitOf (befs ops.toList []) i j = true → j ∈ L := by
        intro i hi
        rw [mem_ready] at hi
        obtain ⟨h0, o, ho, haf⟩ := hi
        obtain ⟨h1, h2⟩ := getD_lt h0
        refine ⟨fun hin => ?_, h1, h2, fun j hj => ?_⟩
        · have := (hL i (hD.lt i hin)).1 hin
          rw [h2] at this; cases this
        · unfold bitOf at hj
          split at hj
          · rename_i m hm
            obtain ⟨e, e1, e2, e3⟩ := befs_bit ops.toList [] i o (by simpa using ho) m j (by simpa using hm) hj
            have hle := haf e e1 e2
            have hlt : e.on < E.length := by
              rcases Nat.lt_or_ge e.on E.length with h | h
              · exact h
              · rw [hge _ h] at hle; cases hle
            have hin := (hL _ hlt).2 hle
            rcases e3 with rfl | ⟨m', e4, e5⟩
            · exact hin
            · refine hD.cl _ hin j ?_
              unfold bitOf
              rw [e4]; exact e5
          · cases hj
      refine ⟨fun hr => ?_, fun i hi => ?_⟩
      · -- the first that is not done is ready
        exfalso
        apply hall
        intro i hi
        induction i using Nat.strongRecOn with
        | ind i ih2 =>
          cases hg : listed.getD i false with
          | true => rfl
          | false =>
            exfalso
            have hil : i < ops.toList.length := by simp; omega
            have : i ∈ Region.ready .any ops listed := by
              rw [mem_ready]
              refine ⟨?_, _, by rw [← Array.getElem?_toList]; exact List.getElem?_eq_getElem hil, fun e he hb => ?_⟩
              · have : i < listed.size := by omega
                simp [this] at hg ⊢; exact hg
              · have := aftOk_spec haft i _ (List.getElem?_eq_getElem hil) e he hb
                exact ih2 e.on (by omega) (by omega)
            rw [hr] at this; cases this
      · obtain ⟨hnL, hlt, hun, hb⟩ := hbits i hi
        by_cases hin : i < E.length
        · obtain ⟨β, k1, k2, k3, k4, k5⟩ := hR
          have hp := List.getElem?_eq_getElem hin
          generalize E[i] = p at hp
          have hoi : ops[i]? = some p.1 := by
            have h1 : (E.map (·.1))[i]? = some p.1 := by simp [hp]
            rw [hE, List.getElem?_take_of_lt hin] at h1
            simpa using h1
          have hreadT : ∀ d, looks ops.toList p.1 d → get (sOf E S0 L).tm d = get (runE (E.take i) S0).tm d := fun d hd => by
            rw [← sOf_range i (by omega)]
            exact get_sOf _ _ d (hD.reads hI hp hnL hb T_no fun j q hj hq hind => by
              obtain ⟨q', g1, g2⟩ := wT_true hj
              rw [hq] at g1; cases g1
              exact hind.b d g2 hd)
          have hreadB : SameBlk p.2.rd (runE (E.take i) S0).H (sOf E S0 L).H := fun t ht => by
            rw [← sOf_range i (by omega)]
            exact nth_sOf _ _ t (hD.reads hI hp hnL hb B_no fun j q hj hq hind => by
              obtain ⟨q', g1, g2⟩ := wB_true hj
              rw [hq] at g1; cases g1
              exact hind.d t g2 ht)
          have hEv := (hev i p hp).local_ hreadT hreadB
          have hst : sOf E S0 (L ++ [i]) = ap p (sOf E S0 L) := by
            have : sOf E S0 (L ++ [i]) = apI E (sOf E S0 L) i := by simp [sOf, List.foldl_append]
            rw [this]; unfold apI; rw [hp]
          have hgo := deed_sound (K := wpAny P .any ops Q fuel (listed.setIfInBounds i true)) (Q := Q) hT hS k1 k2 k3 k4 (hs1 i p hp).1 (by rw [len_sOf]; exact (hs1 i p hp).2) (k5 i p hp hnL) hEv (fun β' a' w' q1 q2 q3 q4 q5 => by
            refine ih _ (L ++ [i]) a' w' (hD.step hI hin hnL hb) (fun j hj => ?_) (by simp [hsz]) (fun j hj => ?_) ⟨β', by rw [hst]; exact q1, by rw [hst]; exact q2, q3, q4, fun j q hq hnj t t1 t2 => ?_⟩ ?_
            · rw [getD_set hlt, List.mem_append, List.mem_singleton]
              by_cases e : i = j
              · subst e; simp
              · rw [if_neg e, ← hL j hj]
                exact ⟨fun h => h.elim id fun h => absurd h.symm e, .inl⟩
            · rw [getD_set hlt, if_neg (by omega)]; exact hge j hj
            · simp only [List.mem_append, List.mem_singleton, not_or] at hnj
              refine q5 t (fun ⟨u1, u2⟩ => ?_) (k5 j q hq hnj.1 t t1 t2)
              rcases Nat.lt_trichotomy i j with h | h | h
              · have := hs2 i j p q h hp hq; omega
              · exact hnj.2 h.symm
              · have := hs2 j i q p h hq hp; omega
            · have := countP_lt (p := fun j => !listed.getD j false) (q := fun j => !(listed.setIfInBounds i true).getD j false) (l := List.range E.length) (fun x _ hx => by
                simp only [getD_set hlt] at hx
                by_cases e : i = x
                · rw [if_pos e] at hx; cases hx
                · rw [if_neg e] at hx; exact hx) ⟨i, by simpa using hin, by rw [hun]; rfl, by rw [getD_set hlt, if_pos rfl]; rfl⟩
              omega)
          unfold wpOp
          rw [hoi]
          simp only
          split
          · rename_i hw; rw [if_pos hw] at hgo; exact .inl hgo
          · rename_i hw; rw [if_neg hw] at hgo; exact hgo
        · exfalso
          apply hall
          intro j hj
          exact (hL j hj).1 (hb j (hlast i (by omega) (by omega) j hj))

theorem splitLast_spec : ∀ {ops l : List Oper} {o : Oper}, splitLast ops = some (l, o) → ops = l ++ [o]
  | [], l, o, h => by cases h
  | [x], l, o, h => by simp only [splitLast] at h; cases h; rfl
  | x :: y :: r, l, o, h => by
    simp only [splitLast] at h
    split at h
    · rename_i l' o' h'
      cases h
      have := splitLast_spec (ops := y :: r) h'
      rw [this]; rfl
    · cases h
theorem allBits_spec {m : Nat} : ∀ {n : Nat}, allBits m n = true → ∀ j, j < n → m.testBit j = true
  | 0, _, j, hj => by omega
  | n + 1, h, j, hj => by
    simp only [allBits] at h
    split at h
    · rename_i hb
      rcases Nat.lt_or_ge j n with hj' | hj'
      · exact allBits_spec h j hj'
      · obtain rfl : j = n := by omega
        exact hb
    · cases h

theorem draw_any {R : Type} (hT : chkTab P Γ.ty = true) {hd : FuncId → List AV → List Blk → (AV → List Blk → Option R) → Option R} (hH : HdOk P hd) (hS : SumOk P Γ) (hm : P.follows .mixedOrders = true) {st : St} {a : Act} (hR : Rel β0 H0 w0 nt st a w)
    (hs : slotsOk ops (befs ops.toList []) 0 ops.toList = true) (haft : aftOk 0 ops.toList = true) {k : St → Option R} {r : R}
    (h : (match lastOf ops.toList with
      | none => evDs Γ nt ops.toList 0 st.H.length ops.toList ⟨st.tm, st.H ++ phs (room * makes ops.toList)⟩ [] fun st' log => match okLog (befs ops.toList []) log with
        | true => k st'
        | false => none
      | some (l, o) => evDs Γ nt ops.toList 0 st.H.length l ⟨st.tm, st.H ++ phs (room * makes l)⟩ [] fun st' log => match okLog (befs ops.toList []) log with
        | true => evOper Γ hd nt ops.toList o st' k
        | false => none) = some r)
    (hQ : ∀ st' a' w', Rel β0 H0 w0 nt st' a' w' → k st' = some r → Q .normal a' w') : wpAny P .any ops Q ops.size (Array.replicate ops.size false) a { w with drawn := w.drawn + 1 } := by
  -- the start
  have start : ∀ (l : List Oper) (E : List (Oper × Deed)), E.map (·.1) = l → E.map (·.2.slot) = slotsFrom st.H.length l →
      (Done E ops.toList (befs ops.toList []) []) ∧ RelD β0 H0 w0 nt E ⟨st.tm, st.H ++ phs (room * makes l)⟩ [] a { w with drawn := w.drawn + 1 } ∧
      (∀ (i : Nat) (p : Oper × Deed), E[i]? = some p → H0.length ≤ p.2.slot ∧ p.2.slot + wd p.1 ≤ (st.H ++ phs (room * makes l)).length) ∧ (∀ (i j : Nat) (p q : Oper × Deed), i < j → E[i]? = some p → E[j]? = some q → p.2.slot + wd p.1 ≤ q.2.slot) := by
    intro l E e1 e2
    obtain ⟨β, hI, hv, hsz, hdf⟩ := hR
    have hget : ∀ {i : Nat} {p : Oper × Deed}, E[i]? = some p → (slotsFrom st.H.length l)[i]? = some p.2.slot ∧ l[i]? = some p.1 := fun {i p} hp =>
      ⟨by rw [← e2]; simp [hp], by rw [← e1]; simp [hp]⟩
    have hlen : (st.H ++ phs (room * makes l)).length = st.H.length + room * makes l := by simp [phs_length]
    refine ⟨⟨List.nodup_nil, (fun i hi => by cases hi), (fun i hi => by cases hi), .nil⟩, ⟨cutB β st.H.length, ?_, ?_, hsz, hdf, fun i p hp _ t h1 h2 => ?_⟩, fun i p hp => ?_, fun i j p q hij hp hq => ?_⟩
    · exact (hI.phs _).same (Same.drew w)
    · exact hv.move (mv_phs β st.H _)
    · obtain ⟨g1, g2⟩ := hget hp
      have := (slots_facts g1 g2).1
      exact cutB_ge _ (by omega)
    · obtain ⟨g1, g2⟩ := hget hp
      have := slots_facts g1 g2
      have := hI.ext.len
      rw [hlen]
      omega
    · obtain ⟨g1, g2⟩ := hget hp
      obtain ⟨g3, g4⟩ := hget hq
      exact slots_lt hij g1 g3 g2
  have hsize : (Array.replicate ops.size false).size = ops.size := by simp
  have hfalse : ∀ i, (Array.replicate ops.size false).getD i false = false := by
    intro i
    by_cases hi : i < ops.size <;> simp [hi]
  have hcnt : ∀ n, (List.range n).countP (fun i => !(Array.replicate ops.size false).getD i false) ≤ n := fun n => by
    refine Nat.le_trans List.countP_le_length (by simp)
  split at h
  · obtain ⟨E, st', log', e1, e2, e3, e4, e5, e6⟩ := evDs_split h
    split at e3
    · rename_i hlog
      obtain ⟨hD, hRD, hs1, hs2⟩ := start _ E e1 e2
      have hEl : E.length = ops.size := by rw [← List.length_map (f := (·.1)), e1]; simp
      have hE : E.map (·.1) = ops.toList.take E.length := by rw [e1, hEl]; exact (List.take_of_length_le (by simp)).symm
      rw [List.append_nil] at e6
      subst e6
      have hI := inds_of hE e4 hs hlog
      refine any_sound hT hS hE (by omega) haft (fun i h1 h2 => by omega) hI e4 hs1 hs2 (fun listed a w fuel h1 h2 h3 h4 h5 => ?_) _ _ [] a _ hD (fun i hi => ?_) hsize (fun i _ => hfalse i) hRD ?_
      · exact wpAny_done (ready_nil fun i hi => h2 i (by omega)) (hQ st' a w (h5.eqS ⟨fun d => (e5.1 d).symm, e5.2.symm⟩) e3) fuel
      · rw [hfalse i]; simp
      · have := hcnt E.length; omega
    · cases e3
  · rename_i l o hlo
    obtain ⟨E, st', log', e1, e2, e3, e4, e5, e6⟩ := evDs_split h
    split at e3
    · rename_i hlog
      obtain ⟨hD, hRD, hs1, hs2⟩ := start _ E e1 e2
      -- the last operation
      have hfacts : ops.toList = l ++ [o] ∧ ∀ j, j < l.length → bitOf (befs ops.toList []) l.length j = true := by
        unfold lastOf at hlo
        split at hlo
        · rename_i l' o' hsp
          split at hlo
          · split at hlo
            · rename_i hb
              have hb' : l = l' ∧ o = o' := by
                split at hlo
                · split at hlo
                  · cases hlo; exact ⟨rfl, rfl⟩
                  · cases hlo
                · cases hlo
              obtain ⟨rfl, rfl⟩ := hb'
              refine ⟨splitLast_spec hsp, fun j hj => ?_⟩
              unfold bitOf
              rw [← nth_eq]
              cases hm : nth (befs ops.toList []) l.length with
              | none => rw [hm] at hb; cases hb
              | some m => rw [hm] at hb; exact allBits_spec hb j hj
            · cases hlo
          · cases hlo
        · cases hlo
      obtain ⟨hops, hbits⟩ := hfacts
      have hlen : ops.size = l.length + 1 := by have := congrArg List.length hops; simpa using this
      have hEl : E.length = l.length := by rw [← List.length_map (f := (·.1)), e1]
      have hE : E.map (·.1) = ops.toList.take E.length := by rw [e1, hEl, hops]; simp
      rw [List.append_nil] at e6
      subst e6
      have hI := inds_of hE e4 hs hlog
      refine any_sound hT hS hE (by omega) haft (fun i h1 h2 j hj => ?_) hI e4 hs1 hs2 (fun listed a w fuel h1 h2 h3 h4 h5 => ?_) _ _ [] a _ hD (fun i hi => ?_) hsize (fun i _ => hfalse i) hRD ?_
      · obtain rfl : i = l.length := by omega
        exact hbits j (by omega)
      · obtain ⟨fuel, rfl⟩ : ∃ f, fuel = f + 1 := ⟨fuel - 1, by omega⟩
        have hol : ops[l.length]? = some o := by rw [← Array.getElem?_toList, hops]; simp
        have hun := h3 l.length (by omega)
        have hlt : l.length < listed.size := by omega
        refine ⟨fun hr => ?_, fun i hi => ?_⟩
        · exfalso
          have : l.length ∈ Region.ready .any ops listed := by
            rw [mem_ready]
            refine ⟨by simp [hlt] at hun ⊢; exact hun, o, hol, fun e he hb => ?_⟩
            have := aftOk_spec haft l.length o (by simpa using hol) e he hb
            exact h2 e.on (by omega)
          rw [hr] at this; cases this
        · rw [mem_ready] at hi
          obtain ⟨g1, g2⟩ := getD_lt hi.1
          have hil : i = l.length := by
            rcases Nat.lt_or_ge i E.length with h | h
            · rw [h2 i h] at g2; cases g2
            · omega
          subst hil
          have hgo := evOper_sound (K := wpAny P .any ops Q fuel (listed.setIfInBounds l.length true)) (Q := Q) hT hH hS (h5.eqS ⟨fun d => (e5.1 d).symm, e5.2.symm⟩) e3 fun st2 a2 w2 q1 q2 =>
            wpAny_done (ready_nil fun i hi => by
              rw [getD_set hlt]
              by_cases e : l.length = i
              · rw [if_pos e]
              · rw [if_neg e]; exact h2 i (by simp at hi; omega)) (hQ st2 a2 w2 q1 q2) fuel
          unfold wpOp
          rw [hol]
          simp only
          split
          · rename_i hw; rw [if_pos hw] at hgo; exact .inl hgo
          · rename_i hw; rw [if_neg hw] at hgo; exact hgo
      · rw [hfalse i]; simp
      · have := hcnt E.length; omega
    · cases e3
theorem draw_sound {R : Type} (hT : chkTab P Γ.ty = true) {hd : FuncId → List AV → List Blk → (AV → List Blk → Option R) → Option R} (hH : HdOk P hd) (hS : SumOk P Γ) (hm : P.follows .mixedOrders = true) {id : Nat} {st : St} {a : Act} (hR : Rel β0 H0 w0 nt st a w)
    (hs : slotsOk ops (befs ops.toList []) 0 ops.toList = true) (haft : aftOk 0 ops.toList = true) {k : St → Option R} {r : R}
    (h : (match lastOf ops.toList with
      | none => evDs Γ nt ops.toList 0 st.H.length ops.toList ⟨st.tm, st.H ++ phs (room * makes ops.toList)⟩ [] fun st' log => match okLog (befs ops.toList []) log with
        | true => k st'
        | false => none
      | some (l, o) => evDs Γ nt ops.toList 0 st.H.length l ⟨st.tm, st.H ++ phs (room * makes l)⟩ [] fun st' log => match okLog (befs ops.toList []) log with
        | true => evOper Γ hd nt ops.toList o st' k
        | false => none) = some r)
    (hQ : ∀ st' a' w', Rel β0 H0 w0 nt st' a' w' → k st' = some r → Q .normal a' w') : (Code.region id ops true).wp P Q a w :=
  wp_region_any hm (draw_any hT hH hS hm hR hs haft h hQ)
end
end Go.Rf

/-
  The evaluator answers what the model's runs come to: code.
-/
set_option linter.unusedVariables false
set_option linter.unusedSimpArgs false
namespace Go.Rf
open Go

section
variable {β0 : Bm} {H0 : List Blk} {w0 : World} {β : Bm} {H : List Blk} {w : World} {P : Program} {Γ : Ctx}

def WkA (a a' : At) : Prop := a' = a ∨ (a = .nilsl ∧ ∃ t sz, a' = .sl t 0 0 sz)
def WkT : TV → TV → Prop
  | .one a, .one b => WkA a b
  | .agg as, .agg bs => All2 WkA as bs
  | _, _ => False
def WkV : AV → AV → Prop
  | .top, .top => True
  | .v x, .v y => WkT x y
  | .tup xs, .tup ys => All2 WkT xs ys
  | _, _ => False
def WkB (b b' : Blk) : Prop := b'.own = b.own ∧ (b'.body = b.body ∨ ∃ cs cs', b.body = .cells cs ∧ b'.body = .cells cs' ∧ All2 WkA cs cs')
theorem WkB.size {b b' : Blk} (h : WkB b b') : b'.body.size = b.body.size := by
  rcases h.2 with e | ⟨cs, cs', e1, e2, e3⟩
  · rw [e]
  · rw [e1, e2]; exact e3.length.symm
theorem WkB.dead {b b' : Blk} (h : WkB b b') : isDead b'.body = isDead b.body := by
  rcases h.2 with e | ⟨cs, cs', e1, e2, e3⟩
  · rw [e]
  · rw [e1, e2]; rfl
theorem WkB.get {b b' : Blk} (h : WkB b b') {j : Nat} {a' : At} (ha : b'.body.get j = some a') : ∃ a, b.body.get j = some a ∧ WkA a a' := by
  rcases h.2 with e | ⟨cs, cs', e1, e2, e3⟩
  · rw [e] at ha; exact ⟨a', ha, .inl rfl⟩
  · rw [e2] at ha
    rw [e1]
    simp only [Body.get, nth_eq] at ha ⊢
    have hlen := e3.length
    have hj : j < cs'.length := (List.getElem?_eq_some_iff.1 ha).1
    obtain ⟨a'', h1, h2⟩ := e3.get j cs[j] (List.getElem?_eq_getElem (by omega))
    rw [ha] at h1
    cases h1
    exact ⟨_, List.getElem?_eq_getElem (by omega), h2⟩

theorem All2.of_nth {H H' : List Blk} (h : All2 WkB H H') : (∀ t b', nth H' t = some b' → ∃ b, nth H t = some b ∧ WkB b b') ∧ (∀ t, szH H' t = szH H t) := by
  have hlen := h.length
  have h1 : ∀ t b', nth H' t = some b' → ∃ b, nth H t = some b ∧ WkB b b' := by
    intro t b' hb
    rw [nth_eq] at hb
    have ht : t < H'.length := (List.getElem?_eq_some_iff.1 hb).1
    obtain ⟨b'', g1, g2⟩ := h.get t H[t] (List.getElem?_eq_getElem (by omega))
    rw [hb] at g1
    cases g1
    exact ⟨_, by rw [nth_eq]; exact List.getElem?_eq_getElem (by omega), g2⟩
  refine ⟨h1, fun t => ?_⟩
  by_cases ht : t < H'.length
  · obtain ⟨b', hb'⟩ : ∃ b', nth H' t = some b' := ⟨H'[t], by rw [nth_eq]; exact List.getElem?_eq_getElem ht⟩
    obtain ⟨b, hb, hw⟩ := h1 t b' hb'
    rw [szH_of hb', szH_of hb, hw.size]
  · have e1 : nth H' t = none := by rw [nth_eq]; exact List.getElem?_eq_none (by omega)
    have e2 : nth H t = none := by rw [nth_eq]; exact List.getElem?_eq_none (by omega)
    simp [szH, e1, e2]

theorem WkA.rel {β : Bm} {H : List Blk} {a a' : At} {v : Value} (h : WkA a a') (hv : RAt β H a v) : RAt β H a' v := by
  rcases h with rfl | ⟨rfl, t, sz, rfl⟩
  · exact hv
  · exact .inr ⟨rfl, hv⟩
theorem WkAs.rel {β : Bm} {H : List Blk} : ∀ {as as' : List At} {vs : List Value}, All2 WkA as as' → All2 (RAt β H) as vs → All2 (RAt β H) as' vs
  | [], [], [], .nil, .nil => .nil
  | a :: as, b :: bs, v :: vs, .cons h1 h2, .cons k1 k2 => .cons (h1.rel k1) (WkAs.rel h2 k2)
theorem WkT.rel {β : Bm} {H : List Blk} {x y : TV} {v : Value} (h : WkT x y) (hv : RT β H x v) : RT β H y v := by
  cases x <;> cases y <;> first | exact h.elim | skip
  · exact WkA.rel h hv
  · obtain ⟨arr, h1, h2⟩ := hv
    exact ⟨arr, h1, WkAs.rel h h2⟩
theorem WkTs.rel {β : Bm} {H : List Blk} : ∀ {as as' : List TV} {vs : List Value}, All2 WkT as as' → All2 (RT β H) as vs → All2 (RT β H) as' vs
  | [], [], [], .nil, .nil => .nil
  | a :: as, b :: bs, v :: vs, .cons h1 h2, .cons k1 k2 => .cons (h1.rel k1) (WkTs.rel h2 k2)
theorem WkV.rel {β : Bm} {H : List Blk} {x y : AV} {v : Value} (h : WkV x y) (hv : RV β H x v) : RV β H y v := by
  cases x <;> cases y <;> first | exact h.elim | skip
  · trivial
  · exact WkT.rel h hv
  · obtain ⟨arr, h1, h2⟩ := hv
    exact ⟨arr, h1, WkTs.rel h h2⟩

theorem Inv.weak (h : Inv β0 H0 w0 β H w) {H' : List Blk} (hk : All2 WkB H H') : Inv β0 H0 w0 β H' w ∧ ∀ t, Mv β H β H' t := by
  obtain ⟨k1, k2⟩ := hk.of_nth
  have hlen := hk.length
  have hmv : ∀ t, Mv β H β H' t := fun t x hx ht => ⟨hx, by omega, by rw [k2]; exact Nat.le_refl _⟩
  refine ⟨⟨⟨fun t b' hb' => ?_, fun t t' b b' x x' hne h1 h2 ho hd hx hx' => ?_⟩, h.agree, ⟨by have := h.ext.len; omega, fun t ht => by rw [k2]; exact h.ext.size t ht⟩, fun B hB => ?_, h.fr⟩, hmv⟩
  · obtain ⟨b, hb, hw⟩ := k1 t b' hb'
    have := h.wr.blk t b hb
    split
    · rename_i e; rw [e] at this; rw [hw.size]; exact this
    · rename_i B o C e
      rw [e] at this
      refine ⟨fun j a' q1 q2 => ?_, fun ho => ?_, this.lt⟩
      · obtain ⟨a, g1, g2⟩ := hw.get q2
        obtain ⟨v, g3, g4⟩ := this.cell j a (by rw [← hw.size]; exact q1) g1
        exact ⟨v, g3, g2.rel (g4.move fun t _ => hmv t)⟩
      · obtain ⟨g1, g2, g3⟩ := this.own (by rw [← hw.1]; exact ho)
        exact ⟨g1, by rw [hw.dead]; exact g2, g3⟩
  · obtain ⟨c, hc, hw⟩ := k1 t b h1
    obtain ⟨c', hc', hw'⟩ := k1 t' b' h2
    exact h.wr.sep t t' c c' x x' hne hc hc' (by rw [← hw.1]; exact ho) (by rw [← hw'.dead]; exact hd) hx hx'
  · obtain ⟨t, b, o, C, h1, h2, h3⟩ := hB
    obtain ⟨c, hc, hw⟩ := k1 t b h1
    exact h.own B ⟨t, c, o, C, hc, by rw [← hw.1]; exact h2, h3⟩

theorem Inv.rows (h : Inv β0 H0 w0 β H w) {new : List Blk} (hn : ∀ b ∈ new, b.body.size = 0) : Inv β0 H0 w0 (cutB β H.length) (H ++ new) w ∧ ∀ t, Mv β H (cutB β H.length) (H ++ new) t := by
  have hlen := h.ext.len
  have hmv : ∀ t, Mv β H (cutB β H.length) (H ++ new) t := fun t x hx ht =>
    ⟨by rw [cutB_lt _ ht]; exact hx, by simp; omega, by unfold szH; rw [nth_app, if_pos ht]; exact Nat.le_refl _⟩
  have old : ∀ {t : Nat} {b : Blk} {x}, nth (H ++ new) t = some b → cutB β H.length t = some x → nth H t = some b ∧ β t = some x := by
    intro t b x hb hx
    by_cases ht : t < H.length
    · rw [nth_app, if_pos ht] at hb
      rw [cutB_lt _ ht] at hx
      exact ⟨hb, hx⟩
    · rw [cutB_ge _ (by omega)] at hx; cases hx
  refine ⟨⟨⟨fun t b hb => ?_, fun t t' b b' x x' hne h1 h2 ho hd hx hx' => ?_⟩, fun t x ht hx => ?_, ⟨by simp; omega, fun t ht => ?_⟩, fun B hB => ?_, h.fr⟩, hmv⟩
  · by_cases ht : t < H.length
    · rw [nth_app, if_pos ht] at hb
      rw [cutB_lt _ ht]
      have := h.wr.blk t b hb
      split
      · rename_i e; rw [e] at this; exact this
      · rename_i B o C e
        rw [e] at this
        exact ⟨fun j a q1 q2 => (this.cell j a q1 q2).imp fun v hv => ⟨hv.1, hv.2.move fun t _ => hmv t⟩, this.own, this.lt⟩
    · rw [cutB_ge _ (by omega)]
      rw [nth_app, if_neg ht] at hb
      have : b ∈ new := by rw [nth_eq] at hb; exact List.mem_of_getElem? hb
      exact hn b this
  · obtain ⟨k1, k2⟩ := old h1 hx
    obtain ⟨k3, k4⟩ := old h2 hx'
    exact h.wr.sep t t' b b' x x' hne k1 k3 ho hd k2 k4
  · rw [cutB_lt _ (by omega)]; exact h.agree t x ht hx
  · refine Nat.le_trans (h.ext.size t ht) ?_
    unfold szH
    rw [nth_app, if_pos (by omega)]
    exact Nat.le_refl _
  · obtain ⟨t, b, o, C, h1, h2, h3⟩ := hB
    obtain ⟨k1, k2⟩ := old h1 h3
    exact h.own B ⟨t, b, o, C, k1, h2, k2⟩

def DNok (s : DN) : Prop := ∀ b ∈ s.new, b.body.size = 0
theorem dnA_ok {κ : Nat → RowK × Nat} {s : DN} (hs : DNok s) (a : At) : WkA a (dnA κ s a).1 ∧ DNok (dnA κ s a).2 := by
  unfold dnA
  split
  · refine ⟨.inr ⟨rfl, _, _, rfl⟩, fun b hb => ?_⟩
    rcases List.mem_append.1 hb with hb | hb
    · exact hs b hb
    · simp only [List.mem_singleton] at hb
      subst hb
      exact mtRow_size _
  · exact ⟨.inl rfl, hs⟩
theorem dnL_ok {κ : Nat → RowK × Nat} : ∀ {l : List At} {s : DN}, DNok s → All2 WkA l (dnL κ s l).1 ∧ DNok (dnL κ s l).2
  | [], s, hs => ⟨.nil, hs⟩
  | a :: r, s, hs => by
    obtain ⟨h1, h2⟩ := dnA_ok (κ := κ) hs a
    obtain ⟨h3, h4⟩ := dnL_ok (κ := κ) (l := r) h2
    exact ⟨.cons h1 h3, h4⟩
theorem dnT_ok {κ : Nat → RowK × Nat} {s : DN} (hs : DNok s) (x : TV) : WkT x (dnT κ s x).1 ∧ DNok (dnT κ s x).2 := by
  cases x with
  | one a => exact dnA_ok hs a
  | agg cs => exact dnL_ok hs
theorem dnTs_ok {κ : Nat → RowK × Nat} : ∀ {l : List TV} {s : DN}, DNok s → All2 WkT l (dnTs κ s l).1 ∧ DNok (dnTs κ s l).2
  | [], s, hs => ⟨.nil, hs⟩
  | a :: r, s, hs => by
    obtain ⟨h1, h2⟩ := dnT_ok (κ := κ) hs a
    obtain ⟨h3, h4⟩ := dnTs_ok (κ := κ) (l := r) h2
    exact ⟨.cons h1 h3, h4⟩
theorem dnV_ok {κ : Nat → RowK × Nat} {s : DN} (hs : DNok s) (x : AV) : WkV x (dnV κ s x).1 ∧ DNok (dnV κ s x).2 := by
  cases x with
  | top => exact ⟨trivial, hs⟩
  | v x => exact dnT_ok hs x
  | tup vs => exact dnTs_ok hs
theorem dnM_ok {κ : Nat → RowK × Nat} : ∀ {tm : List (Nat × AV)} {s : DN}, DNok s → (∀ t, WkV (get tm t) (get (dnM κ s tm).1 t)) ∧ DNok (dnM κ s tm).2
  | [], s, hs => ⟨fun t => trivial, hs⟩
  | (u, v) :: r, s, hs => by
    obtain ⟨h1, h2⟩ := dnV_ok (κ := κ) hs v
    obtain ⟨h3, h4⟩ := dnM_ok (κ := κ) (tm := r) h2
    refine ⟨fun t => ?_, h4⟩
    have e1 : get ((u, v) :: r) t = if u = t then v else get r t := look_put _ _ _
    have e2 : get (dnM κ s ((u, v) :: r)).1 t = if u = t then (dnV κ s v).1 else get (dnM κ (dnV κ s v).2 r).1 t := look_put _ _ _
    rw [e1, e2]
    by_cases e : u = t
    · rw [if_pos e, if_pos e]; exact h1
    · rw [if_neg e, if_neg e]; exact h3 t
theorem dnH_ok {κ : Nat → RowK × Nat} : ∀ {H : List Blk} {s : DN}, DNok s → All2 WkB H (dnH κ s H).1 ∧ DNok (dnH κ s H).2
  | [], s, hs => ⟨.nil, hs⟩
  | b :: r, s, hs => by
    simp only [dnH]
    split
    · rename_i cs hb
      obtain ⟨h1, h2⟩ := dnL_ok (κ := κ) (l := cs) hs
      obtain ⟨h3, h4⟩ := dnH_ok (κ := κ) (H := r) h2
      exact ⟨.cons ⟨rfl, .inr ⟨cs, _, hb, rfl, h1⟩⟩ h3, h4⟩
    · obtain ⟨h3, h4⟩ := dnH_ok (κ := κ) (H := r) hs
      exact ⟨.cons ⟨rfl, .inl rfl⟩ h3, h4⟩

theorem denilL_sound {nt : Nat} {st : St} {a : Act} (h : Rel β0 H0 w0 nt st a w) (nl : List (Nat × (RowK × Nat))) (id : Nat) : Rel β0 H0 w0 nt (denilL H0.length nl id st) a w := by
  unfold denilL
  split
  · exact h
  · rename_i q hq
    obtain ⟨β, hI, hv, hs, hdf⟩ := h
    obtain ⟨m1, m2⟩ := dnM_ok (κ := fun _ => q) (tm := st.tm) (s := ⟨0, st.H.length, []⟩) (fun b hb => by cases hb)
    obtain ⟨b1, b2⟩ := dnH_ok (κ := fun _ => q) (H := st.H) m2
    obtain ⟨i1, i2⟩ := hI.weak b1
    obtain ⟨j1, j2⟩ := i1.rows b2
    obtain ⟨β', c1, c2⟩ := compact_sound j1 (dnM (fun _ => q) ⟨0, st.H.length, []⟩ st.tm).1
    refine ⟨β', c1, fun t => ?_, hs, hdf⟩
    exact c2 t _ ((m1 t).rel ((hv t).move fun u _ => (i2 u).trans (j2 u)))
theorem denilR_sound (hI : Inv β0 H0 w0 β H w) {v : AV} {u : Value} (hv : RV β H v u) (rn : List (RowK × Nat)) : ∃ β', Inv β0 H0 w0 β' (denilR rn v H).2 w ∧ RV β' (denilR rn v H).2 (denilR rn v H).1 u := by
  unfold denilR
  split
  · exact ⟨β, hI, hv⟩
  · obtain ⟨m1, m2⟩ := dnV_ok (κ := fun p => rn.getD p (.gen, 1)) (s := ⟨0, H.length, []⟩) (fun b hb => by cases hb) v
    obtain ⟨j1, j2⟩ := hI.rows m2
    exact ⟨_, j1, m1.rel (hv.move fun t _ => j2 t)⟩

theorem iter_sound {R : Type} {nt : Nat} {c : Code} {F : St → (Ex → St → Option R) → Option R} {r : R} {t1 t2 t3 : Nat}
    (hF : ∀ (st : St) (k : Ex → St → Option R) (a : Act) (w : World), Rel β0 H0 w0 nt st a w → F st k = some r → c.wp P (KP β0 H0 w0 nt k r) a w) {k : Ex → St → Option R} :
    ∀ (n : Nat) {st : St} {a : Act} {w : World}, Rel β0 H0 w0 nt st a w → iter t1 t2 t3 F n st k = some r → Code.rounds P c (KP β0 H0 w0 nt k r) n a w
  | 0, st, a, w, hR, h => by cases h
  | n + 1, st, a, w, hR, h => by
    rw [rounds_succ]
    simp only [iter] at h
    refine wp_mono (hF st _ a w hR h) fun e a' w' hq => ?_
    cases e with
    | normal => obtain ⟨st', h1, h2⟩ := hq; exact iter_sound hF n h1 h2
    | exit id => exact hq
    | ret => exact hq
    | _ => exact hq.elim

def LoopSem (P : Program) (nt : Nat) (c : Code) (F : Nat → St → Option (Bool × LO)) : Prop :=
  ∀ β0 H0 w0 st out a w, F H0.length st = some (true, out) → Rel β0 H0 w0 nt st a w → (Code.loop c).wp P (KP β0 H0 w0 nt (fun e st => some (e, st)) (pick out)) a w

theorem runLO_pick {R : Type} {k : Ex → St → Option R} {r : R} : ∀ (out : LO), runLO out k = some r → k (pick out).1 (pick out).2 = some r
  | .one e st, h => h
  | .two c x y, h => by
    cases c
    · exact runLO_pick y h
    · exact runLO_pick x h
theorem KP.pick {R : Type} {nt : Nat} {k : Ex → St → Option R} {r : R} {p : Ex × St} (hk : k p.1 p.2 = some r) {e : Exit} {a : Act} {w : World} (h : KP β0 H0 w0 nt (fun e st => some (e, st)) p e a w) : KP β0 H0 w0 nt k r e a w := by
  cases e with
  | normal => obtain ⟨st, h1, h2⟩ := h; cases h2; exact ⟨st, h1, hk⟩
  | exit id => obtain ⟨st, h1, h2⟩ := h; cases h2; exact ⟨st, h1, hk⟩
  | ret => obtain ⟨st, h1, h2⟩ := h; cases h2; exact ⟨st, h1, hk⟩
  | _ => exact h.elim

theorem evC_sound {R : Type} (hT : chkTab P Γ.ty = true) {hd : FuncId → List AV → List Blk → (AV → List Blk → Option R) → Option R} (hH : HdOk P hd) (hS : SumOk P Γ) (hm : P.follows .mixedOrders = true) {f nt : Nat} {live : List (Nat × List Nat)} {nl : List (Nat × (RowK × Nat))} {fuel : Nat} {r : R} :
    ∀ (c : Code) (hl : ∀ c' ∈ loopsIn c, LoopSem P nt c' (Γ.lp f (lid c'))) (hc : codeOk c = true) (st : St) (k : Ex → St → Option R) (a : Act) (w : World), Rel β0 H0 w0 nt st a w → evC Γ hd f H0.length nt live nl fuel c st k = some r → c.wp P (KP β0 H0 w0 nt k r) a w := by
  intro c
  induction c with
  | skip => intro hl hc st k a w hR h; exact wp_skip ⟨st, hR, h⟩
  | region id ops draw =>
    intro hl hc st k a w hR h
    simp only [evC, forceSt_eq] at h
    have fin : ∀ (st' : St) (a' : Act) (w' : World), Rel β0 H0 w0 nt st' a' w' → k .normal (clean H0.length live id st') = some r → KP β0 H0 w0 nt k r .normal a' w' := fun st' a' w' h1 h2 => ⟨_, clean_sound h1 live id, h2⟩
    split at h
    · exact wp_region_list (evOps_sound hT hH hS fin ops.toList hR h)
    · simp only [codeOk] at hc
      split at hc
      · rename_i hs
        exact draw_sound hT hH hS hm (k := fun st' => k .normal (clean H0.length live id st')) hR hs hc h fin
      · cases hc
  | seq x y ihx ihy =>
    intro hl hc st k a w hR h
    simp only [evC] at h
    simp only [codeOk] at hc
    simp only [loopsIn, List.mem_append] at hl
    split at hc
    case h_2 => cases hc
    rename_i hcx
    refine wp_seq (wp_mono (ihx (fun c' h' => hl c' (.inl h')) hcx st _ a w hR h) fun e a' w' hq => ?_)
    cases e with
    | normal => obtain ⟨st', h1, h2⟩ := hq; exact ihy (fun c' h' => hl c' (.inr h')) hc st' k a' w' h1 h2
    | exit id => exact hq
    | ret => exact hq
    | _ => exact hq.elim
  | cond x y z ihy ihz =>
    intro hl hc st k a w hR h
    simp only [evC] at h
    simp only [codeOk] at hc
    simp only [loopsIn, List.mem_append] at hl
    split at hc
    case h_2 => cases hc
    rename_i hcy
    split at h
    · rename_i b hb
      obtain ⟨β, hI, hv, hs, hdf⟩ := id hR
      have e := opnd_rel hv x
      rw [hb] at e
      have e : a.eval x = .bool b := e
      refine wp_cond e ?_
      cases b
      · exact ihz (fun c' h' => hl c' (.inr h')) hc st k a w hR h
      · exact ihy (fun c' h' => hl c' (.inl h')) hcy st k a w hR h
    · cases h
  | block id x ih =>
    intro hl hc st k a w hR h
    simp only [evC] at h
    refine wp_block (wp_mono (ih hl hc st _ a w hR h) fun e a' w' hq => ?_)
    cases e with
    | normal => exact hq
    | exit id' =>
      obtain ⟨st', h1, h2⟩ := hq
      simp only at h2
      show (if id' = id then KP β0 H0 w0 nt k r .normal a' w' else KP β0 H0 w0 nt k r (.exit id') a' w')
      split at h2
      · rename_i hb
        rw [if_pos (beq_eq hb)]
        exact ⟨st', h1, h2⟩
      · rename_i hb
        rw [if_neg (fun e => by subst e; simp [Nat.beq_refl] at hb)]
        exact ⟨st', h1, h2⟩
    | ret => exact hq
    | _ => exact hq.elim
  | loop x ih =>
    intro hl hc st k a w hR h
    simp only [evC] at h
    simp only [loopsIn, List.mem_cons] at hl
    have hR' := denilL_sound hR nl (lid x)
    split at h
    · rename_i b out hlp
      obtain ⟨hb, h⟩ := grd_inv h
      subst hb
      have hp := runLO_pick out h
      exact wp_mono (hl x (.inl rfl) β0 H0 w0 _ out a w hlp hR') fun e a' w' hq => hq.pick hp
    · exact wp_loop_rounds fuel (iter_sound (ih (fun c' h' => hl c' (.inr h')) hc) fuel hR' h)
  | exit id => intro hl hc st k a w hR h; exact wp_exit ⟨st, hR, h⟩
  | ret => intro hl hc st k a w hR h; exact wp_ret ⟨st, hR, h⟩
  | rangeFunc => intro hl hc st k a w hR h; cases h
  | scope => intro hl hc st k a w hR h; cases h
  | label => intro hl hc st k a w hR h; cases h
  | goto => intro hl hc st k a w hR h; cases h
  | refuse => intro hl hc st k a w hR h; cases h
end
end Go.Rf

/-
  The evaluator answers what the model's runs come to: functions; what a function that only looks and makes hands back.
-/
set_option linter.unusedVariables false
set_option linter.unusedSimpArgs false
namespace Go.Rf
open Go

structure FnOk (P : Program) (f : FuncId) (fi : FnI) : Prop where
  ex : ∃ fn, P.funcs[f]? = some fn ∧ fn.body = some fi.code ∧ fn.ntmps = fi.nt ∧ fn.results.toList = fi.res ∧ (fn.name == "runtime.NumGoroutine") = false
  ok : codeOk fi.code = true
def FnsOk (P : Program) (Γ : Ctx) : Prop := ∀ f fi, look Γ.fns f = some fi → (fi.ins = false → FnOk P f fi) ∧ (fi.ins = true → codeOk fi.code = true)
theorem fns_code {P : Program} {Γ : Ctx} (h : FnsOk P Γ) {f : FuncId} {fi : FnI} (hf : look Γ.fns f = some fi) : codeOk fi.code = true := by
  cases hi : fi.ins with
  | false => exact ((h f fi hf).1 hi).ok
  | true => exact (h f fi hf).2 hi
def BodySem (P : Program) (nt : Nat) (c : Code) (F : Nat → St → Option (Bool × LO)) : Prop :=
  ∀ β0 H0 w0 st out a w, F H0.length st = some (true, out) → Rel β0 H0 w0 nt st a w → c.wp P (KP β0 H0 w0 nt (fun e st => some (e, st)) (pick out)) a w
def LpOk (P : Program) (Γ : Ctx) : Prop := ∀ f fi, look Γ.fns f = some fi → (∀ c ∈ loopsIn fi.code, LoopSem P fi.nt c (Γ.lp f (lid c))) ∧ BodySem P fi.nt fi.code (Γ.lp f bodyId)

section
variable {β0 : Bm} {H0 : List Blk} {w0 : World} {β : Bm} {H : List Blk} {w : World} {P : Program} {Γ : Ctx}

theorem argTm_get : ∀ (l : List AV) (i d : Nat), get (argTm i l) d = if i ≤ d then (l[d - i]?).getD .top else .top
  | [], i, d => by simp [argTm, get, look]
  | v :: r, i, d => by
    simp only [argTm]
    rw [look_put]
    by_cases e : i = d
    · subst e; simp
    · rw [if_neg e, argTm_get r (i + 1) d]
      by_cases h : i ≤ d
      · rw [if_pos h, if_pos (by omega), show d - i = (d - (i + 1)) + 1 by omega, List.getElem?_cons_succ]
      · rw [if_neg h, if_neg (by omega)]

def resOne (tmps : Array Value) : ResultVar → Sem Value
  | .tmp t => pure (tmps.getD t undef)
  | .cell a t => do loadVar t (← asAddr (tmps.getD a undef))
theorem results_eq (fn : Func) (tmps : Array Value) : results fn tmps = (do let vs ← fn.results.mapM (resOne tmps); pure (if h : vs.size = 1 then vs[0] else .tuple vs)) := by
  unfold results
  congr 1
theorem run_resOne (hT : chkTab P Γ.ty = true) (hw : WR β H w) {tm : List (Nat × AV)} {tmps : Array Value} (hv : RTm β H tm tmps) : ∀ {rs : List ResultVar} {xs : List TV}, resTV Γ tm H rs = some xs →
    ∃ vs : List Value, (rs.mapM (resOne tmps) : Sem (List Value)).run P w = .ok vs w ∧ All2 (RT β H) xs vs
  | [], xs, h => by simp only [resTV] at h; cases h; exact ⟨[], by simp, .nil⟩
  | .tmp t :: r, xs, h => by
    simp only [resTV] at h
    split at h
    · rename_i x hx
      split at h
      · rename_i ys hys
        cases h
        obtain ⟨vs, h1, h2⟩ := run_resOne hT hw hv hys
        have e := hv t
        rw [hx] at e
        refine ⟨tmps.getD t undef :: vs, ?_, .cons e h2⟩
        simp only [List.mapM_cons, Sem.run_bind, resOne, Sem.run_pure, Result.andThen_ok]
        rw [h1]; rfl
      · cases h
    · cases h
  | .cell t T :: r, xs, h => by
    simp only [resTV] at h
    split at h
    · rename_i u off ext hx
      have e := hv t
      rw [hx] at e
      have e : RAt β H (.ptr u off ext) (tmps.getD t undef) := e
      split at h
      · rename_i i b hi hb
        have fin : ∀ {x : TV}, (i.agg = false → i.size = 1) → (match i.agg with | true => ∃ cs, getN b.body off i.size = some cs ∧ x = .agg cs | false => ∃ a, b.body.get off = some a ∧ x = .one a) → i.size ≤ ext →
            (match resTV Γ tm H r with | some xs => some (x :: xs) | none => none) = some xs → ∃ vs : List Value, ((ResultVar.cell t T :: r).mapM (resOne tmps) : Sem (List Value)).run P w = .ok vs w ∧ All2 (RT β H) xs vs := by
          intro x h1 h2 hle h
          split at h
          · rename_i ys hys
            cases h
            obtain ⟨vs, g1, g2⟩ := run_resOne hT hw hv hys
            obtain ⟨u', k1, k2⟩ := run_load_ptr (tab_fact hT hi) hw e hb hle h1 h2
            obtain ⟨B, o, C, _, _, _, he⟩ := e
            rw [he] at k1
            simp only [Instr.loadAt, Instr.sureAddr, Sem.run_bind, Sem.run_pure, Result.andThen_ok] at k1
            refine ⟨u' :: vs, ?_, .cons k2 g2⟩
            have ha : (asAddr (tmps.getD t undef)).run P w = .ok ⟨B, o + off, none⟩ w := by rw [he]; rfl
            simp only [List.mapM_cons, resOne, Sem.run_bind, ha, Sem.run_pure, Result.andThen_ok, k1]
            rw [g1]; rfl
          · cases h
        split at h
        · cases h
        · rename_i hle
          have hle := ble_le hle
          split at h
          · rename_i hag
            split at h
            · rename_i cs hcs
              exact fin (by rw [hag]; intro q; cases q) (by rw [hag]; exact ⟨cs, hcs, rfl⟩) hle h
            · cases h
          · rename_i hag
            split at h
            · rename_i hs1
              split at h
              · rename_i q hq
                split at h
                · cases h
                · exact fin (fun _ => beq_eq hs1) (by rw [hag]; exact ⟨q, hq, rfl⟩) hle h
              · cases h
            · cases h
      · cases h
    · cases h

theorem run_res (hT : chkTab P Γ.ty = true) (hw : WR β H w) {tm : List (Nat × AV)} {tmps : Array Value} (hv : RTm β H tm tmps) {fn : Func} {x : AV} (h : resAV Γ tm H fn.results.toList = some x) : ∃ v, (results fn tmps).run P w = .ok v w ∧ RV β H x v := by
  unfold resAV at h
  have arr : ∀ vs : List Value, (fn.results.toList.mapM (resOne tmps) : Sem (List Value)).run P w = .ok vs w →
      (results fn tmps).run P w = .ok (if h : vs.toArray.size = 1 then vs.toArray[0] else .tuple vs.toArray) w := by
    intro vs hvs
    rw [results_eq, Array.mapM_eq_mapM_toList]
    simp only [Sem.run_bind, Sem.run_map, hvs, Result.andThen_ok, Sem.run_pure]
  split at h
  · rename_i y hy
    cases h
    obtain ⟨vs, h1, h2⟩ := run_resOne hT hw hv hy
    cases h2 with
    | cons k1 k2 =>
      cases k2
      exact ⟨_, arr _ h1, k1⟩
  · rename_i xs hne hxs
    cases h
    obtain ⟨vs, h1, h2⟩ := run_resOne hT hw hv hxs
    have hlen : vs.length ≠ 1 := by
      rw [← h2.length]
      intro hl
      match xs, hl, hne with
      | [y], _, hne => exact hne y rfl
    refine ⟨_, arr _ h1, ?_⟩
    rw [dif_neg (by simpa using hlen)]
    exact ⟨vs.toArray, rfl, by simpa using h2⟩
  · cases h

theorem evReg_sound {R : Type} (hT : chkTab P Γ.ty = true) {hd : FuncId → List AV → List Blk → (AV → List Blk → Option R) → Option R} (hH : HdOk P hd) (hS : SumOk P Γ) (hm : P.follows .mixedOrders = true) {f : FuncId} {fi : FnI} (hok : codeOk fi.code = true) (hl : (∀ c ∈ loopsIn fi.code, LoopSem P fi.nt c (Γ.lp f (lid c))) ∧ BodySem P fi.nt fi.code (Γ.lp f bodyId)) {fuel : Nat} {r : R}
    {β0 : Bm} {H0 : List Blk} {w0 : World} {st : St} {k : Ex → St → Option R} {a : Act} {w : World} (hR : Rel β0 H0 w0 fi.nt st a w) (h : evReg Γ hd f fi fuel H0.length st k = some r) : fi.code.wp P (KP β0 H0 w0 fi.nt k r) a w := by
  unfold evReg at h
  split at h
  · exact evC_sound hT hH hS hm fi.code hl.1 hok _ _ _ w hR h
  · split at h
    · rename_i b out hlp
      obtain ⟨hb, h⟩ := grd_inv h
      subst hb
      have hp := runLO_pick out h
      exact wp_mono (hl.2 β0 H0 w0 _ out a w hlp hR) fun e a' w' hq => hq.pick hp
    · exact evC_sound hT hH hS hm fi.code hl.1 hok _ _ _ w hR h

theorem evBody_sound {R : Type} (hT : chkTab P Γ.ty = true) {hd : FuncId → List AV → List Blk → (AV → List Blk → Option R) → Option R} (hH : HdOk P hd) (hS : SumOk P Γ) (hm : P.follows .mixedOrders = true) {f : FuncId} {fi : FnI} (hf : FnOk P f fi) (hl : (∀ c ∈ loopsIn fi.code, LoopSem P fi.nt c (Γ.lp f (lid c))) ∧ BodySem P fi.nt fi.code (Γ.lp f bodyId)) {fuel : Nat} {args : List AV} {k : AV → List Blk → Option R} {r : R}
    (h : evBody Γ hd f fi fuel args H k = some r) {vals : Array Value} (hw : WR β H w) (hv : All2 (RV β H) args vals.toList) : CallRes P f vals w fun u w' => ∃ β' v H', Inv β H w β' H' w' ∧ RV β' H' v u ∧ k v H' = some r := by
  obtain ⟨⟨fn, h1, h2, h3, h4, h5⟩, hok⟩ := hf
  unfold evBody at h
  simp only [forceSt_eq] at h
  split at h
  · cases h
  · rename_i hle
    have hle := ble_le hle
    have hlen : vals.size = args.length := by rw [hv.length]; simp
    right
    refine ⟨?_, ?_⟩
    · have h5' : fn.name ≠ "runtime.NumGoroutine" := by simpa using h5
      simp [callFunc, h1, h5', h2]
    · refine calls_of_wp h1 h2 ?_
      have hR : Rel β H w fi.nt ⟨argTm 0 args, H⟩ { tmps := vals ++ Array.replicate (fn.ntmps - vals.size) undef, defers := [] } w := by
        refine ⟨β, Inv.start hw, fun d => ?_, ?_, rfl⟩
        · simp only
          rw [argTm_get, if_pos (Nat.zero_le _), Nat.sub_zero]
          by_cases hd' : d < args.length
          · obtain ⟨v, g1, g2⟩ := hv.get d _ (List.getElem?_eq_getElem hd')
            rw [List.getElem?_eq_getElem hd']
            have : (vals ++ Array.replicate (fn.ntmps - vals.size) undef).getD d undef = v := by
              rw [Array.getD_eq_getD_getElem?, Array.getElem?_append_left (by omega)]
              have : vals[d]? = some v := by simpa using g1
              rw [this]; rfl
            rw [this]; exact g2
          · rw [List.getElem?_eq_none (by omega)]; trivial
        · simp only [Array.size_append, Array.size_replicate]; omega
      refine wp_mono (evReg_sound hT hH hS hm hok hl hR h) fun e a' w' hq => ?_
      have fin : ∀ st, Rel β H w fi.nt st a' w' → (match resAV Γ st.tm st.H fi.res with
          | some v => k (get (compact H.length [(0, (denilR fi.rn v st.H).1)] (denilR fi.rn v st.H).2).tm 0) (compact H.length [(0, (denilR fi.rn v st.H).1)] (denilR fi.rn v st.H).2).H
          | none => none) = some r → a'.defers = [] ∧ ∃ v, (results fn a'.tmps).run P w' = .ok v w' ∧ ∃ u, Ending.returned v = .returned u ∧ ∃ β' x H', Inv β H w β' H' w' ∧ RV β' H' x u ∧ k x H' = some r := by
        intro st hR h
        obtain ⟨β1, hI, hv1, hs, hdf⟩ := hR
        split at h
        · rename_i x hx
          rw [← h4] at hx
          obtain ⟨v, g1, g2⟩ := run_res hT hI.wr hv1 hx
          obtain ⟨β2, d1, d2⟩ := denilR_sound hI g2 fi.rn
          obtain ⟨β', c1, c2⟩ := compact_sound d1 [(0, (denilR fi.rn x st.H).1)]
          exact ⟨hdf, v, g1, v, rfl, β', _, _, c1, c2 0 v d2, h⟩
        · cases h
      cases e with
      | normal => obtain ⟨st, q1, q2⟩ := hq; exact fin st q1 q2
      | ret => obtain ⟨st, q1, q2⟩ := hq; exact fin st q1 q2
      | exit id => obtain ⟨st, q1, q2⟩ := hq; cases q2
      | _ => exact hq.elim

theorem evFn_sound {R : Type} (hT : chkTab P Γ.ty = true) (hF : FnsOk P Γ) (hL : LpOk P Γ) (hS : SumOk P Γ) (hm : P.follows .mixedOrders = true) {fuel : Nat} : ∀ (d : Nat), HdOk (R := R) P (evFn Γ fuel d)
  | 0 => fun g args H k r h => by cases h
  | d + 1 => fun g args H k r h => by
    simp only [evFn] at h
    split at h
    · rename_i fi hfi
      intro β w vals hw hv
      split at h
      · rename_i hi
        exact insH_sound (hS.2 g (by unfold insQ; rw [hfi]; exact hi)) h hw hv
      · rename_i hi
        exact evBody_sound hT (evFn_sound hT hF hL hS hm d) hS hm ((hF g fi hfi).1 hi) (hL g fi hfi) h hw hv
    · cases h

def impA (n : Nat) : PV → At × List Blk
  | .s a => (a, [])
  | .row sz len b => (.vw n 0 len sz, [⟨false, b⟩])
def impAs : Nat → List PV → List At × List Blk
  | _, [] => ([], [])
  | n, p :: r => match impA n p with | (a, x) => match impAs (n + x.length) r with | (as, y) => (a :: as, x ++ y)
def impT (n : Nat) : PT → AV × List Blk
  | .one p => match impA n p with | (a, x) => (.v (.one a), x)
  | .agg ps => match impAs n ps with | (as, x) => (.v (.agg as), x)
  | .ptr ps => match impAs n ps with | (as, x) => (.v (.one (.ptr (n + x.length) 0 as.length)), x ++ [⟨false, .cells as⟩])
  | .fn f ps => match impAs n ps with | (as, x) => (.v (.one (.fn f as)), x)
def impTs : Nat → List PT → List AV × List Blk
  | _, [] => ([], [])
  | n, p :: r => match impT n p with | (a, x) => match impTs (n + x.length) r with | (as, y) => (a :: as, x ++ y)

def Foreign (H : List Blk) : Prop := ∀ t b, nth H t = some b → b.own = false
theorem Foreign.own {β : Bm} {H : List Blk} (h : Foreign H) (B : Nat) : ¬ OwnB β H B := fun ⟨t, b, o, C, h1, h2, h3⟩ => by rw [h t b h1] at h2; cases h2

theorem nth_app1 (H : List Blk) (b : Blk) (t : Nat) : nth (H ++ [b]) t = if t < H.length then nth H t else if t = H.length then some b else none := by
  rw [nth_app]
  by_cases h : t < H.length
  · rw [if_pos h, if_pos h]
  · rw [if_neg h, if_neg h]
    by_cases e : t = H.length
    · subst e; rw [if_pos rfl, Nat.sub_self]; rfl
    · rw [if_neg e]
      obtain ⟨k, hk⟩ : ∃ k, t - H.length = k + 1 := ⟨t - H.length - 1, by omega⟩
      rw [hk]; cases k <;> rfl

theorem push (hw : WR β H w) (hf : Foreign H) {b : Blk} (hb : b.own = false) {x : Option (Nat × Nat × Nat)}
    (hx : match x with | none => b.body.size = 0 | some (B, o, C) => B < w.heap.size ∧ ∀ j a, j < b.body.size → b.body.get j = some a → ∃ v, w.cell? ⟨B, o + j, none⟩ = some v ∧ RAt β H a v) :
    WR (updB β H.length x) (H ++ [b]) w ∧ Foreign (H ++ [b]) ∧ ∀ t, Mv β H (updB β H.length x) (H ++ [b]) t := by
  have hmv : ∀ t, Mv β H (updB β H.length x) (H ++ [b]) t := fun t y hy ht => by
    refine ⟨by rw [updB_ne _ _ (by omega)]; exact hy, by simp; omega, ?_⟩
    unfold szH
    rw [nth_app1, if_pos ht]
    exact Nat.le_refl _
  have hfor : Foreign (H ++ [b]) := by
    intro t c hc
    rw [nth_app1] at hc
    split at hc
    · exact hf t c hc
    · split at hc
      · cases hc; exact hb
      · cases hc
  refine ⟨⟨fun t c hc => ?_, fun t t' c c' y y' _ h1 _ ho _ _ _ => by rw [hfor t c h1] at ho; cases ho⟩, hfor, hmv⟩
  rw [nth_app1] at hc
  by_cases ht : t < H.length
  · rw [if_pos ht] at hc
    rw [updB_ne _ _ (by omega)]
    have := hw.blk t c hc
    split
    · rename_i e; rw [e] at this; exact this
    · rename_i B o C e
      rw [e] at this
      exact ⟨fun j a q1 q2 => (this.cell j a q1 q2).imp fun v hv => ⟨hv.1, hv.2.move fun t _ => hmv t⟩, this.own, this.lt⟩
  · rw [if_neg ht] at hc
    split at hc
    · rename_i e
      subst e
      cases hc
      rw [updB_same]
      cases x with
      | none => exact hx
      | some y =>
        obtain ⟨B, o, C⟩ := y
        exact ⟨fun j a q1 q2 => (hx.2 j a q1 q2).imp fun v hv => ⟨hv.1, hv.2.move fun t _ => hmv t⟩, (fun ho => by rw [hb] at ho; cases ho), hx.1⟩
    · cases hc

theorem R0_of_plain {a : At} {v : Value} (h : R0 NoB [] a v) : RAt β H a v := (RAt_iff β H a v).2 (.inr (h.move fun t _ x hx => by cases hx))

theorem impA_sound (hw : WR β H w) (hf : Foreign H) {p : PV} {v : Value} (hp : DA w p v) : ∃ β', WR β' (H ++ (impA H.length p).2) w ∧ Foreign (H ++ (impA H.length p).2) ∧ (∀ t, Mv β H β' (H ++ (impA H.length p).2) t) ∧ RAt β' (H ++ (impA H.length p).2) (impA H.length p).1 v := by
  cases p with
  | s a =>
    simp only [impA, List.append_nil]
    exact ⟨β, hw, hf, fun t x hx ht => ⟨hx, ht, Nat.le_refl _⟩, R0_of_plain hp⟩
  | row sz len b =>
    obtain ⟨hr, hsz, a, cap, rfl, hc, h⟩ := hp
    simp only [impA]
    by_cases hl : 0 < len
    · obtain ⟨B, o, rfl, hlt, hcell⟩ := h hl
      obtain ⟨k1, k2, k3⟩ := push hw hf (b := ⟨false, b⟩) rfl (x := some (B, o, 0)) ⟨hlt, fun j q hj hq => (hcell j q hj hq).imp fun u hu => ⟨hu.1, R0_of_plain hu.2⟩⟩
      refine ⟨_, k1, k2, k3, _, cap, rfl, hc, fun _ => ⟨B, o, 0, updB_same _ _ _, by simp, ?_, by simp⟩⟩
      unfold szH
      rw [nth_app1, if_neg (Nat.lt_irrefl _), if_pos rfl]
      simp only; omega
    · obtain rfl : len = 0 := by omega
      obtain ⟨k1, k2, k3⟩ := push hw hf (b := ⟨false, b⟩) rfl (x := none) (by simpa using hsz)
      exact ⟨_, k1, k2, k3, a, cap, rfl, hc, fun hh => absurd hh (Nat.lt_irrefl _)⟩
theorem impAs_sound : ∀ {ps : List PV} {vs : List Value} {β : Bm} {H : List Blk} (hw : WR β H w) (hf : Foreign H) (hp : All2 (DA w) ps vs), ∃ β', WR β' (H ++ (impAs H.length ps).2) w ∧ Foreign (H ++ (impAs H.length ps).2) ∧ (∀ t, Mv β H β' (H ++ (impAs H.length ps).2) t) ∧ All2 (RAt β' (H ++ (impAs H.length ps).2)) (impAs H.length ps).1 vs
  | [], [], β, H, hw, hf, .nil => by
    simp only [impAs, List.append_nil]
    exact ⟨β, hw, hf, fun t x hx ht => ⟨hx, ht, Nat.le_refl _⟩, .nil⟩
  | p :: ps, v :: vs, β, H, hw, hf, .cons h1 h2 => by
    obtain ⟨β1, a1, a2, a3, a4⟩ := impA_sound hw hf h1
    obtain ⟨β2, b1, b2, b3, b4⟩ := impAs_sound a1 a2 h2
    rw [List.length_append, List.append_assoc] at b1 b2 b4
    simp only [List.length_append, List.append_assoc] at b3
    simp only [impAs]
    exact ⟨β2, b1, b2, fun t => (a3 t).trans (b3 t), .cons (a4.move fun t _ => b3 t) b4⟩

theorem impT_sound (hw : WR β H w) (hf : Foreign H) {p : PT} {v : Value} (hp : DT w p v) : ∃ β', WR β' (H ++ (impT H.length p).2) w ∧ Foreign (H ++ (impT H.length p).2) ∧ (∀ t, Mv β H β' (H ++ (impT H.length p).2) t) ∧ RV β' (H ++ (impT H.length p).2) (impT H.length p).1 v := by
  cases p with
  | one p => exact impA_sound hw hf hp
  | agg ps =>
    obtain ⟨arr, rfl, h⟩ := hp
    obtain ⟨β', a1, a2, a3, a4⟩ := impAs_sound hw hf h
    exact ⟨β', a1, a2, a3, arr, rfl, a4⟩
  | ptr ps =>
    obtain ⟨B, o, rfl, hlt, h⟩ := hp
    -- the cells there
    have hvs : ∃ vs : List Value, All2 (DA w) ps vs ∧ ∀ (j : Nat) (u : Value), vs[j]? = some u → w.cell? ⟨B, o + j, none⟩ = some u := by
      have : ∀ (qs : List PV) (k : Nat), (∀ j p, qs[j]? = some p → ∃ u, w.cell? ⟨B, o + (k + j), none⟩ = some u ∧ DA w p u) → ∃ vs : List Value, All2 (DA w) qs vs ∧ ∀ (j : Nat) (u : Value), vs[j]? = some u → w.cell? ⟨B, o + (k + j), none⟩ = some u := by
        intro qs
        induction qs with
        | nil => intro k _; exact ⟨[], .nil, fun j u hu => by simp at hu⟩
        | cons q qs ih =>
          intro k hq
          obtain ⟨u, h1, h2⟩ := hq 0 q rfl
          obtain ⟨vs, h3, h4⟩ := ih (k + 1) fun j p hp => by
            have := hq (j + 1) p (by simpa using hp)
            rwa [show k + (j + 1) = k + 1 + j by omega] at this
          refine ⟨u :: vs, .cons h2 h3, fun j u' hu' => ?_⟩
          cases j with
          | zero => simp at hu'; subst hu'; exact h1
          | succ j => have := h4 j u' (by simpa using hu'); rwa [show k + 1 + j = k + (j + 1) by omega] at this
      have := this ps 0 (by simpa using h)
      simpa using this
    obtain ⟨vs, h1, h2⟩ := hvs
    obtain ⟨β', a1, a2, a3, a4⟩ := impAs_sound hw hf h1
    obtain ⟨k1, k2, k3⟩ := push a1 a2 (b := ⟨false, .cells (impAs H.length ps).1⟩) rfl (x := some (B, o, 0)) ⟨hlt, fun j q hj hq => by
      simp only [Body.get, nth_eq] at hq
      obtain ⟨u, g1, g2⟩ := a4.get j q hq
      exact ⟨u, h2 j u g1, g2⟩⟩
    simp only [impT]
    rw [← List.append_assoc]
    refine ⟨_, k1, k2, fun t => (a3 t).trans (k3 t), B, o, 0, ?_, by simp, ?_, by simp⟩
    · rw [← List.length_append]; exact updB_same _ _ _
    · unfold szH
      rw [nth_app1, if_neg (by simp), if_pos (by simp)]
      simp [Body.size]
  | fn f ps =>
    obtain ⟨cs, rfl, h⟩ := hp
    obtain ⟨β', a1, a2, a3, a4⟩ := impAs_sound hw hf h
    refine ⟨β', a1, a2, a3, cs, rfl, ?_⟩
    -- no part of a closure is a function
    have hnf : ∀ {ps : List PV} {vs : List Value} {n : Nat}, All2 (DA w) ps vs → ∀ a ∈ (impAs n ps).1, isFn a = false := by
      intro ps
      induction ps with
      | nil => intro vs n _ a ha; simp [impAs] at ha
      | cons p ps ih =>
        intro vs n hh a ha
        cases hh with
        | cons q1 q2 =>
          simp only [impAs, List.mem_cons] at ha
          rcases ha with rfl | ha
          · cases p with
            | s a =>
              cases a <;> first | rfl | (exfalso; exact q1)
            | row sz len b => rfl
          · exact ih q2 a ha
    have hnf := hnf (n := H.length) h
    exact a4.mono fun a v ha hv => by
      rcases (RAt_iff _ _ a v).1 hv with ⟨f', caps, rfl, _⟩ | h0
      · have := hnf _ ha; cases this
      · exact h0
theorem impTs_sound : ∀ {ps : List PT} {vs : List Value} {β : Bm} {H : List Blk} (hw : WR β H w) (hf : Foreign H) (hp : All2 (DT w) ps vs), ∃ β', WR β' (H ++ (impTs H.length ps).2) w ∧ Foreign (H ++ (impTs H.length ps).2) ∧ (∀ t, Mv β H β' (H ++ (impTs H.length ps).2) t) ∧ All2 (RV β' (H ++ (impTs H.length ps).2)) (impTs H.length ps).1 vs
  | [], [], β, H, hw, hf, .nil => by
    simp only [impTs, List.append_nil]
    exact ⟨β, hw, hf, fun t x hx ht => ⟨hx, ht, Nat.le_refl _⟩, .nil⟩
  | p :: ps, v :: vs, β, H, hw, hf, .cons h1 h2 => by
    obtain ⟨β1, a1, a2, a3, a4⟩ := impT_sound hw hf h1
    obtain ⟨β2, b1, b2, b3, b4⟩ := impTs_sound a1 a2 h2
    rw [List.length_append, List.append_assoc] at b1 b2 b4
    simp only [List.length_append, List.append_assoc] at b3
    simp only [impTs]
    exact ⟨β2, b1, b2, fun t => (a3 t).trans (b3 t), .cons (a4.move fun t _ => b3 t) b4⟩

def un0 (lo : Nat) : At → Option At
  | .ptr t o e => match Nat.ble lo t with | true => some (.ptr (t - lo) o e) | false => none
  | .sl t o l z => match Nat.ble lo t with | true => some (.sl (t - lo) o l z) | false => none
  | .vw t o l z => match Nat.ble lo t with | true => some (.vw (t - lo) o l z) | false => none
  | a => some a
def un0s (lo : Nat) : List At → Option (List At)
  | [] => some []
  | a :: r => match un0 lo a with | some a => (match un0s lo r with | some r => some (a :: r) | none => none) | none => none
def un1 (lo : Nat) : At → Option At
  | .fn f caps => match un0s lo caps with | some caps => some (.fn f caps) | none => none
  | a => un0 lo a
def un1s (lo : Nat) : List At → Option (List At)
  | [] => some []
  | a :: r => match un1 lo a with | some a => (match un1s lo r with | some r => some (a :: r) | none => none) | none => none
def unT (lo : Nat) : TV → Option TV
  | .one a => match un1 lo a with | some a => some (.one a) | none => none
  | .agg cs => match un1s lo cs with | some cs => some (.agg cs) | none => none
def unTs (lo : Nat) : List TV → Option (List TV)
  | [] => some []
  | a :: r => match unT lo a with | some a => (match unTs lo r with | some r => some (a :: r) | none => none) | none => none
def unV (lo : Nat) : AV → Option AV
  | .top => none
  | .v x => match unT lo x with | some x => some (.v x) | none => none
  | .tup vs => match unTs lo vs with | some vs => some (.tup vs) | none => none
def unB (lo : Nat) : Body → Option Body
  | .cells cs => match un1s lo cs with | some cs => some (.cells cs) | none => none
  | .dead _ => none
  | b => some b
def unH (lo : Nat) : List Blk → Option (List Blk)
  | [] => some []
  | b :: r => match b.own with
    | false => none
    | true => match unB lo b.body with | some c => (match unH lo r with | some r => some (⟨true, c⟩ :: r) | none => none) | none => none
def dropL {α : Type} : Nat → List α → List α
  | 0, l => l
  | _, [] => []
  | n + 1, _ :: r => dropL n r
def expo (lo : Nat) (v : AV) (H : List Blk) : Option (AV × List Blk) :=
  match unV lo v with
  | some v => match unH lo (dropL lo H) with | some news => some (v, news) | none => none
  | none => none
theorem dropL_nth {α : Type} : ∀ (n : Nat) (l : List α) (i : Nat), nth (dropL n l) i = nth l (n + i)
  | 0, l, i => by simp [dropL]
  | n + 1, [], i => by cases i <;> simp [dropL, nth]
  | n + 1, a :: r, i => by simp only [dropL]; rw [dropL_nth n r i, show n + 1 + i = (n + i) + 1 by omega]; rfl

section un
variable {γ : Bm} {news : List Blk} {lo : Nat}
def UnOk (β : Bm) (H : List Blk) (γ : Bm) (news : List Blk) (lo : Nat) : Prop := ∀ t x, lo ≤ t → β t = some x → t < H.length → γ (t - lo) = some x ∧ t - lo < news.length ∧ szH H t ≤ szH news (t - lo)
theorem R0.un (hm : UnOk β H γ news lo) {a a' : At} {v : Value} (h : R0 β H a v) (hu : un0 lo a = some a') : R0 γ news a' v := by
  cases a with
  | ptr t off ext =>
    obtain ⟨B, o, C, h1, h2, h3, h4⟩ := h
    simp only [un0] at hu
    split at hu
    · rename_i hb
      cases hu
      obtain ⟨k1, k2, k3⟩ := hm t _ (ble_le hb) h1 h2
      exact ⟨B, o, C, k1, k2, Nat.le_trans h3 k3, h4⟩
    · cases hu
  | sl t off len sz =>
    simp only [un0] at hu
    split at hu
    · rename_i hb
      cases hu
      rcases h with ⟨B, o, C, cap, h1, h2, h3, h4, h5, h6⟩ | h
      · obtain ⟨k1, k2, k3⟩ := hm t _ (ble_le hb) h1 h2
        exact .inl ⟨B, o, C, cap, k1, k2, Nat.le_trans h3 k3, h4, h5, h6⟩
      · exact .inr h
    · cases hu
  | vw t off len sz =>
    simp only [un0] at hu
    split at hu
    · rename_i hb
      cases hu
      obtain ⟨a, cap, h1, h2, h3⟩ := h
      refine ⟨a, cap, h1, h2, fun hl => ?_⟩
      obtain ⟨B, o, C, h4, h5, h6, h7⟩ := h3 hl
      obtain ⟨k1, k2, k3⟩ := hm t _ (ble_le hb) h4 h5
      exact ⟨B, o, C, k1, k2, Nat.le_trans h6 k3, h7⟩
    · cases hu
  | _ => simp only [un0] at hu; cases hu; exact h
theorem R0s.un (hm : UnOk β H γ news lo) : ∀ {as as' : List At} {vs : List Value}, All2 (R0 β H) as vs → un0s lo as = some as' → All2 (R0 γ news) as' vs
  | [], as', [], .nil, hu => by simp only [un0s] at hu; cases hu; exact .nil
  | a :: as, as', v :: vs, .cons h1 h2, hu => by
    simp only [un0s] at hu
    split at hu
    · rename_i b hb
      split at hu
      · rename_i r hr
        cases hu
        exact .cons (h1.un hm hb) (R0s.un hm h2 hr)
      · cases hu
    · cases hu
theorem un0_fn {a : At} {f : FuncId} {caps : List At} (h : isFn a = false) : un0 lo a ≠ some (.fn f caps) := by
  cases a <;> simp only [un0] <;> intro q <;> first | (cases q; done) | (cases q; cases h; done) | (split at q <;> cases q)
theorem RAt.un (hm : UnOk β H γ news lo) {a a' : At} {v : Value} (h : RAt β H a v) (hu : un1 lo a = some a') : RAt γ news a' v := by
  rcases (RAt_iff β H a v).1 h with ⟨f, caps, rfl, cs, h1, h2⟩ | h0
  · simp only [un1] at hu
    split at hu
    · rename_i c hc
      cases hu
      exact ⟨cs, h1, R0s.un hm h2 hc⟩
    · cases hu
  · have : un0 lo a = some a' := by cases a <;> first | exact hu | exact h0.elim
    exact (RAt_iff γ news _ v).2 (.inr (h0.un hm this))
theorem RAts.un (hm : UnOk β H γ news lo) : ∀ {as as' : List At} {vs : List Value}, All2 (RAt β H) as vs → un1s lo as = some as' → All2 (RAt γ news) as' vs
  | [], as', [], .nil, hu => by simp only [un1s] at hu; cases hu; exact .nil
  | a :: as, as', v :: vs, .cons h1 h2, hu => by
    simp only [un1s] at hu
    split at hu
    · rename_i b hb
      split at hu
      · rename_i r hr
        cases hu
        exact .cons (h1.un hm hb) (RAts.un hm h2 hr)
      · cases hu
    · cases hu
theorem RT.un (hm : UnOk β H γ news lo) {a a' : TV} {v : Value} (h : RT β H a v) (hu : unT lo a = some a') : RT γ news a' v := by
  cases a with
  | one a =>
    simp only [unT] at hu
    split at hu
    · rename_i b hb; cases hu; exact RAt.un hm h hb
    · cases hu
  | agg cs =>
    obtain ⟨arr, h1, h2⟩ := h
    simp only [unT] at hu
    split at hu
    · rename_i b hb; cases hu; exact ⟨arr, h1, RAts.un hm h2 hb⟩
    · cases hu
theorem RTs.un (hm : UnOk β H γ news lo) : ∀ {as as' : List TV} {vs : List Value}, All2 (RT β H) as vs → unTs lo as = some as' → All2 (RT γ news) as' vs
  | [], as', [], .nil, hu => by simp only [unTs] at hu; cases hu; exact .nil
  | a :: as, as', v :: vs, .cons h1 h2, hu => by
    simp only [unTs] at hu
    split at hu
    · rename_i b hb
      split at hu
      · rename_i r hr
        cases hu
        exact .cons (h1.un hm hb) (RTs.un hm h2 hr)
      · cases hu
    · cases hu
theorem RV.un (hm : UnOk β H γ news lo) {a a' : AV} {v : Value} (h : RV β H a v) (hu : unV lo a = some a') : RV γ news a' v := by
  cases a with
  | top => cases hu
  | v x =>
    simp only [unV] at hu
    split at hu
    · rename_i b hb; cases hu; exact RT.un hm h hb
    · cases hu
  | tup vs =>
    obtain ⟨arr, h1, h2⟩ := h
    simp only [unV] at hu
    split at hu
    · rename_i b hb; cases hu; exact ⟨arr, h1, RTs.un hm h2 hb⟩
    · cases hu
end un

theorem un1s_get {lo : Nat} : ∀ {cs ds : List At} {j : Nat} {a : At}, un1s lo cs = some ds → ds[j]? = some a → ∃ c, cs[j]? = some c ∧ un1 lo c = some a
  | [], ds, j, a, h, hj => by simp only [un1s] at h; cases h; simp at hj
  | c :: cs, ds, j, a, h, hj => by
    simp only [un1s] at h
    split at h
    · rename_i b hb
      split at h
      · rename_i r hr
        cases h
        cases j with
        | zero => simp at hj; subst hj; exact ⟨c, rfl, hb⟩
        | succ j =>
          obtain ⟨q, e1, e2⟩ := un1s_get hr (j := j) (a := a) (by simpa using hj)
          exact ⟨q, by simpa using e1, e2⟩
      · cases h
    · cases h
theorem un1s_len {lo : Nat} : ∀ {cs ds : List At}, un1s lo cs = some ds → ds.length = cs.length
  | [], ds, h => by simp only [un1s] at h; cases h; rfl
  | c :: cs, ds, h => by
    simp only [un1s] at h
    split at h
    · split at h
      · rename_i r hr; cases h; simp [un1s_len hr]
      · cases h
    · cases h
theorem unB_facts {lo : Nat} {b c : Body} (h : unB lo b = some c) : c.size = b.size ∧ isDead c = false ∧ ∀ j a, c.get j = some a → ∃ q, b.get j = some q ∧ (un1 lo q = some a ∨ (a = q ∧ ∀ u, m1 u q = false)) := by
  cases b with
  | cells cs =>
    simp only [unB] at h
    split at h
    · rename_i ds hds
      cases h
      refine ⟨un1s_len hds, rfl, fun j a ha => ?_⟩
      simp only [Body.get, nth_eq] at ha ⊢
      obtain ⟨q, h1, h2⟩ := un1s_get hds ha
      exact ⟨q, h1, .inl h2⟩
    · cases h
  | dead n => cases h
  | _ => cases h; exact ⟨rfl, rfl, fun j a ha => ⟨a, ha, .inr ⟨rfl, fun u => by cases ha; rfl⟩⟩⟩
theorem unH_facts {lo : Nat} : ∀ {l news : List Blk}, unH lo l = some news → news.length = l.length ∧ ∀ i c, nth news i = some c → ∃ b, nth l i = some b ∧ b.own = true ∧ c.own = true ∧ unB lo b.body = some c.body
  | [], news, h => by simp only [unH] at h; cases h; exact ⟨rfl, fun i c hc => by cases i <;> cases hc⟩
  | b :: r, news, h => by
    simp only [unH] at h
    split at h
    · cases h
    · rename_i ho
      split at h
      · rename_i c hc
        split at h
        · rename_i rs hrs
          cases h
          obtain ⟨h1, h2⟩ := unH_facts hrs
          refine ⟨by simp [h1], fun i c' hc' => ?_⟩
          cases i with
          | zero => cases hc'; exact ⟨b, rfl, ho, rfl, hc⟩
          | succ i => exact h2 i c' hc'
        · cases h
      · cases h

theorem expo_sound {w' : World} (hf : Foreign H) {β' : Bm} {H' : List Blk} (hI : Inv β H w β' H' w') {v : AV} {u : Value} (hv : RV β' H' v u) {x : AV} {news : List Blk} (h : expo H.length v H' = some (x, news)) : ∃ γ, Fresh γ news w w' ∧ RV γ news x u := by
  unfold expo at h
  split at h
  · rename_i y hy
    split at h
    · rename_i ns hns
      cases h
      obtain ⟨hlen, hfacts⟩ := unH_facts hns
      have hget : ∀ {i : Nat} {c : Blk}, nth news i = some c → ∃ b, nth H' (H.length + i) = some b ∧ b.own = true ∧ c.own = true ∧ unB H.length b.body = some c.body := by
        intro i c hc
        obtain ⟨b, h1, h2⟩ := hfacts i c hc
        rw [dropL_nth] at h1
        exact ⟨b, h1, h2⟩
      have hdl : ∀ (n : Nat) (l : List Blk), (dropL n l).length = l.length - n := by
        intro n
        induction n with
        | zero => intro l; simp [dropL]
        | succ n ih => intro l; cases l with | nil => simp [dropL] | cons a r => simp only [dropL]; rw [ih r]; simp
      rw [hdl] at hlen
      have hex := hI.ext.len
      have hnn : ∀ i, i < news.length → ∃ c, nth news i = some c := fun i hi => ⟨news[i], by rw [nth_eq]; exact List.getElem?_eq_getElem hi⟩
      have hun : UnOk β' H' (fun t => if t < news.length then β' (t + H.length) else none) news H.length := by
        intro t z hle hz ht
        have hlt : t - H.length < news.length := by omega
        refine ⟨?_, hlt, ?_⟩
        · simp only [if_pos hlt]
          rw [show t - H.length + H.length = t by omega]; exact hz
        · obtain ⟨c, hc⟩ := hnn _ hlt
          obtain ⟨b, h1, h2, h3, h4⟩ := hget hc
          rw [show H.length + (t - H.length) = t by omega] at h1
          rw [szH_of h1, szH_of hc, (unB_facts h4).1]
          exact Nat.le_refl _
      refine ⟨_, ⟨⟨fun i c hc => ?_, fun i j c c' z z' hne h1 h2 hoc hd hz hz' => ?_⟩, fun t z hz => ?_, ?_⟩, hv.un hun hy⟩
      · have hi := nth_lt hc
        simp only [if_pos hi]
        obtain ⟨b, h1, h2, h3, h4⟩ := hget hc
        obtain ⟨f1, f2, f3⟩ := unB_facts h4
        rw [show i + H.length = H.length + i by omega]
        have := hI.wr.blk _ b h1
        split
        · rename_i e; rw [e] at this; rw [f1]; exact this
        · rename_i B o C e
          rw [e] at this
          refine ⟨fun j a q1 q2 => ?_, fun _ => ?_, this.lt⟩
          · obtain ⟨q, g1, g2⟩ := f3 j a q2
            obtain ⟨v', g3, g4⟩ := this.cell j q (by omega) g1
            rcases g2 with g2 | ⟨rfl, hp⟩
            · exact ⟨v', g3, g4.un hun g2⟩
            · exact ⟨v', g3, g4.move fun u hu => by rw [hp u] at hu; cases hu⟩
          · obtain ⟨k1, k2, k3⟩ := this.own h2
            exact ⟨k1, f2, k3⟩
      · have hi := nth_lt h1
        have hj := nth_lt h2
        simp only [if_pos hi] at hz
        simp only [if_pos hj] at hz'
        obtain ⟨b, g1, g2, g3, g4⟩ := hget h1
        obtain ⟨b', g5, g6, g7, g8⟩ := hget h2
        rw [show i + H.length = H.length + i by omega] at hz
        rw [show j + H.length = H.length + j by omega] at hz'
        have hd' : isDead b'.body = false := by
          cases hb : b'.body <;> rw [hb] at g8 <;> first | rfl | cases g8
        exact hI.wr.sep _ _ b b' z z' (by omega) g1 g5 g2 hd' hz hz'
      · by_cases ht : t < news.length
        · simp only [if_pos ht] at hz
          obtain ⟨c, hc⟩ := hnn _ ht
          obtain ⟨b, g1, g2, g3, g4⟩ := hget hc
          rw [show t + H.length = H.length + t by omega] at hz
          rcases hI.own z.1 ⟨_, b, z.2.1, z.2.2, g1, g2, hz⟩ with hh | hh
          · exact absurd hh (hf.own _)
          · exact hh
        · simp only [if_neg ht] at hz; cases hz
      · exact ⟨hI.fr.os, hI.fr.tape, hI.fr.output, hI.fr.size, fun k hk _ => hI.fr.block k hk (hf.own k)⟩
    · cases h
  · cases h

def canW (k : FloatKind) (x : Nat) : Prop := x < 2 ^ k.format.width ∧ cn k x = x
def CanA : At → Prop
  | .flt k x => canW k x
  | .cx k x y => canW k x ∧ canW k y
  | _ => True
def CanB : Body → Prop
  | .fl k xs => ∀ x ∈ xs, canW k x
  | _ => True
def CanP : PV → Prop
  | .s a => CanA a
  | .row sz len b => b.size = len * sz ∧ CanB b
def CanT : PT → Prop
  | .one p => CanP p
  | .agg ps => ∀ p ∈ ps, CanP p
  | .ptr ps => ∀ p ∈ ps, CanP p
  | .fn _ ps => ∀ p ∈ ps, CanP p
def CanTs : List PT → Prop
  | [] => True
  | p :: r => CanT p ∧ CanTs r
theorem cn_lt {k : FloatKind} {b : Nat} (h : wfW k b) : cn k b < 2 ^ k.format.width := by
  cases hn : nanB k b with
  | true => rw [cn_of_nan hn]; cases k <;> decide
  | false => rw [cn_of_not hn]; exact h
theorem canW_of {k : FloatKind} {b : Nat} (h : wfW k b) : canW k (cn k b) := ⟨cn_lt h, cn_cn k b⟩
theorem canA_of {β : Bm} {H : List Blk} {a : At} {v : Value} (h : R0 β H a v) : CanA a := by
  cases a with
  | flt k x => obtain ⟨b, _, h1, rfl⟩ := h; exact canW_of h1
  | cx k x y => obtain ⟨a, b, _, h1, h2, rfl, rfl⟩ := h; exact ⟨canW_of h1, canW_of h2⟩
  | _ => trivial
theorem canP_of {p : PV} {v : Value} (h : DA w p v) : CanP p := by
  cases p with
  | s a => exact canA_of h
  | row sz len b =>
    obtain ⟨hr, hsz, a, cap, rfl, _, hc⟩ := h
    refine ⟨hsz, ?_⟩
    cases b with
    | fl k xs =>
      intro x hx
      obtain ⟨j, hj, rfl⟩ := List.getElem_of_mem hx
      have hs : xs.length = len * sz := hsz
      have hl : 0 < len := by
        rcases Nat.eq_zero_or_pos len with e | e
        · rw [e] at hs; simp at hs; rw [hs] at hj; simp at hj
        · exact e
      obtain ⟨B, o, _, _, hcell⟩ := hc hl
      obtain ⟨u, _, hu⟩ := hcell j (.flt k xs[j]) hj (by simp [Body.get, List.getD_eq_getElem?_getD, hj])
      exact canA_of hu
    | _ => trivial
theorem canPs_of : ∀ {ps : List PV} {vs : List Value}, All2 (DA w) ps vs → ∀ p ∈ ps, CanP p
  | [], [], .nil, p, hp => by cases hp
  | q :: ps, v :: vs, .cons h1 h2, p, hp => by
    rcases List.mem_cons.1 hp with rfl | hp
    · exact canP_of h1
    · exact canPs_of h2 p hp
theorem canT_of {p : PT} {v : Value} (h : DT w p v) : CanT p := by
  cases p with
  | one p => exact canP_of h
  | agg ps => obtain ⟨arr, rfl, h⟩ := h; exact canPs_of h
  | ptr ps =>
    obtain ⟨B, o, rfl, _, h⟩ := h
    intro p hp
    obtain ⟨j, hj, rfl⟩ := List.getElem_of_mem hp
    obtain ⟨u, _, hu⟩ := h j _ (List.getElem?_eq_getElem hj)
    exact canP_of hu
  | fn f ps => obtain ⟨cs, rfl, h⟩ := h; exact canPs_of h
theorem canTs_of : ∀ {ps : List PT} {vs : List Value}, All2 (DT w) ps vs → CanTs ps
  | [], [], .nil => trivial
  | p :: ps, v :: vs, .cons h1 h2 => ⟨canT_of h1, canTs_of h2⟩

theorem fin_eq {p : Bool} {V v : AV} {N n : List Blk} (h : some (p, V, N) = some (true, v, n)) : grd p (some (V, N)) = some (v, n) := by
  injection h with h
  injection h with h1 h
  injection h with h2 h3
  rw [h1, h2, h3]
  rfl

def SumOne (P : Program) (g : FuncId) (F : List PT → Option (Bool × AV × List Blk)) : Prop := ∀ pts v news, F pts = some (true, v, news) → ∀ w (vals : Array Value), All2 (DT w) pts vals.toList → CallRes P g vals w fun u w' => ∃ γ, Fresh γ news w w' ∧ RV γ news v u

theorem sum_of (hT : chkTab P Γ.ty = true) (hF : FnsOk P Γ) (hL : LpOk P Γ) (hS : SumOk P Γ) (hm : P.follows .mixedOrders = true) {g : FuncId} {F : List PT → Option (Bool × AV × List Blk)} {fuel d : Nat}
    (h : ∀ pts v news, F pts = some (true, v, news) → CanTs pts → evFn Γ fuel d g (impTs 0 pts).1 (impTs 0 pts).2 (expo (impTs 0 pts).2.length) = some (v, news)) : SumOne P g F := by
  intro pts v news hp w vals hv
  have hw : WR NoB [] w := ⟨(fun t b hb => by cases t <;> cases hb), (fun t t' b b' x x' _ hb => by cases t <;> cases hb)⟩
  have hf0 : Foreign [] := fun t b hb => by cases t <;> cases hb
  obtain ⟨β, h1, h2, h3, h4⟩ := impTs_sound hw hf0 hv
  simp only [List.length_nil, List.nil_append] at h1 h2 h4
  exact (evFn_sound hT hF hL hS hm d g _ _ _ _ (h pts v news hp (canTs_of hv)) β w vals h1 h4).mono fun u w' ⟨β', x, H', k1, k2, k3⟩ => expo_sound h2 k1 k2 k3

noncomputable def big : Nat := Classical.choose (⟨2 ^ 48, rfl⟩ : ∃ n : Nat, n = 2 ^ 48)
theorem big_eq : big = 2 ^ 48 := Classical.choose_spec (⟨2 ^ 48, rfl⟩ : ∃ n : Nat, n = 2 ^ 48)

def findL (id : Nat) : List Code → Code
  | [] => .skip
  | c :: r => match Nat.beq (lid c) id with | true => c | false => findL id r
def noTwo : List Nat → Bool
  | [] => true
  | t :: r => match mem t r with | true => false | false => noTwo r
def lids : List Code → List Nat
  | [] => []
  | c :: r => lid c :: lids r
theorem mem_lids {c : Code} : ∀ {l : List Code}, c ∈ l → mem (lid c) (lids l) = true
  | x :: r, h => by
    simp only [lids, mem]
    split
    · rfl
    · rename_i hb
      rcases List.mem_cons.1 h with rfl | h
      · simp [Nat.beq_refl] at hb
      · exact mem_lids h
theorem findL_of {c : Code} : ∀ {l : List Code}, noTwo (lids l) = true → c ∈ l → findL (lid c) l = c
  | x :: r, hn, h => by
    simp only [lids, noTwo] at hn
    split at hn
    · cases hn
    · rename_i hm
      simp only [findL]
      split
      · rename_i hb
        rcases List.mem_cons.1 h with rfl | h
        · rfl
        · have := mem_lids h
          rw [beq_eq hb] at hm
          rw [hm] at this; cases this
      · rename_i hb
        rcases List.mem_cons.1 h with rfl | h
        · simp [Nat.beq_refl] at hb
        · exact findL_of hn h

def LoopOne (P : Program) (tbl : List (Nat × FnI)) (f id : Nat) (F : Nat → St → Option (Bool × LO)) : Prop := ∀ fi, Rf.look tbl f = some fi → (∀ c ∈ loopsIn fi.code, lid c = id → LoopSem P fi.nt c F) ∧ (id = bodyId → BodySem P fi.nt fi.code F)
theorem codeOk_loop {c : Code} : ∀ {x : Code}, codeOk x = true → c ∈ loopsIn x → codeOk c = true
  | .skip, _, h => by cases h
  | .region .., _, h => by cases h
  | .seq a b, hc, h => by
    simp only [codeOk] at hc
    split at hc
    case h_2 => cases hc
    rename_i ha
    rcases List.mem_append.1 h with h | h
    · exact codeOk_loop ha h
    · exact codeOk_loop hc h
  | .cond _ a b, hc, h => by
    simp only [codeOk] at hc
    split at hc
    case h_2 => cases hc
    rename_i ha
    rcases List.mem_append.1 h with h | h
    · exact codeOk_loop ha h
    · exact codeOk_loop hc h
  | .block _ a, hc, h => codeOk_loop (x := a) hc h
  | .loop a, hc, h => by
    rcases List.mem_cons.1 h with rfl | h
    · exact hc
    · exact codeOk_loop (x := a) hc h
  | .exit _, _, h => by cases h
  | .ret, _, h => by cases h
  | .rangeFunc .., _, h => by cases h
  | .scope .., _, h => by cases h
  | .label .., _, h => by cases h
  | .goto .., _, h => by cases h
  | .refuse .., _, h => by cases h
theorem loopsIn_sub {c d : Code} : ∀ {x : Code}, c ∈ loopsIn x → d ∈ loopsIn c → d ∈ loopsIn x
  | .skip, h, _ => by cases h
  | .region .., h, _ => by cases h
  | .seq a b, h, k => by
    rcases List.mem_append.1 h with h | h
    · exact List.mem_append.2 (.inl (loopsIn_sub h k))
    · exact List.mem_append.2 (.inr (loopsIn_sub h k))
  | .cond _ a b, h, k => by
    rcases List.mem_append.1 h with h | h
    · exact List.mem_append.2 (.inl (loopsIn_sub h k))
    · exact List.mem_append.2 (.inr (loopsIn_sub h k))
  | .block _ a, h, k => loopsIn_sub (x := a) h k
  | .loop a, h, k => by
    rcases List.mem_cons.1 h with rfl | h
    · exact List.mem_cons.2 (.inr k)
    · exact List.mem_cons.2 (.inr (loopsIn_sub (x := a) h k))
  | .exit _, h, _ => by cases h
  | .ret, h, _ => by cases h
  | .rangeFunc .., h, _ => by cases h
  | .scope .., h, _ => by cases h
  | .label .., h, _ => by cases h
  | .goto .., h, _ => by cases h
  | .refuse .., h, _ => by cases h

theorem lp_of (hT : chkTab P Γ.ty = true) (hF : FnsOk P Γ) (hL : LpOk P Γ) (hS : SumOk P Γ) (hm : P.follows .mixedOrders = true) {f id : Nat} {fi : FnI} (hfi : Rf.look Γ.fns f = some fi) (hu : noTwo (lids (loopsIn fi.code)) = true) {F : Nat → St → Option (Bool × LO)}
    (h : ∀ lo st out, F lo st = some (true, out) → ∃ fuel d n, iter f id lo (evC Γ (evFn Γ fuel d) f lo fi.nt fi.live fi.nl fuel (findL id (loopsIn fi.code))) n st (fun e st => some (e, st)) = some (pick out)) (hb : Nat.beq id bodyId = false := by rfl) : LoopOne P Γ.fns f id F := by
  intro fi' hfi'
  rw [hfi] at hfi'
  cases hfi'
  refine ⟨?_, fun e => by subst e; simp [Nat.beq_refl] at hb⟩
  intro c hc hid β0 H0 w0 st out a w hF' hR
  subst hid
  obtain ⟨fuel, d, n, hi⟩ := h _ _ _ hF'
  rw [findL_of hu hc] at hi
  exact wp_loop_rounds n (iter_sound (fun st k a w h1 h2 => evC_sound hT (evFn_sound hT hF hL hS hm d) hS hm c (fun c' h' => (hL f fi hfi).1 c' (loopsIn_sub hc h')) (codeOk_loop (fns_code hF hfi) hc) st k a w h1 h2) n hR hi)
theorem bd_of (hT : chkTab P Γ.ty = true) (hF : FnsOk P Γ) (hL : LpOk P Γ) (hS : SumOk P Γ) (hm : P.follows .mixedOrders = true) {f : Nat} {fi : FnI} (hfi : Rf.look Γ.fns f = some fi) (hu : mem bodyId (lids (loopsIn fi.code)) = false) {F : Nat → St → Option (Bool × LO)}
    (h : ∀ lo st out, F lo st = some (true, out) → ∃ fuel d, evC Γ (evFn Γ fuel d) f lo fi.nt fi.live fi.nl fuel fi.code st (fun e st => some (e, st)) = some (pick out)) : LoopOne P Γ.fns f bodyId F := by
  intro fi' hfi'
  rw [hfi] at hfi'
  cases hfi'
  refine ⟨fun c hc hid => ?_, fun _ => ?_⟩
  · have := mem_lids hc
    rw [hid, hu] at this
    cases this
  intro β0 H0 w0 st out a w hF' hR
  obtain ⟨fuel, d, hi⟩ := h _ _ _ hF'
  exact evC_sound hT (evFn_sound hT hF hL hS hm d) hS hm fi.code (hL f fi hfi).1 (fns_code hF hfi) _ _ _ w hR hi
theorem big_succ : ∃ n, big = n + 1 := ⟨2 ^ 48 - 1, by rw [big_eq]⟩

theorem look_mem {α : Type} {g : Nat} {F : α} : ∀ {l : List (Nat × α)}, Rf.look l g = some F → (g, F) ∈ l
  | [], h => by cases h
  | (a, b) :: r, h => by
    simp only [Rf.look] at h
    split at h
    · rename_i hb
      cases h
      have := beq_eq hb
      subst this
      simp
    · exact List.mem_cons_of_mem _ (look_mem h)
def FnL (P : Program) (l : List (Nat × FnI)) : Prop := ∀ p ∈ l, (p.2.ins = false → FnOk P p.1 p.2) ∧ (p.2.ins = true → InsRow P p.1 ∧ codeOk p.2.code = true)
theorem FnL.nil : FnL P [] := fun p hp => by cases hp
theorem FnL.cons {k : Nat} {fi : FnI} {l : List (Nat × FnI)} (h : FnOk P k fi) (t : FnL P l) (hi : fi.ins = false := by rfl) : FnL P ((k, fi) :: l) := fun p hp => by
  rcases List.mem_cons.1 hp with rfl | hp
  · exact ⟨fun _ => h, fun h => by rw [hi] at h; cases h⟩
  · exact t p hp
theorem FnL.consI {k : Nat} {fi : FnI} {l : List (Nat × FnI)} (h : InsRow P k) (t : FnL P l) (hi : fi.ins = true := by rfl) (hc : codeOk fi.code = true := by rfl) : FnL P ((k, fi) :: l) := fun p hp => by
  rcases List.mem_cons.1 hp with rfl | hp
  · exact ⟨fun h => (by rw [hi] at h; cases h), fun _ => ⟨h, hc⟩⟩
  · exact t p hp
theorem FnL.ok {ty : List (Nat × TI)} {l : List (Nat × FnI)} (h : FnL P l) (sum : FuncId → List PT → Option (Bool × AV × List Blk)) (lp) : FnsOk P ⟨ty, l, sum, lp⟩ := fun f fi hf => ⟨(h _ (look_mem hf)).1, fun e => ((h _ (look_mem hf)).2 e).2⟩

def tblLp (tbl : List ((Nat × Nat) × (Nat → St → Option (Bool × LO)))) (f id lo : Nat) (st : St) : Option (Bool × LO) :=
  match tbl with
  | [] => none
  | ((g, j), F) :: r => match Nat.beq g f with
    | true => match Nat.beq j id with
      | true => match F lo st with
        | some x => some x
        | none => tblLp r f id lo st
      | false => tblLp r f id lo st
    | false => tblLp r f id lo st
def LpL (P : Program) (fns : List (Nat × FnI)) (tbl : List ((Nat × Nat) × (Nat → St → Option (Bool × LO)))) : Prop := ∀ p ∈ tbl, LoopOne P fns p.1.1 p.1.2 p.2
theorem LpL.nil {fns : List (Nat × FnI)} : LpL P fns [] := fun p hp => by cases hp
theorem LpL.cons {fns : List (Nat × FnI)} {f id : Nat} {F : Nat → St → Option (Bool × LO)} {l : List ((Nat × Nat) × (Nat → St → Option (Bool × LO)))} (h : LoopOne P fns f id F) (t : LpL P fns l) : LpL P fns (((f, id), F) :: l) := fun p hp => by
  rcases List.mem_cons.1 hp with rfl | hp
  · exact h
  · exact t p hp
theorem LpL.sem {fns : List (Nat × FnI)} {f : Nat} {fi : FnI} (hfi : Rf.look fns f = some fi) {c : Code} (hc : c ∈ loopsIn fi.code) : ∀ {tbl : List ((Nat × Nat) × (Nat → St → Option (Bool × LO)))}, LpL P fns tbl → LoopSem P fi.nt c (tblLp tbl f (lid c))
  | [], _ => fun β0 H0 w0 st out a w h _ => by cases h
  | ((g, j), F) :: r, h => by
    have ht : LpL P fns r := fun p hp => h p (List.mem_cons_of_mem _ hp)
    intro β0 H0 w0 st out a w hF hR
    simp only [tblLp] at hF
    split at hF
    · rename_i hg
      split at hF
      · rename_i hj
        have := (h _ (List.mem_cons_self ..) fi (by rw [← hfi, beq_eq hg])).1 c hc (beq_eq hj).symm
        split at hF
        · rename_i x hx
          cases hF
          exact this β0 H0 w0 st out a w hx hR
        · exact LpL.sem hfi hc ht β0 H0 w0 st out a w hF hR
      · exact LpL.sem hfi hc ht β0 H0 w0 st out a w hF hR
    · exact LpL.sem hfi hc ht β0 H0 w0 st out a w hF hR
theorem LpL.body {fns : List (Nat × FnI)} {f : Nat} {fi : FnI} (hfi : Rf.look fns f = some fi) : ∀ {tbl : List ((Nat × Nat) × (Nat → St → Option (Bool × LO)))}, LpL P fns tbl → BodySem P fi.nt fi.code (tblLp tbl f bodyId)
  | [], _ => fun β0 H0 w0 st out a w h _ => by cases h
  | ((g, j), F) :: r, h => by
    have ht : LpL P fns r := fun p hp => h p (List.mem_cons_of_mem _ hp)
    intro β0 H0 w0 st out a w hF hR
    simp only [tblLp] at hF
    split at hF
    · rename_i hg
      split at hF
      · rename_i hj
        have := (h _ (List.mem_cons_self ..) fi (by rw [← hfi, beq_eq hg])).2 (beq_eq hj)
        split at hF
        · rename_i x hx
          cases hF
          exact this β0 H0 w0 st out a w hx hR
        · exact LpL.body hfi ht β0 H0 w0 st out a w hF hR
      · exact LpL.body hfi ht β0 H0 w0 st out a w hF hR
    · exact LpL.body hfi ht β0 H0 w0 st out a w hF hR
theorem LpL.ok {ty : List (Nat × TI)} {fns : List (Nat × FnI)} {sum : FuncId → List PT → Option (Bool × AV × List Blk)} {tbl : List ((Nat × Nat) × (Nat → St → Option (Bool × LO)))} (h : LpL P fns tbl) : LpOk P ⟨ty, fns, sum, tblLp tbl⟩ := fun f fi hfi => ⟨fun c hc => LpL.sem hfi hc h, LpL.body hfi h⟩

def tblSum (tbl : List (Nat × (List PT → Option (Bool × AV × List Blk)))) (g : FuncId) (pts : List PT) : Option (Bool × AV × List Blk) :=
  match tbl with
  | [] => none
  | (k, F) :: r => match Nat.beq k g with
    | true => match F pts with
      | some x => some x
      | none => tblSum r g pts
    | false => tblSum r g pts
def SumL (P : Program) (tbl : List (Nat × (List PT → Option (Bool × AV × List Blk)))) : Prop := ∀ p ∈ tbl, SumOne P p.1 p.2
theorem SumL.nil : SumL P [] := fun p hp => by cases hp
theorem SumL.cons {k : Nat} {F : List PT → Option (Bool × AV × List Blk)} {l : List (Nat × (List PT → Option (Bool × AV × List Blk)))} (h : SumOne P k F) (t : SumL P l) : SumL P ((k, F) :: l) := fun p hp => by
  rcases List.mem_cons.1 hp with rfl | hp
  · exact h
  · exact t p hp
theorem SumL.one : ∀ {tbl : List (Nat × (List PT → Option (Bool × AV × List Blk)))}, SumL P tbl → ∀ g pts v news, tblSum tbl g pts = some (true, v, news) → ∃ F, SumOne P g F ∧ F pts = some (true, v, news)
  | [], _, g, pts, v, news, h => by cases h
  | (k, F) :: r, hl, g, pts, v, news, h => by
    have ht : SumL P r := fun p hp => hl p (List.mem_cons_of_mem _ hp)
    simp only [tblSum] at h
    split at h
    · rename_i hk
      split at h
      · rename_i x hx
        cases h
        have h1 := hl _ (List.mem_cons_self ..)
        rw [beq_eq hk] at h1
        exact ⟨F, h1, hx⟩
      · exact SumL.one ht g pts v news h
    · exact SumL.one ht g pts v news h
theorem SumL.ok {ty : List (Nat × TI)} {fns : List (Nat × FnI)} {tbl : List (Nat × (List PT → Option (Bool × AV × List Blk)))} (h : SumL P tbl) (hf : FnL P fns) (lp) : SumOk P ⟨ty, fns, tblSum tbl, lp⟩ := by
  refine ⟨fun g pts v news hs => ?_, fun g hg => ?_⟩
  rotate_left
  · unfold insQ at hg
    cases hl : Rf.look fns g with
    | none => simp only [hl] at hg; cases hg
    | some fi => simp only [hl] at hg; exact ((hf _ (look_mem hl)).2 hg).1
  obtain ⟨F, h1, h2⟩ := SumL.one h g pts v news hs
  exact h1 pts v news h2
end

theorem br_out {α β : Type} {o : α → β} {c : Bool} {a b : β} {a' b' : α} (h : a = o a') (k : b = o b') : br c a b = o (br c a' b') := by
  cases c
  · exact k
  · exact h
theorem grd_out {α β : Type} {o : Option α → Option β} (h0 : o none = none) {g : Bool} {a : Option β} {a' : Option α} (h : a = o a') : grd g a = o (grd g a') := by
  cases g
  · exact h0.symm
  · exact h
theorem fin_out {α : Type} {o : Option α → Option (AV × List Blk)} {x : Option α} {d : α} {V : α → AV × List Blk} {v : AV} {news : List Blk} (ho : ∀ r, o (some r) = some (V r)) (hp : some (x.isSome, V (x.getD d)) = some (true, v, news)) : o x = some (v, news) := by
  injection hp with hp
  injection hp with h1 h2
  cases x with
  | none => cases h1
  | some r => rw [ho]; exact congrArg some h2
def oL {α β : Type} : Option (α ⊕ β) → Bool
  | some (.inl _) => true
  | _ => false
def tL {α β : Type} : Option (α ⊕ β) → Option α
  | some (.inl a) => some a
  | _ => none
def tR {α β : Type} : Option (α ⊕ β) → Option β
  | some (.inr a) => some a
  | _ => none

def okU (k : FloatKind) (n : Int) : Bool := decide (0 ≤ n ∧ n.toNat < 2 ^ k.format.width)
def cnI (k : FloatKind) (n : Int) : Nat := cn k n.toNat
theorem okU_lt {k : FloatKind} {n : Int} (h : okU k n = true) : wfW k n.toNat := (of_decide_eq_true h).2
theorem fint_eq {way : Ieee.Toward} {b : Nat} (h : nanB .f64 b = false) : fint way b = FloatKind.f64.format.write ((FloatKind.f64.format.read b).integral way) ∧ ((FloatKind.f64.format.read b).integral way).isNaN = false := by
  refine ⟨?_, ?_⟩
  · unfold fint
    rw [h]; rfl
  · have hd : (FloatKind.f64.format.read b).isNaN = false := h
    cases hr : FloatKind.f64.format.read b with
    | number s m e => rfl
    | infinity s => rfl
    | nan s f => rw [hr] at hd; cases hd
theorem fint_rel {way : Ieee.Toward} {b : Nat} (h : nanB .f64 b = false) : ∃ c, Value.float .f64 (fint way b) = .float .f64 c ∧ wfW .f64 c ∧ cn .f64 c = fint way b := by
  obtain ⟨h1, h2⟩ := fint_eq (way := way) h
  refine ⟨_, rfl, ?_, ?_⟩
  · rw [h1]; exact FloatKind.f64.format.write_lt _
  · rw [cn_of_not]
    rw [h1]
    exact nanB_write .f64 h2
theorem run_fint {P : Program} {w : World} {name : String} {way : Ieee.Toward} {b : Nat} (h : nanB .f64 b = false) : (Extern.MathFloor.toIntegral name way #[.float .f64 b]).run P w = .ok (.float .f64 (fint way b)) w := by
  have hd : (FloatKind.f64.decode b).isNaN = false := h
  have hf : fint way b = FloatKind.f64.encode ((FloatKind.f64.decode b).integral way) := by
    unfold fint
    rw [h]; rfl
  rw [hf]
  change (match FloatKind.f64.decode b with | .nan s t => _ | d => (pure (Value.float .f64 (FloatKind.f64.encode (d.integral way))) : Sem Value)).run P w = _
  generalize FloatKind.f64.decode b = d at hd
  cases d with
  | number s m e => rfl
  | infinity s => rfl
  | nan s f => cases hd
theorem root_not_nan {n : Nat} {x d : Ieee.Datum} (h : x.root n = some d) : d.isNaN = false := by
  cases x with
  | nan s f => cases h
  | infinity s =>
    simp only [Ieee.Datum.root] at h
    split at h
    · cases h
    · cases h; rfl
  | number s m i =>
    simp only [Ieee.Datum.root] at h
    split at h
    · cases h; rfl
    · split at h
      · cases h
      · cases h; rfl
theorem run_sqrt {P : Program} {w : World} (b : Nat) (hb : wfW .f64 b) : ∃ c w', (Extern.MathSqrt.sqrt #[.float .f64 b]).run P w = .ok (.float .f64 c) w' ∧ Same w w' ∧ wfW .f64 c ∧ cn .f64 c = fsqrt (cn .f64 b) := by
  have hcn : FloatKind.f64.format.sqrt (cn .f64 b) = FloatKind.f64.format.sqrt b := by
    unfold Ieee.Format.sqrt
    rcases read_cn .f64 b with e | ⟨⟨s, f, e⟩, s', f', e'⟩
    · rw [e]
    · rw [e, e']; rfl
  unfold fsqrt
  rw [hcn]
  have e : Extern.MathSqrt.sqrt #[.float .f64 b] = (match FloatKind.f64.format.sqrt b with
      | some r => (pure (Value.float .f64 r) : Sem Value)
      | none => do pure (Value.float .f64 (← choose (.nanBits .f64 b b)))) := rfl
  rw [e]
  cases hs : FloatKind.f64.format.sqrt b with
  | some r =>
    refine ⟨r, w, rfl, Same.refl w, FloatKind.f64.format.sqrt_lt hs, ?_⟩
    rw [cn_of_not]
    · rfl
    · unfold Ieee.Format.sqrt at hs
      rcases hd : (FloatKind.f64.format.read b).root (FloatKind.f64.format.fractionBits + 2) with _ | d <;> rw [hd] at hs <;> cases hs
      exact nanB_write .f64 (root_not_nan hd)
  | none =>
    have hc := nan_cut .f64 (w.tape w.drawn (.nanBits .f64 b b))
    refine ⟨_, w.drew, by simp [run_choose, Question.forced]; rfl, Same.drew w, ?_, ?_⟩
    · exact hc.2
    · rw [cn_of_nan]
      · rfl
      · exact hc.1
end Go.Rf

/-
  States by their pattern: what a loop is handed is looked at piece by piece.
-/
set_option linter.unusedVariables false
set_option linter.unusedSimpArgs false
namespace Go.Rf
open Go

inductive Hv where
  | b (x : Bool)
  | i (x : Int)
  | n (x : Nat)
  | ln (x : List Nat)
  | li (x : List Int)
  | lb (x : List Bool)
def hGet : List Hv → Nat → Hv
  | [], _ => .n 0
  | a :: _, 0 => a
  | _ :: r, k + 1 => hGet r k
def hvB : Hv → Bool | .b x => x | _ => false
def hvI : Hv → Int | .i x => x | _ => 0
def hvN : Hv → Nat | .n x => x | _ => 0
def hvLn : Hv → List Nat | .ln x => x | _ => []
def hvLi : Hv → List Int | .li x => x | _ => []
def hvLb : Hv → List Bool | .lb x => x | _ => []
theorem hGet_app : ∀ (pre l : List Hv) (i : Nat), hGet (pre ++ l) (pre.length + i) = hGet l i
  | [], l, i => by simp
  | a :: pre, l, i => by
    rw [List.cons_append, List.length_cons, show pre.length + 1 + i = pre.length + i + 1 by omega]
    exact hGet_app pre l i
theorem hGet0 (pre : List Hv) (x : Hv) (post : List Hv) : hGet (pre ++ x :: post) pre.length = x := hGet_app pre (x :: post) 0
theorem hGet1 (pre : List Hv) (y x : Hv) (post : List Hv) : hGet (pre ++ y :: x :: post) (pre.length + 1) = x := hGet_app pre (y :: x :: post) 1

structure Pz (α : Type) where
  n : Nat
  fet : α → Option (List Hv)
  fil : List Hv → Nat → α
  ok : ∀ a l, fet a = some l → l.length = n ∧ ∀ pre post, fil (pre ++ (l ++ post)) pre.length = a
def Pz.con {α β : Type} (f : α → β) (g : β → Option α) (hg : ∀ b a, g b = some a → f a = b) (p : Pz α) : Pz β where
  n := p.n
  fet b := match g b with | some a => p.fet a | none => none
  fil hs j := f (p.fil hs j)
  ok b l h := by
    cases hb : g b with
    | none => rw [hb] at h; cases h
    | some a =>
      rw [hb] at h
      obtain ⟨h1, h2⟩ := p.ok a l h
      exact ⟨h1, fun pre post => by rw [h2]; exact hg b a hb⟩
def Pz.unit : Pz Unit := ⟨0, fun _ => some [], fun _ _ => (), fun a l h => by cases h; exact ⟨rfl, fun _ _ => rfl⟩⟩
def Pz.lit {α : Type} [DecidableEq α] (x : α) : Pz α := ⟨0, fun a => match decide (a = x) with | true => some [] | false => none, fun _ _ => x, fun a l h => by
  cases hd : decide (a = x) with
  | true => rw [hd] at h; cases h; exact ⟨rfl, fun _ _ => (of_decide_eq_true hd).symm⟩
  | false => rw [hd] at h; cases h⟩
def hoB : Pz Bool := ⟨1, fun a => some [.b a], fun hs j => hvB (hGet hs j), fun a l h => by cases h; exact ⟨rfl, fun pre post => by show hvB (hGet (pre ++ .b a :: post) _) = a; rw [hGet0]; rfl⟩⟩
def hoI : Pz Int := ⟨1, fun a => some [.i a], fun hs j => hvI (hGet hs j), fun a l h => by cases h; exact ⟨rfl, fun pre post => by show hvI (hGet (pre ++ .i a :: post) _) = a; rw [hGet0]; rfl⟩⟩
def hoN : Pz Nat := ⟨1, fun a => some [.n a], fun hs j => hvN (hGet hs j), fun a l h => by cases h; exact ⟨rfl, fun pre post => by show hvN (hGet (pre ++ .n a :: post) _) = a; rw [hGet0]; rfl⟩⟩
def hoLn : Pz (List Nat) := ⟨1, fun a => some [.ln a], fun hs j => hvLn (hGet hs j), fun a l h => by cases h; exact ⟨rfl, fun pre post => by show hvLn (hGet (pre ++ .ln a :: post) _) = a; rw [hGet0]; rfl⟩⟩
def hoLi : Pz (List Int) := ⟨1, fun a => some [.li a], fun hs j => hvLi (hGet hs j), fun a l h => by cases h; exact ⟨rfl, fun pre post => by show hvLi (hGet (pre ++ .li a :: post) _) = a; rw [hGet0]; rfl⟩⟩
def hoLb : Pz (List Bool) := ⟨1, fun a => some [.lb a], fun hs j => hvLb (hGet hs j), fun a l h => by cases h; exact ⟨rfl, fun pre post => by show hvLb (hGet (pre ++ .lb a :: post) _) = a; rw [hGet0]; rfl⟩⟩
def liN (x : Nat) : Pz Nat := ⟨0, fun a => match Nat.beq a x with | true => some [] | false => none, fun _ _ => x, fun a l h => by
  cases hd : Nat.beq a x with
  | true => rw [hd] at h; cases h; exact ⟨rfl, fun _ _ => (Nat.eq_of_beq_eq_true hd).symm⟩
  | false => rw [hd] at h; cases h⟩
def Pz.two {α β : Type} (p : Pz α) (q : Pz β) : Pz (α × β) where
  n := p.n + q.n
  fet x := match p.fet x.1 with | some l => (match q.fet x.2 with | some m => some (l ++ m) | none => none) | none => none
  fil hs j := (p.fil hs j, q.fil hs (j + p.n))
  ok x l h := by
    cases h1 : p.fet x.1 with
    | none => rw [h1] at h; cases h
    | some u =>
      rw [h1] at h
      cases h2 : q.fet x.2 with
      | none => rw [h2] at h; cases h
      | some v =>
        rw [h2] at h
        cases h
        obtain ⟨a1, a2⟩ := p.ok _ _ h1
        obtain ⟨b1, b2⟩ := q.ok _ _ h2
        refine ⟨by rw [List.length_append, a1, b1], fun pre post => ?_⟩
        have e1 := a2 pre (v ++ post)
        have e2 := b2 (pre ++ u) post
        rw [List.length_append, a1, List.append_assoc] at e2
        rw [List.append_assoc, e1, e2]
def Pz.nil {α : Type} : Pz (List α) := Pz.con (fun _ : Unit => []) (fun l => match l with | [] => some () | _ :: _ => none) (fun b a h => by cases b with | nil => rfl | cons x y => cases h) Pz.unit
def Pz.cons {α : Type} (p : Pz α) (q : Pz (List α)) : Pz (List α) := Pz.con (fun x : α × List α => x.1 :: x.2) (fun l => match l with | [] => none | a :: r => some (a, r)) (fun b a h => by cases b with | nil => cases h | cons x y => cases h; rfl) (Pz.two p q)
def Pz.list {α : Type} : List (Pz α) → Pz (List α)
  | [] => Pz.nil
  | p :: r => Pz.cons p (Pz.list r)

def pAny : Pz At := Pz.con (fun _ : Unit => At.any) (fun a => match a with | .any => some () | _ => none) (fun b a h => by cases b <;> first | rfl | cases h) Pz.unit
def pNil : Pz At := Pz.con (fun _ : Unit => At.nilsl) (fun a => match a with | .nilsl => some () | _ => none) (fun b a h => by cases b <;> first | rfl | cases h) Pz.unit
def pBool : Pz At := Pz.con At.bool (fun a => match a with | .bool b => some b | _ => none) (fun b a h => by cases b <;> cases h; rfl) hoB
def pInt (k : IntKind) : Pz At := Pz.con (fun x : IntKind × Int => At.int x.1 x.2) (fun a => match a with | .int k n => some (k, n) | _ => none) (fun b a h => by cases b <;> cases h; rfl) (Pz.two (Pz.lit k) hoI)
def pFlt (k : FloatKind) : Pz At := Pz.con (fun x : FloatKind × Nat => At.flt x.1 x.2) (fun a => match a with | .flt k n => some (k, n) | _ => none) (fun b a h => by cases b <;> cases h; rfl) (Pz.two (Pz.lit k) hoN)
def pCx (k : FloatKind) : Pz At := Pz.con (fun x : FloatKind × Nat × Nat => At.cx x.1 x.2.1 x.2.2) (fun a => match a with | .cx k n m => some (k, n, m) | _ => none) (fun b a h => by cases b <;> cases h; rfl) (Pz.two (Pz.lit k) (Pz.two hoN hoN))
def pPtr (t : Nat) (o : Pz Nat) (e : Nat) : Pz At := Pz.con (fun x : Nat × Nat × Nat => At.ptr x.1 x.2.1 x.2.2) (fun a => match a with | .ptr k n m => some (k, n, m) | _ => none) (fun b a h => by cases b <;> cases h; rfl) (Pz.two (liN t) (Pz.two o (liN e)))
def pSl (t : Nat) (o : Pz Nat) (z : Nat) : Pz At := Pz.con (fun x : Nat × Nat × Nat × Nat => At.sl x.1 x.2.1 x.2.2.1 x.2.2.2) (fun a => match a with | .sl k n m q => some (k, n, m, q) | _ => none) (fun b a h => by cases b <;> cases h; rfl) (Pz.two (liN t) (Pz.two o (Pz.two hoN (liN z))))
def pVw (t : Nat) (o : Pz Nat) (z : Nat) : Pz At := Pz.con (fun x : Nat × Nat × Nat × Nat => At.vw x.1 x.2.1 x.2.2.1 x.2.2.2) (fun a => match a with | .vw k n m q => some (k, n, m, q) | _ => none) (fun b a h => by cases b <;> cases h; rfl) (Pz.two (liN t) (Pz.two o (Pz.two hoN (liN z))))
def pFn (f : Nat) (cs : List (Pz At)) : Pz At := Pz.con (fun x : Nat × List At => At.fn x.1 x.2) (fun a => match a with | .fn k c => some (k, c) | _ => none) (fun b a h => by cases b <;> cases h; rfl) (Pz.two (liN f) (Pz.list cs))
def pOne (p : Pz At) : Pz TV := Pz.con TV.one (fun a => match a with | .one x => some x | _ => none) (fun b a h => by cases b <;> cases h; rfl) p
def pAgg (cs : List (Pz At)) : Pz TV := Pz.con TV.agg (fun a => match a with | .agg x => some x | _ => none) (fun b a h => by cases b <;> cases h; rfl) (Pz.list cs)
def pTop : Pz AV := Pz.con (fun _ : Unit => AV.top) (fun a => match a with | .top => some () | _ => none) (fun b a h => by cases b <;> first | rfl | cases h) Pz.unit
def pV (p : Pz TV) : Pz AV := Pz.con AV.v (fun a => match a with | .v x => some x | _ => none) (fun b a h => by cases b <;> cases h; rfl) p
def pTup (cs : List (Pz TV)) : Pz AV := Pz.con AV.tup (fun a => match a with | .tup x => some x | _ => none) (fun b a h => by cases b <;> cases h; rfl) (Pz.list cs)
def pTm (d : Nat) (p : Pz AV) : Pz (Nat × AV) := Pz.two (liN d) p
def pFl (k : FloatKind) : Pz Body := Pz.con (fun x : FloatKind × List Nat => Body.fl x.1 x.2) (fun a => match a with | .fl k n => some (k, n) | _ => none) (fun b a h => by cases b <;> cases h; rfl) (Pz.two (Pz.lit k) hoLn)
def pIl (k : IntKind) : Pz Body := Pz.con (fun x : IntKind × List Int => Body.il x.1 x.2) (fun a => match a with | .il k n => some (k, n) | _ => none) (fun b a h => by cases b <;> cases h; rfl) (Pz.two (Pz.lit k) hoLi)
def pBl : Pz Body := Pz.con Body.bl (fun a => match a with | .bl n => some n | _ => none) (fun b a h => by cases b <;> cases h; rfl) hoLb
def pDead : Pz Body := Pz.con Body.dead (fun a => match a with | .dead n => some n | _ => none) (fun b a h => by cases b <;> cases h; rfl) hoN
def pCells (cs : List (Pz At)) : Pz Body := Pz.con Body.cells (fun a => match a with | .cells n => some n | _ => none) (fun b a h => by cases b <;> cases h; rfl) (Pz.list cs)
def pBlk (o : Bool) (p : Pz Body) : Pz Blk := Pz.con (fun x : Bool × Body => Blk.mk x.1 x.2) (fun a => some (a.own, a.body)) (fun b a h => by cases h; rfl) (Pz.two (Pz.lit o) p)
def pSt (tm : List (Pz (Nat × AV))) (H : List (Pz Blk)) : Pz St := Pz.con (fun x : List (Nat × AV) × List Blk => St.mk x.1 x.2) (fun a => some (a.tm, a.H)) (fun b a h => by cases h; rfl) (Pz.two (Pz.list tm) (Pz.list H))

def lpT (lo0 : Nat) (p : Pz St) (F : List Hv → Bool × LO) (lo : Nat) (st : St) : Option (Bool × LO) :=
  match Nat.beq lo lo0 with
  | true => (match p.fet st with | some hs => some (F hs) | none => none)
  | false => none
theorem lpT_inv {lo0 : Nat} {p : Pz St} {F : List Hv → Bool × LO} {lo : Nat} {st : St} {o : Bool × LO} (h : lpT lo0 p F lo st = some o) : ∃ hs, lo = lo0 ∧ st = p.fil hs 0 ∧ F hs = o := by
  unfold lpT at h
  cases h1 : Nat.beq lo lo0 with
  | false => rw [h1] at h; cases h
  | true =>
    rw [h1] at h
    cases h2 : p.fet st with
    | none => rw [h2] at h; cases h
    | some hs =>
      rw [h2] at h
      cases h
      refine ⟨hs, Nat.eq_of_beq_eq_true h1, ?_, rfl⟩
      have := (p.ok st hs h2).2 [] []
      simp only [List.nil_append, List.append_nil, List.length_nil] at this
      exact this.symm
end Go.Rf
