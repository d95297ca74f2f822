/-
  What the row's reading of the arguments says of them, as deep values; what a law's summary says of its calls.
-/
import Derived.Test.YtohhkgieggfpeaaF2
import Derived.ProofKit
import Derived.Deep.Slices
import Derived.Below
set_option linter.unusedVariables false
namespace Go.Rf
open Go Go.Deep Go.RowKit

/-- The shape of a cell. -/
inductive Sh where
  | b
  | i (k : IntKind)
  | f (k : FloatKind)
  | row (sz : Nat) (q : Sh)

/-- All cells of one scalar shape. -/
def allB : List Sh → Bool
  | [] => true
  | .b :: r => allB r
  | _ => false
def allI (k : IntKind) : List Sh → Bool
  | [] => true
  | .i k' :: r => match decide (k = k') with | true => allI k r | false => false
  | _ => false
def allF (k : FloatKind) : List Sh → Bool
  | [] => true
  | .f k' :: r => match decide (k = k') with | true => allF k r | false => false
  | _ => false
def oneSh : List Sh → Option Sh
  | .b :: r => match allB r with | true => some .b | false => none
  | .i k :: r => match allI k r with | true => some (.i k) | false => none
  | .f k :: r => match allF k r with | true => some (.f k) | false => none
  | _ => none

section
variable (P : Program)
def shapeFs (g : TypeId → Option (List Sh)) : List Field → Nat → Option (List Sh)
  | [], _ => some []
  | f :: r, off => match Nat.beq f.offset off with
    | false => none
    | true => match g f.type with
      | some ss => match Nat.beq (P.cellsOf f.type) ss.length with
        | false => none
        | true => match shapeFs g r (off + ss.length) with | some rs => some (ss ++ rs) | none => none
      | none => none
def shapeT : Nat → TypeId → Option (List Sh)
  | 0, _ => none
  | n + 1, T => match P.underlying T with
    | some .bool => some [.b]
    | some (.int k) => some [.i k]
    | some (.float k) => some [.f k]
    | some (.slice e) => match shapeT n e with
      | some ss => match oneSh ss with
        | some q => match Nat.beq (P.cellsOf e) ss.length with | true => some [.row ss.length q] | false => none
        | none => none
      | none => none
    | some (.struct fs) => match shapeFs P (shapeT n) fs.toList 0 with
      | some ss => match Nat.beq (P.cellsOf T) ss.length with | true => some ss | false => none
      | none => none
    | _ => none
end

def bdI (k : IntKind) (n : Int) : Prop := k.min ≤ n ∧ n ≤ k.max
def RowP : Sh → Body → Prop
  | .b, b => ∃ xs, b = .bl xs
  | .i k, b => ∃ xs, b = .il k xs ∧ ∀ x ∈ xs, bdI k x
  | .f k, b => ∃ xs, b = .fl k xs ∧ ∀ x ∈ xs, canW k x
  | .row _ _, _ => False
def ShP : Sh → PV → Prop
  | .b, p => ∃ b, p = .s (.bool b)
  | .i k, p => ∃ n, p = .s (.int k n) ∧ bdI k n
  | .f k, p => ∃ x, p = .s (.flt k x) ∧ canW k x
  | .row sz q, p => ∃ len b, p = .row sz len b ∧ b.size = len * sz ∧ len ≤ maxLen ∧ RowP q b

section
variable {H : Type} {enc : TypeId × Value → H} {P : Program} {w : World} {sp : Nat → Bool} {held : Bool}

theorem wf_float {k : FloatKind} {b : Nat} (h : (Lit.float k b).wf = true) : wfW k b := by
  unfold wfW
  cases k
  · have e : (2 : Nat) ^ FloatKind.f32.format.width = 2 ^ 32 := by decide
    rw [e]; exact of_decide_eq_true h
  · have e : (2 : Nat) ^ FloatKind.f64.format.width = 2 ^ 64 := by decide +kernel
    rw [e]; exact of_decide_eq_true h
theorem trod_float {T : TypeId} {k : FloatKind} {fuel : Nat} {cs : List Value} {x : DataW H × List MemPlace} (ht : P.underlying T = some (.float k)) (h : DataW.trod enc P w 0 sp held fuel T cs = some x) : ∃ b, cs = [.float k b] ∧ wfW k b := by
  cases fuel with
  | zero => simp [DataW.trod] at h
  | succ n =>
    unfold DataW.trod at h
    rw [ht] at h
    split at h <;> (try (rename_i e; cases e; done)) <;> try (cases h; done)
    rename_i e
    cases e
    split at h
    · rename_i hk
      obtain ⟨rfl, hw⟩ := hk
      exact ⟨_, rfl, wf_float hw⟩
    · cases h
theorem trod_int' {T : TypeId} {k : IntKind} {fuel : Nat} {cs : List Value} {x : DataW H × List MemPlace} (ht : P.underlying T = some (.int k)) (h : DataW.trod enc P w 0 sp held fuel T cs = some x) : ∃ n, cs = [.int k n] ∧ bdI k n := by
  cases fuel with
  | zero => simp [DataW.trod] at h
  | succ n =>
    unfold DataW.trod at h
    rw [ht] at h
    split at h <;> (try (rename_i e; cases e; done)) <;> try (cases h; done)
    rename_i e
    cases e
    split at h
    · rename_i hk
      obtain ⟨rfl, hw⟩ := hk
      refine ⟨_, rfl, ?_⟩
      simpa [Lit.wf, bdI] using hw
    · cases h
theorem trod_bool' {T : TypeId} {fuel : Nat} {cs : List Value} {x : DataW H × List MemPlace} (ht : P.underlying T = some .bool) (h : DataW.trod enc P w 0 sp held fuel T cs = some x) : ∃ b, cs = [.bool b] := by
  cases fuel with
  | zero => simp [DataW.trod] at h
  | succ n =>
    unfold DataW.trod at h
    rw [ht] at h
    split at h <;> (try (rename_i e; cases e; done)) <;> try (cases h; done)
    exact ⟨_, rfl⟩

def CellQ : Sh → Value → Prop
  | .b, v => ∃ b, v = .bool b
  | .i k, v => ∃ n, v = .int k n ∧ bdI k n
  | .f k, v => ∃ b, v = .float k b ∧ wfW k b
  | .row _ _, _ => False

theorem allB_get : ∀ {l : List Sh}, allB l = true → ∀ {i : Nat} {s : Sh}, l[i]? = some s → s = .b
  | [], _, i, s, h => by simp at h
  | .b :: r, h, 0, s, hs => by simp at hs; exact hs.symm
  | .b :: r, h, i + 1, s, hs => allB_get (l := r) h (by simpa using hs)
theorem allI_get {k : IntKind} : ∀ {l : List Sh}, allI k l = true → ∀ {i : Nat} {s : Sh}, l[i]? = some s → s = .i k
  | [], _, i, s, h => by simp at h
  | .i k' :: r, h, i, s, hs => by
    simp only [allI] at h
    split at h
    · rename_i hk
      have hk := of_decide_eq_true hk
      subst hk
      cases i with
      | zero => simp at hs; exact hs.symm
      | succ i => exact allI_get h (by simpa using hs)
    · cases h
theorem allF_get {k : FloatKind} : ∀ {l : List Sh}, allF k l = true → ∀ {i : Nat} {s : Sh}, l[i]? = some s → s = .f k
  | [], _, i, s, h => by simp at h
  | .f k' :: r, h, i, s, hs => by
    simp only [allF] at h
    split at h
    · rename_i hk
      have hk := of_decide_eq_true hk
      subst hk
      cases i with
      | zero => simp at hs; exact hs.symm
      | succ i => exact allF_get h (by simpa using hs)
    · cases h
theorem oneSh_get {l : List Sh} {q : Sh} (h : oneSh l = some q) : (∀ {i : Nat} {s : Sh}, l[i]? = some s → s = q) ∧ 0 < l.length ∧ ∀ sz p, q ≠ .row sz p := by
  unfold oneSh at h
  split at h
  · split at h
    · rename_i hk
      cases h
      exact ⟨fun {i s} hs => by cases i with | zero => simp at hs; exact hs.symm | succ i => exact allB_get hk (by simpa using hs), by simp, fun _ _ e => by cases e⟩
    · cases h
  · split at h
    · rename_i hk
      cases h
      exact ⟨fun {i s} hs => by cases i with | zero => simp at hs; exact hs.symm | succ i => exact allI_get hk (by simpa using hs), by simp, fun _ _ e => by cases e⟩
    · cases h
  · split at h
    · rename_i hk
      cases h
      exact ⟨fun {i s} hs => by cases i with | zero => simp at hs; exact hs.symm | succ i => exact allF_get hk (by simpa using hs), by simp, fun _ _ e => by cases e⟩
    · cases h
  · cases h

theorem cellQ_of {q : Sh} {p : PV} {v : Value} (h : ShP q p) (hd : DA w p v) (hq : ∀ sz r, q ≠ .row sz r) : CellQ q v := by
  cases q with
  | b => obtain ⟨b, rfl⟩ := h; exact ⟨b, hd⟩
  | i k => obtain ⟨n, rfl, hn⟩ := h; exact ⟨n, hd, hn⟩
  | f k => obtain ⟨x, rfl, hx⟩ := h; obtain ⟨b, h1, h2, _⟩ := hd; exact ⟨b, h1, h2⟩
  | row sz r => exact absurd rfl (hq sz r)

/-- What a row of cells holds. -/
def rowQ (w : World) (B o : Nat) (q : Sh) (n : Nat) : Body :=
  match q with
  | .b => .bl ((List.range n).map fun j => match w.cell? ⟨B, o + j, none⟩ with | some (.bool b) => b | _ => false)
  | .i k => .il k ((List.range n).map fun j => match w.cell? ⟨B, o + j, none⟩ with | some (.int _ b) => b | _ => 0)
  | .f k => .fl k ((List.range n).map fun j => match w.cell? ⟨B, o + j, none⟩ with | some (.float _ b) => cn k b | _ => 0)
  | .row _ _ => .cells []
theorem rowQ_ok {q : Sh} (hq : ∀ sz r, q ≠ .row sz r) {B o n : Nat} (h : ∀ j, j < n → ∃ v, w.cell? ⟨B, o + j, none⟩ = some v ∧ CellQ q v) :
    (rowQ w B o q n).isRow = true ∧ (rowQ w B o q n).size = n ∧ RowP q (rowQ w B o q n) ∧ ∀ j a, j < n → (rowQ w B o q n).get j = some a → ∃ u, w.cell? ⟨B, o + j, none⟩ = some u ∧ R0 NoB [] a u := by
  cases q with
  | b =>
    refine ⟨rfl, by simp [rowQ, Body.size], ⟨_, rfl⟩, fun j a hj ha => ?_⟩
    obtain ⟨v, hv, b, rfl⟩ := h j hj
    refine ⟨_, hv, ?_⟩
    simp only [rowQ, Body.get] at ha
    cases ha
    simp [List.getD_eq_getElem?_getD, hj, hv, R0]
  | i k =>
    refine ⟨rfl, by simp [rowQ, Body.size], ⟨_, rfl, fun x hx => ?_⟩, fun j a hj ha => ?_⟩
    · obtain ⟨j, hj, rfl⟩ := List.mem_map.1 hx
      obtain ⟨v, hv, n, rfl, hn⟩ := h j (by simpa using hj)
      simp only [hv]; exact hn
    · obtain ⟨v, hv, n, rfl, _⟩ := h j hj
      refine ⟨_, hv, ?_⟩
      simp only [rowQ, Body.get] at ha
      cases ha
      simp [List.getD_eq_getElem?_getD, hj, hv, R0]
  | f k =>
    refine ⟨rfl, by simp [rowQ, Body.size], ⟨_, rfl, fun x hx => ?_⟩, fun j a hj ha => ?_⟩
    · obtain ⟨j, hj, rfl⟩ := List.mem_map.1 hx
      obtain ⟨v, hv, b, rfl, hb⟩ := h j (by simpa using hj)
      simp only [hv]; exact canW_of hb
    · obtain ⟨v, hv, b, rfl, hb⟩ := h j hj
      refine ⟨_, hv, ?_⟩
      simp only [rowQ, Body.get] at ha
      cases ha
      simp [List.getD_eq_getElem?_getD, hj, hv, R0]
      exact hb
  | row sz r => exact absurd rfl (hq sz r)

theorem cells_open : ∀ (n : Nat) {T : TypeId} {ss : List Sh} {fuel : Nat} {cs : List Value} {x : DataW H × List MemPlace}, shapeT P n T = some ss → DataW.trod enc P w 0 sp held fuel T cs = some x → ∃ pvs, All2 (DA w) pvs cs ∧ All2 ShP ss pvs
  | 0, T, ss, fuel, cs, x, hs, _ => by cases hs
  | n + 1, T, ss, fuel, cs, x, hs, h => by
    unfold shapeT at hs
    split at hs
    · rename_i ht
      cases hs
      obtain ⟨b, rfl⟩ := trod_bool' ht h
      exact ⟨[.s (.bool b)], .cons rfl .nil, .cons ⟨b, rfl⟩ .nil⟩
    · rename_i k ht
      cases hs
      obtain ⟨m, rfl, hm⟩ := trod_int' ht h
      exact ⟨[.s (.int k m)], .cons rfl .nil, .cons ⟨m, rfl, hm⟩ .nil⟩
    · rename_i k ht
      cases hs
      obtain ⟨b, rfl, hb⟩ := trod_float ht h
      exact ⟨[.s (.flt k (cn k b))], .cons ⟨b, rfl, hb, rfl⟩ .nil, .cons ⟨_, rfl, canW_of hb⟩ .nil⟩
    · rename_i e ht
      split at hs
      case h_2 => cases hs
      rename_i es hes
      split at hs
      case h_2 => cases hs
      rename_i q hq
      split at hs
      case h_2 => cases hs
      rename_i hsz
      cases hs
      have hsz := beq_eq hsz
      obtain ⟨q1, q2, q3⟩ := oneSh_get hq
      rcases open_slice ht h with ⟨rfl, _⟩ | ⟨a, len, cap, m, fu, D, Pl, rfl, _, hle, hcap, hm, _, hel⟩
      · have := rowQ_ok (w := w) (n := 0) q3 (B := 0) (o := 0) (fun j hj => absurd hj (Nat.not_lt_zero _))
        obtain ⟨r1, r2, r3, _⟩ := this
        exact ⟨[.row es.length 0 (rowQ w 0 0 q 0)], .cons ⟨r1, by rw [r2]; simp, none, 0, rfl, Nat.le_refl _, fun hh => absurd hh (Nat.lt_irrefl _)⟩ .nil, .cons ⟨0, _, rfl, by rw [r2]; simp, Nat.zero_le _, r3⟩ .nil⟩
      · by_cases hl : 0 < len
        · have hlm : len ≤ m := by rw [hm]; split <;> omega
          -- the cells
          have hcell : ∀ i r, i < len → r < es.length → ∃ v, w.cell? ((a.add (i * es.length)).add r) = some v ∧ CellQ q v := by
            intro i r hi hr
            obtain ⟨cs', g1, g2⟩ := hel i (by omega)
            rw [hsz] at g1
            obtain ⟨_, g3, g4⟩ := World.cells?_some g1
            obtain ⟨pvs, k1, k2⟩ := cells_open n hes g2
            have hlen := k2.length
            have hlen' := k1.length
            obtain ⟨p, hp⟩ : ∃ p, pvs[r]? = some p := ⟨pvs[r]'(by omega), List.getElem?_eq_getElem (by omega)⟩
            obtain ⟨v, hv, hd⟩ := k1.get r p hp
            obtain ⟨s, hs⟩ : ∃ s, es[r]? = some s := ⟨es[r]'hr, List.getElem?_eq_getElem hr⟩
            obtain ⟨p', hp', hsp⟩ := k2.get r s hs
            rw [hp] at hp'
            cases hp'
            have := q1 hs
            subst this
            exact ⟨v, by rw [g4 r hr]; exact hv, cellQ_of hsp hd q3⟩
          obtain ⟨B, o, spot⟩ := a
          have hspot : spot = none := by
            obtain ⟨v, hv, _⟩ := hcell 0 0 hl q2
            simpa [Addr.add] using World.cell?_spot hv
          subst hspot
          have hc : ∀ j, j < len * es.length → ∃ v, w.cell? ⟨B, o + j, none⟩ = some v ∧ CellQ q v := by
            intro j hj
            have hi : j / es.length < len := (Nat.div_lt_iff_lt_mul q2).2 hj
            obtain ⟨v, hv, hq'⟩ := hcell (j / es.length) (j % es.length) hi (Nat.mod_lt _ q2)
            refine ⟨v, ?_, hq'⟩
            have e : ((⟨B, o, none⟩ : Addr).add (j / es.length * es.length)).add (j % es.length) = ⟨B, o + j, none⟩ := by
              have hj' : j / es.length * es.length + j % es.length = j := by rw [Nat.mul_comm]; exact Nat.div_add_mod j _
              have add : ∀ (o m : Nat), (⟨B, o, none⟩ : Addr).add m = ⟨B, o + m, none⟩ := by
                intro o m
                unfold Addr.add
                split
                · rename_i e; subst e; rfl
                · rfl
              rw [add, add, Nat.add_assoc, hj']
            rw [e] at hv; exact hv
          obtain ⟨r1, r2, r3, r4⟩ := rowQ_ok q3 hc
          have hB : B < w.heap.size := by
            obtain ⟨v, hv, _⟩ := hc 0 (Nat.mul_pos hl q2)
            rcases Nat.lt_or_ge B w.heap.size with hh | hh
            · exact hh
            · unfold World.cell? at hv
              simp [hh] at hv
          refine ⟨[.row es.length len (rowQ w B o q (len * es.length))], .cons ⟨r1, r2, _, cap, rfl, hle, fun _ => ⟨B, o, rfl, hB, fun j qq hj hqq => r4 j qq (by rw [r2] at hj; exact hj) hqq⟩⟩ .nil, .cons ⟨len, _, rfl, r2, by omega, r3⟩ .nil⟩
        · obtain rfl : len = 0 := by omega
          obtain ⟨r1, r2, r3, _⟩ := rowQ_ok (w := w) (n := 0) q3 (B := 0) (o := 0) (fun j hj => absurd hj (Nat.not_lt_zero _))
          exact ⟨[.row es.length 0 (rowQ w 0 0 q 0)], .cons ⟨r1, by rw [r2]; simp, _, cap, rfl, hle, fun hh => absurd hh (Nat.lt_irrefl _)⟩ .nil, .cons ⟨0, _, rfl, by rw [r2]; simp, Nat.zero_le _, r3⟩ .nil⟩
    · rename_i fs ht
      split at hs
      case h_2 => cases hs
      rename_i ss' hss
      split at hs
      case h_2 => cases hs
      rename_i hsz
      cases hs
      have hsz := beq_eq hsz
      obtain ⟨xs, fu, rfl, _, hl, hxl, hf⟩ := DataW.trod_struct ht h
      have key : ∀ (l : List Field) (off : Nat) (rs : List Sh), shapeFs P (shapeT P n) l off = some rs → (∀ f ∈ l, ∃ y, DataW.trod enc P w 0 sp held fu f.type ((cs.drop f.offset).take (P.cellsOf f.type)) = some y) →
          ∃ pvs, All2 (DA w) pvs ((cs.drop off).take rs.length) ∧ All2 ShP rs pvs := by
        intro l
        induction l with
        | nil => intro off rs hrs _; cases hrs; exact ⟨[], by simpa using All2.nil, .nil⟩
        | cons f l ih =>
          intro off rs hrs hall
          simp only [shapeFs] at hrs
          split at hrs
          · cases hrs
          rename_i hoff
          have hoff := beq_eq hoff
          split at hrs
          case h_2 => cases hrs
          rename_i fs' hfs'
          split at hrs
          · cases hrs
          rename_i hc
          have hc := beq_eq hc
          split at hrs
          case h_2 => cases hrs
          rename_i rr hrr
          cases hrs
          obtain ⟨y, hy⟩ := hall f (by simp)
          obtain ⟨p1, a1, a2⟩ := cells_open n hfs' hy
          obtain ⟨p2, b1, b2⟩ := ih _ _ hrr fun g hg => hall g (by simp [hg])
          refine ⟨p1 ++ p2, ?_, a2.append b2⟩
          rw [List.length_append, List.take_add, List.drop_drop]
          rw [hoff, hc] at a1
          exact a1.append b1
      obtain ⟨pvs, k1, k2⟩ := key fs.toList 0 ss hss fun f hf' => by
        obtain ⟨i, hi, rfl⟩ := List.getElem_of_mem hf'
        have hi' : i < fs.size := by simpa using hi
        have := hf i fs[i] (Array.getElem?_eq_getElem hi')
        rw [List.getElem?_eq_getElem (by omega : i < xs.length)] at this
        exact ⟨_, by simpa using this⟩
      refine ⟨pvs, ?_, k2⟩
      rw [List.drop_zero, List.take_of_length_le (by omega)] at k1
      exact k1
    · cases hs

theorem All2.cons_inv {α β : Type} {R : α → β → Prop} {a : α} {as : List α} {ys : List β} (h : All2 R (a :: as) ys) : ∃ y ys', ys = y :: ys' ∧ R a y ∧ All2 R as ys' := by
  cases h with
  | cons h1 h2 => exact ⟨_, _, rfl, h1, h2⟩
theorem All2.nil_inv {α β : Type} {R : α → β → Prop} {ys : List β} (h : All2 R [] ys) : ys = [] := by
  cases h; rfl

/-! ### Arguments -/
inductive SA where
  | one (s : Sh)
  | agg (ss : List Sh)
end
def isAgg (P : Program) (T : TypeId) : Bool := match P.underlying T with | some (.struct _) => true | some (.array _ _) => true | _ => false
def shA (P : Program) (T : TypeId) : Option SA :=
  match isAgg P T with
  | true => match shapeT P 8 T with | some ss => some (.agg ss) | none => none
  | false => match shapeT P 8 T with | some [s] => some (.one s) | _ => none
def shAs (P : Program) : List TypeId → Option (List SA)
  | [] => some []
  | T :: r => match shA P T with | some s => (match shAs P r with | some ss => some (s :: ss) | none => none) | none => none
def ArgP : SA → PT → Prop
  | .one s, .one p => ShP s p
  | .agg ss, .agg ps => All2 ShP ss ps
  | _, _ => False

theorem ArgP.one_inv {s : Sh} {p : PT} (h : ArgP (.one s) p) : ∃ q, p = .one q ∧ ShP s q := by
  cases p with
  | one q => exact ⟨q, rfl, h⟩
  | _ => exact h.elim
theorem ArgP.agg_inv {ss : List Sh} {p : PT} (h : ArgP (.agg ss) p) : ∃ qs, p = .agg qs ∧ All2 ShP ss qs := by
  cases p with
  | agg q => exact ⟨q, rfl, h⟩
  | _ => exact h.elim

section
variable {H : Type} {enc : TypeId × Value → H} {P : Program} {w : World} {sp : Nat → Bool} {held : Bool}
theorem arg_open {r : Reach} {base : Nat} {T : TypeId} {v : Value} {d : DataW H} {ps : List MemPlace} (hv : Value.okWide P w r base T v) (h : DataW.Trod enc P w 0 sp held T v d ps) {s : SA} (hs : shA P T = some s) : ∃ pt, DT w pt v ∧ ArgP s pt := by
  obtain ⟨fuel, h⟩ := h
  unfold shA at hs
  split at hs
  · rename_i hag
    split at hs
    case h_2 => cases hs
    rename_i ss hss
    cases hs
    obtain ⟨pvs, h1, h2⟩ := cells_open 8 hss h
    unfold Value.okWide at hv
    unfold isAgg at hag
    split at hag
    · rename_i fs ht
      rw [ht] at hv
      obtain ⟨arr, rfl, _⟩ := hv
      exact ⟨.agg pvs, ⟨arr, rfl, by simpa [Value.cells] using h1⟩, h2⟩
    · rename_i e n ht
      rw [ht] at hv
      obtain ⟨arr, rfl, _⟩ := hv
      exact ⟨.agg pvs, ⟨arr, rfl, by simpa [Value.cells] using h1⟩, h2⟩
    · cases hag
  · rename_i hag
    split at hs
    case h_2 => cases hs
    rename_i s1 hss
    cases hs
    obtain ⟨pvs, h1, h2⟩ := cells_open 8 hss h
    cases h2 with
    | cons k1 k2 =>
      cases k2
      rename_i p
      have hc : v.cells = #[v] := by
        unfold Value.okWide at hv
        unfold isAgg at hag
        cases v with
        | agg cs =>
          exfalso
          split at hv
          · rename_i ht; rw [ht] at hag; cases hag
          · rename_i ht; rw [ht] at hag; cases hag
          · unfold Cell.okWide at hv
            split at hv <;> first | (rename_i e _; cases e; done) | (rename_i e; cases e; done) | skip
            all_goals first | exact hv | (simp [Cell.ok] at hv; done) | skip
            all_goals (unfold Cell.ok at hv; split at hv <;> simp_all)
        | _ => rfl
      rw [hc] at h1
      cases h1 with
      | cons a1 a2 =>
        exact ⟨.one p, a1, k1⟩
theorem args_open {r : Reach} {base : Nat} : ∀ {Ts : List TypeId} {vs : List Value} {ds : List (DataW H)} {ps : List MemPlace} {ss : List SA}, (∀ (j : Nat) t v, Ts[j]? = some t → vs[j]? = some v → Value.okWide P w r base t v) →
    DataW.TrodAll enc P w 0 sp held Ts vs ds ps → shAs P Ts = some ss → ∃ pts, All2 (DT w) pts vs ∧ All2 ArgP ss pts
  | [], vs, ds, ps, ss, hv, h, hs => by
    cases hs
    obtain ⟨rfl, _, _⟩ := ChangeShapes.trodAll_nil h
    exact ⟨[], .nil, .nil⟩
  | T :: Ts, vs, ds, ps, ss, hv, h, hs => by
    obtain ⟨v, vs', d, ds', p, q, rfl, rfl, rfl, h1, h2⟩ := ChangeShapes.trodAll_cons h
    simp only [shAs] at hs
    split at hs
    case h_2 => cases hs
    rename_i s hs1
    split at hs
    case h_2 => cases hs
    rename_i rs hrs
    cases hs
    obtain ⟨pt, a1, a2⟩ := arg_open (hv 0 T v rfl rfl) h1 hs1
    obtain ⟨pts, b1, b2⟩ := args_open (fun j t u hj hu => hv (j + 1) t u (by simpa using hj) (by simpa using hu)) h2 hrs
    exact ⟨pt :: pts, .cons a1 b1, .cons a2 b2⟩

/-- A law's calls. -/
theorem law_calls {g : FuncId} {F : List PT → Option (Bool × AV × List Blk)} {fi : FnI} (hs : SumOne P g F) (hf : FnOk P g fi) {pts : List PT} {vals : Array Value} (hv : All2 (DT w) pts vals.toList) (hp : F pts = some (true, A1 (.bool true), [])) :
    Calls P g vals w fun e w' => e = .returned (.bool true) ∧ Below w.heap.size w w' := by
  have post : ∀ {u : Value} {w' : World}, (∃ γ, Fresh γ [] w w' ∧ RV γ [] (A1 (.bool true)) u) → u = .bool true ∧ Below w.heap.size w w' := by
    rintro u w' ⟨γ, h1, h2⟩
    exact ⟨h2, ⟨h1.fr.os, h1.fr.tape, h1.fr.output, h1.fr.size, fun k hk => h1.fr.block k hk (fun h => h)⟩⟩
  rcases hs pts _ _ hp w vals hv with ⟨v, w', h1, h2⟩ | ⟨h1, h2⟩
  · exfalso
    obtain ⟨fn, q1, q2, q3, q4, q5⟩ := hf.ex
    have h5' : fn.name ≠ "runtime.NumGoroutine" := by simpa using q5
    simp [callFunc, q1, h5', q2] at h1
  · exact h2.mono fun e w' ⟨u, he, hu⟩ => ⟨by rw [he, (post hu).1], (post hu).2⟩
end
end Go.Rf
