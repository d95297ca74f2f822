/-
  What abstract values and abstract memory say of a world of the model.
-/
import Derived.Test.YtohhkgieggfpeaaEval
import Derived.Calls
import Derived.Laws.World
import Derived.Laws.Sem
set_option linter.unusedVariables false
namespace Go.Rf
open Go

inductive All2 {α β : Type} (R : α → β → Prop) : List α → List β → Prop
  | nil : All2 R [] []
  | cons {a b as bs} : R a b → All2 R as bs → All2 R (a :: as) (b :: bs)

theorem All2.mono {α β : Type} {R S : α → β → Prop} {as : List α} {bs : List β} (h : All2 R as bs) (f : ∀ a b, a ∈ as → R a b → S a b) : All2 S as bs := by
  induction h with
  | nil => exact .nil
  | cons h _ ih => exact .cons (f _ _ (by simp) h) (ih fun a b m => f a b (by simp [m]))
theorem All2.length {α β : Type} {R : α → β → Prop} {as : List α} {bs : List β} (h : All2 R as bs) : as.length = bs.length := by
  induction h with
  | nil => rfl
  | cons _ _ ih => simp [ih]
theorem All2.append {α β : Type} {R : α → β → Prop} {as : List α} {bs : List β} {cs : List α} {ds : List β} (h : All2 R as bs) (k : All2 R cs ds) : All2 R (as ++ cs) (bs ++ ds) := by
  induction h with
  | nil => exact k
  | cons h _ ih => exact .cons h ih
theorem All2.get {α β : Type} {R : α → β → Prop} {as : List α} {bs : List β} (h : All2 R as bs) (i : Nat) (a : α) (ha : as[i]? = some a) : ∃ b, bs[i]? = some b ∧ R a b := by
  induction h generalizing i with
  | nil => simp at ha
  | cons h _ ih =>
    cases i with
    | zero => simp at ha; subst ha; exact ⟨_, rfl, h⟩
    | succ i => simpa using ih i (by simpa using ha)
theorem All2.of_get {α β : Type} {R : α → β → Prop} : ∀ {as : List α} {bs : List β}, as.length = bs.length → (∀ (i : Nat) (a : α) (b : β), as[i]? = some a → bs[i]? = some b → R a b) → All2 R as bs
  | [], [], _, _ => .nil
  | [], _ :: _, h, _ => by simp at h
  | _ :: _, [], h, _ => by simp at h
  | a :: as, b :: bs, h, f => .cons (f 0 a b rfl rfl) (All2.of_get (by simpa using h) fun i x y hx hy => f (i + 1) x y (by simpa using hx) (by simpa using hy))

theorem nth_eq {α : Type} : ∀ (l : List α) (n : Nat), nth l n = l[n]?
  | [], n => by simp [nth]
  | a :: r, 0 => rfl
  | a :: r, n + 1 => by simp [nth, nth_eq r n]
theorem setL_eq {α : Type} : ∀ (l : List α) (n : Nat) (a : α), setL l n a = l.set n a
  | [], n, _ => by cases n <;> rfl
  | b :: r, 0, _ => rfl
  | b :: r, n + 1, a => by simp [setL, setL_eq r n a]

/-- Where a block of the abstract memory lies: the model's block, its first cell there, the cells from there on. -/
abbrev Bm := Nat → Option (Nat × Nat × Nat)
def szH (H : List Blk) (t : Nat) : Nat := match nth H t with | some b => b.body.size | none => 0
def wfW (k : FloatKind) (b : Nat) : Prop := b < 2 ^ k.format.width

def isDead : Body → Bool
  | .dead _ => true
  | _ => false
def oneV : Value → Bool
  | .agg _ => false
  | .tuple _ => false
  | _ => true

section
variable (β : Bm) (H : List Blk)
def R0 : At → Value → Prop
  | .any, v => oneV v = true
  | .bool b, v => v = .bool b
  | .int k n, v => v = .int k n
  | .flt k x, v => ∃ b, v = .float k b ∧ wfW k b ∧ cn k b = x
  | .cx k x y, v => ∃ a b, v = .complex k a b ∧ wfW k a ∧ wfW k b ∧ cn k a = x ∧ cn k b = y
  | .ptr t off ext, v => ∃ B o C, β t = some (B, o, C) ∧ t < H.length ∧ off + ext ≤ szH H t ∧ v = .pointer (some ⟨B, o + off, none⟩)
  | .sl t off len sz, v => (∃ B o C cap, β t = some (B, o, C) ∧ t < H.length ∧ off + len * sz ≤ szH H t ∧ len ≤ cap ∧ off + cap * sz ≤ C ∧ v = .slice (some ⟨B, o + off, none⟩) len cap) ∨
      (len = 0 ∧ ∃ a, v = .slice a 0 0)
  | .nilsl, v => ∃ a, v = .slice a 0 0
  | .vw t off len sz, v => ∃ a cap, v = .slice a len cap ∧ len ≤ cap ∧ (0 < len → ∃ B o C, β t = some (B, o, C) ∧ t < H.length ∧ off + len * sz ≤ szH H t ∧ a = some ⟨B, o + off, none⟩)
  | .fn _ _, _ => False
def RAt : At → Value → Prop
  | .fn f caps, v => ∃ cs : Array Value, v = .func (.func f) #[] cs ∧ All2 (R0 β H) caps cs.toList
  | a, v => R0 β H a v
def RT : TV → Value → Prop
  | .one a, v => RAt β H a v
  | .agg cs, v => ∃ arr : Array Value, v = .agg arr ∧ All2 (RAt β H) cs arr.toList
def RV : AV → Value → Prop
  | .top, _ => True
  | .v x, v => RT β H x v
  | .tup vs, v => ∃ arr : Array Value, v = .tuple arr ∧ All2 (RT β H) vs arr.toList

theorem RAt_iff (a : At) (v : Value) : RAt β H a v ↔ (∃ f caps, a = .fn f caps ∧ ∃ cs : Array Value, v = .func (.func f) #[] cs ∧ All2 (R0 β H) caps cs.toList) ∨ R0 β H a v := by
  cases a
  case fn f caps =>
    constructor
    · rintro ⟨cs, h1, h2⟩; exact .inl ⟨f, caps, rfl, cs, h1, h2⟩
    · rintro (⟨f', caps', h, cs, h1, h2⟩ | h)
      · cases h; exact ⟨cs, h1, h2⟩
      · exact h.elim
  all_goals
    constructor
    · intro h; exact .inr h
    · rintro (⟨f', caps', h, _⟩ | h)
      · cases h
      · exact h
/-- A block of the abstract memory, in a world. -/
structure BRel (w : World) (b : Blk) (B o C : Nat) : Prop where
  cell : ∀ j a, j < b.body.size → b.body.get j = some a → ∃ v, w.cell? ⟨B, o + j, none⟩ = some v ∧ RAt β H a v
  own : b.own = true → o = 0 ∧ isDead b.body = false ∧ ∃ c e, w.heap[B]? = some (.cells c e (0, 0)) ∧ c.size = C
  lt : B < w.heap.size

structure WR (w : World) : Prop where
  blk : ∀ t b, nth H t = some b → match β t with
    | none => b.body.size = 0
    | some (B, o, C) => BRel β H w b B o C
  sep : ∀ t t' b b' x x', t ≠ t' → nth H t = some b → nth H t' = some b' → b.own = true → isDead b'.body = false → β t = some x → β t' = some x' → x.1 ≠ x'.1
end

/-- A block of the model that may be written. -/
def OwnB (β : Bm) (H : List Blk) (B : Nat) : Prop := ∃ t b o C, nth H t = some b ∧ b.own = true ∧ β t = some (B, o, C)

/-- What a piece of code has left as it was. -/
structure Fr (M : Nat → Prop) (w w' : World) : Prop where
  os : w'.os = w.os
  tape : w'.tape = w.tape
  output : w'.output = w.output
  size : w.heap.size ≤ w'.heap.size
  block : ∀ k, k < w.heap.size → ¬ M k → w'.heap[k]? = w.heap[k]?
theorem Fr.refl (M : Nat → Prop) (w : World) : Fr M w w := ⟨rfl, rfl, rfl, Nat.le_refl _, fun _ _ _ => rfl⟩
theorem Fr.trans {M M' : Nat → Prop} {a b c : World} (h : Fr M a b) (k : Fr M' b c) (hm : ∀ B, M' B → M B ∨ a.heap.size ≤ B) : Fr M a c :=
  ⟨k.os.trans h.os, k.tape.trans h.tape, k.output.trans h.output, Nat.le_trans h.size k.size, fun i hi hn =>
    (k.block i (Nat.lt_of_lt_of_le hi h.size) (fun hM => (hm i hM).elim hn (fun hle => absurd hi (Nat.not_lt.2 hle)))).trans (h.block i hi hn)⟩
theorem Fr.drew {M : Nat → Prop} {a b : World} (h : Fr M a b) : Fr M a b.drew := ⟨h.os, h.tape, h.output, h.size, h.block⟩

/-- The abstract memory has grown: no block has gone, none has become shorter. -/
structure Ext (H H' : List Blk) : Prop where
  len : H.length ≤ H'.length
  size : ∀ t, t < H.length → szH H t ≤ szH H' t
theorem Ext.refl (H : List Blk) : Ext H H := ⟨Nat.le_refl _, fun _ _ => Nat.le_refl _⟩
theorem Ext.trans {H H' H'' : List Blk} (h : Ext H H') (k : Ext H' H'') : Ext H H'' :=
  ⟨Nat.le_trans h.len k.len, fun t ht => Nat.le_trans (h.size t ht) (k.size t (Nat.lt_of_lt_of_le ht h.len))⟩

/-! ### Values carried from one memory to another -/
/-- What a value that names 't' alone asks. -/
def Mv (β : Bm) (H : List Blk) (β' : Bm) (H' : List Blk) (t : Nat) : Prop := ∀ x, β t = some x → t < H.length → β' t = some x ∧ t < H'.length ∧ szH H t ≤ szH H' t

section
variable {β β' : Bm} {H H' : List Blk}
theorem R0.move {a : At} {v : Value} (h : R0 β H a v) (hm : ∀ t, m0 t a = true → Mv β H β' H' t) : R0 β' H' a v := by
  cases a with
  | ptr t off ext =>
    obtain ⟨B, o, C, h1, h2, h3, h4⟩ := h
    obtain ⟨k1, k2, k3⟩ := hm t (by simp [m0]) _ h1 h2
    exact ⟨B, o, C, k1, k2, Nat.le_trans h3 k3, h4⟩
  | sl t off len sz =>
    rcases h with ⟨B, o, C, cap, h1, h2, h3, h4, h5, h6⟩ | h
    · obtain ⟨k1, k2, k3⟩ := hm t (by simp [m0]) _ h1 h2
      exact .inl ⟨B, o, C, cap, k1, k2, Nat.le_trans h3 k3, h4, h5, h6⟩
    · exact .inr h
  | vw t off len sz =>
    obtain ⟨a, cap, h1, h2, h3⟩ := h
    refine ⟨a, cap, h1, h2, fun hl => ?_⟩
    obtain ⟨B, o, C, h4, h5, h6, h7⟩ := h3 hl
    obtain ⟨k1, k2, k3⟩ := hm t (by simp [m0]) _ h4 h5
    exact ⟨B, o, C, k1, k2, Nat.le_trans h6 k3, h7⟩
  | _ => exact h
theorem m0s_mem {t : Nat} : ∀ {l : List At} {a : At}, a ∈ l → m0 t a = true → m0s t l = true
  | b :: r, a, hm, h => by
    simp only [m0s]
    rcases List.mem_cons.1 hm with rfl | hm
    · rw [h]
    · split
      · rfl
      · exact m0s_mem hm h
theorem m1s_mem {t : Nat} : ∀ {l : List At} {a : At}, a ∈ l → m1 t a = true → m1s t l = true
  | b :: r, a, hm, h => by
    simp only [m1s]
    rcases List.mem_cons.1 hm with rfl | hm
    · rw [h]
    · split
      · rfl
      · exact m1s_mem hm h
theorem mTs_mem {t : Nat} : ∀ {l : List TV} {a : TV}, a ∈ l → mT t a = true → mTs t l = true
  | b :: r, a, hm, h => by
    simp only [mTs]
    rcases List.mem_cons.1 hm with rfl | hm
    · rw [h]
    · split
      · rfl
      · exact mTs_mem hm h
theorem RAt.move {a : At} {v : Value} (h : RAt β H a v) (hm : ∀ t, m1 t a = true → Mv β H β' H' t) : RAt β' H' a v := by
  rcases (RAt_iff β H a v).1 h with ⟨f, caps, rfl, cs, h1, h2⟩ | h0
  · exact ⟨cs, h1, h2.mono fun x y hx hxy => hxy.move fun t ht => hm t (by simp only [m1]; exact m0s_mem hx ht)⟩
  · refine (RAt_iff β' H' a v).2 (.inr (h0.move fun t ht => hm t ?_))
    cases a <;> first | exact ht | cases h0
theorem RT.move {a : TV} {v : Value} (h : RT β H a v) (hm : ∀ t, mT t a = true → Mv β H β' H' t) : RT β' H' a v := by
  cases a with
  | one a => exact RAt.move h hm
  | agg cs =>
    obtain ⟨arr, h1, h2⟩ := h
    exact ⟨arr, h1, h2.mono fun x y hx hxy => hxy.move fun t ht => hm t (by simp only [mT]; exact m1s_mem hx ht)⟩
theorem RV.move {a : AV} {v : Value} (h : RV β H a v) (hm : ∀ t, mV t a = true → Mv β H β' H' t) : RV β' H' a v := by
  cases a with
  | top => trivial
  | v x => exact RT.move h hm
  | tup vs =>
    obtain ⟨arr, h1, h2⟩ := h
    exact ⟨arr, h1, h2.mono fun x y hx hxy => hxy.move fun t ht => hm t (by simp only [mV]; exact mTs_mem hx ht)⟩
end

/-- A value names blocks that are there. -/
theorem R0.any_one {β : Bm} {H : List Blk} {a : At} {v : Value} (h : R0 β H a v) : oneV v = true := by
  cases a with
  | any => exact h
  | bool b => cases h; rfl
  | int k n => cases h; rfl
  | flt k x => obtain ⟨b, rfl, _⟩ := h; rfl
  | cx k x y => obtain ⟨a, b, rfl, _⟩ := h; rfl
  | ptr t off ext => obtain ⟨B, o, C, _, _, _, rfl⟩ := h; rfl
  | sl t off len sz => rcases h with ⟨B, o, C, cap, _, _, _, _, _, rfl⟩ | ⟨_, a, rfl⟩ <;> rfl
  | nilsl => obtain ⟨a, rfl⟩ := h; rfl
  | vw t off len sz => obtain ⟨a, cap, rfl, _⟩ := h; rfl
  | fn f caps => cases h
theorem RAt.any_one {β : Bm} {H : List Blk} {a : At} {v : Value} (h : RAt β H a v) : oneV v = true := by
  rcases (RAt_iff β H a v).1 h with ⟨f, caps, rfl, cs, rfl, h2⟩ | h0
  · rfl
  · exact h0.any_one
theorem RAt.forget {β : Bm} {H : List Blk} {a : At} {v : Value} (h : RAt β H a v) : RAt β H .any v := h.any_one
theorem oneV_cells {v : Value} (h : oneV v = true) : v.cells = #[v] := by cases v <;> first | rfl | cases h
end Go.Rf
