/-
  Plain helpers: numbers that do not wrap, loops that go over a row, rows.
-/
import Derived.Test.YtohhkgieggfpeaaF2
import Derived.Test.YtohhkgieggfpeaaOrd
import Derived.IntWalk
set_option linter.unusedVariables false
set_option linter.unusedSimpArgs false
namespace Go.Rf
open Go

theorem br_if {α : Type} (c : Bool) (a b : α) : br c a b = if c = true then a else b := by cases c <;> rfl
theorem grd_true {R : Type} (x : Option R) : grd true x = x := rfl
theorem grd_if {R : Type} (c : Bool) (x : Option R) : grd c x = if c = true then x else none := by cases c <;> rfl
theorem grd_of {R : Type} {c : Bool} {x : Option R} (h : c = true) : grd c x = x := by rw [h]; rfl
theorem br_of {α : Type} {c : Bool} {a b : α} (h : c = true) : br c a b = a := by rw [h]; rfl
theorem br_no {α : Type} {c : Bool} {a b : α} (h : c = false) : br c a b = b := by rw [h]; rfl

theorem wrap64 {x : Int} (h1 : -9223372036854775808 ≤ x) (h2 : x ≤ 9223372036854775807) : IntKind.i64.wrap x = x := IntWalk.i64_in x ⟨h1, h2⟩
theorem addI1 {i : Nat} (h : i < 4611686018427387904) : addI .i64 (Int.ofNat i) 1 = Int.ofNat (i + 1) := by
  show IntKind.i64.wrap ((i : Int) + 1) = ((i + 1 : Nat) : Int)
  rw [wrap64 (by omega) (by omega)]
  omega
theorem ltI_t {a b : Int} (h : a < b) : ltI a b = true := decide_eq_true h
theorem ltI_f {a b : Int} (h : ¬ a < b) : ltI a b = false := decide_eq_false h
theorem ltN_t {a b : Nat} (h : a < b) : ltI (Int.ofNat a) (Int.ofNat b) = true := decide_eq_true (by simp; omega)
theorem ltN_f {a b : Nat} (h : b ≤ a) : ltI (Int.ofNat a) (Int.ofNat b) = false := decide_eq_false (by simp; omega)
theorem okIx_t {i n : Nat} (h : i < n) : okIx (Int.ofNat i) n = true := decide_eq_true ⟨by simp, by simp; omega⟩
theorem ix1 (i : Nat) : ixO 0 (Int.ofNat i) 1 = i := by simp [ixO]
theorem gF_get {xs : List Nat} {i : Nat} (h : i < xs.length) : gF xs i = xs[i] := by simp [gF, List.getD_eq_getElem?_getD, h]
theorem pF_all (xs : List Nat) : pF xs 0 (muN xs.length 1) = xs := by simp [pF, muN]
theorem pF_all3 {xs : List Nat} {n : Nat} (h : xs.length = n * 3) : pF xs 0 (muN n 3) = xs := by simp [pF, muN, ← h]
theorem toN_nat (n : Nat) : toN (Int.ofNat n) = n := rfl
theorem big_gt {k : Nat} (h : k < 281474976710656) : k < big := by rw [big_eq]; exact h

/-- A loop that looks from place to place till something is met. -/
theorem scan {α β : Type} {L : Nat → Int → Option (α ⊕ β)} {len : Nat} (p : Nat → Bool) {g : Nat → α} {e : β}
    (hs : ∀ n i, i < len → L (n + 1) (Int.ofNat i) = if p i = true then L n (Int.ofNat (i + 1)) else some (.inl (g i)))
    (he : ∀ n, L (n + 1) (Int.ofNat len) = some (.inr e)) :
    ∀ k i n, i + k = len → k < n → ((∀ j, i ≤ j → j < len → p j = true) ∧ L n (Int.ofNat i) = some (.inr e)) ∨ ∃ j, i ≤ j ∧ j < len ∧ p j = false ∧ L n (Int.ofNat i) = some (.inl (g j))
  | 0, i, n, hk, hn => by
    obtain ⟨n, rfl⟩ : ∃ m, n = m + 1 := ⟨n - 1, by omega⟩
    obtain rfl : i = len := by omega
    exact .inl ⟨fun j h1 h2 => by omega, he n⟩
  | k + 1, i, n, hk, hn => by
    obtain ⟨n, rfl⟩ : ∃ m, n = m + 1 := ⟨n - 1, by omega⟩
    have hi : i < len := by omega
    rw [hs n i hi]
    cases hp : p i with
    | false => exact .inr ⟨i, Nat.le_refl _, hi, hp, by simp⟩
    | true =>
      simp only [if_pos]
      rcases scan p hs he k (i + 1) n (by omega) (by omega) with ⟨h1, h2⟩ | ⟨j, h1, h2, h3, h4⟩
      · refine .inl ⟨fun j h3 h4 => ?_, h2⟩
        by_cases e : j = i
        · rw [e]; exact hp
        · exact h1 j (by omega) h4
      · exact .inr ⟨j, by omega, h2, h3, h4⟩
theorem scan_all {α β : Type} {L : Nat → Int → Option (α ⊕ β)} (xs : List Nat) (p : Nat → Bool) {g : Nat → α} {e : β}
    (hs : ∀ n i, i < xs.length → L (n + 1) (Int.ofNat i) = if p (xs.getD i 0) = true then L n (Int.ofNat (i + 1)) else some (.inl (g i)))
    (he : ∀ n, L (n + 1) (Int.ofNat xs.length) = some (.inr e)) (hl : xs.length < 281474976710656) :
    (xs.all p = true ∧ L big 0 = some (.inr e)) ∨ ∃ j, j < xs.length ∧ xs.all p = false ∧ L big 0 = some (.inl (g j)) := by
  rcases scan (fun i => p (xs.getD i 0)) hs he xs.length 0 big (by omega) (big_gt hl) with ⟨h1, h2⟩ | ⟨j, h1, h2, h3, h4⟩
  · refine .inl ⟨?_, h2⟩
    rw [List.all_eq_true]
    intro x hx
    obtain ⟨i, hi, rfl⟩ := List.getElem_of_mem hx
    have := h1 i (Nat.zero_le _) hi
    simpa [List.getD_eq_getElem?_getD, hi] using this
  · refine .inr ⟨j, h2, ?_, h4⟩
    rw [List.all_eq_false]
    refine ⟨xs[j], List.getElem_mem _, ?_⟩
    simpa [List.getD_eq_getElem?_getD, h2] using h3
/-- A loop that goes over all places. -/
theorem folds {σ ρ : Type} {L : Nat → Int → σ → Option ρ} {len : Nat} (f : Nat → σ → σ) {e : σ → ρ}
    (hs : ∀ n i s, i < len → L (n + 1) (Int.ofNat i) s = L n (Int.ofNat (i + 1)) (f i s)) (he : ∀ n s, L (n + 1) (Int.ofNat len) s = some (e s)) :
    ∀ k i n s, i + k = len → k < n → L n (Int.ofNat i) s = some (e ((List.range' i k).foldl (fun s j => f j s) s))
  | 0, i, n, s, hk, hn => by
    obtain ⟨n, rfl⟩ : ∃ m, n = m + 1 := ⟨n - 1, by omega⟩
    obtain rfl : i = len := by omega
    exact he n s
  | k + 1, i, n, s, hk, hn => by
    obtain ⟨n, rfl⟩ : ∃ m, n = m + 1 := ⟨n - 1, by omega⟩
    rw [hs n i s (by omega), folds f hs he k (i + 1) n (f i s) (by omega) (by omega)]
    simp [List.range'_succ]
/-- A loop that copies. -/
theorem copy_fold (xs : List Nat) : ∀ (k i : Nat) (ys : List Nat), i + k = xs.length → ys.length = xs.length → (List.range' i k).foldl (fun s j => s.set j (xs.getD j 0)) ys = ys.take i ++ xs.drop i
  | 0, i, ys, hk, hl => by
    obtain rfl : i = xs.length := by omega
    simp [← hl]
  | k + 1, i, ys, hk, hl => by
    have hi : i < xs.length := by omega
    simp only [List.range'_succ, List.foldl_cons]
    rw [copy_fold xs k (i + 1) _ (by omega) (by simpa using hl)]
    have e1 : (ys.set i (xs.getD i 0)).take (i + 1) = ys.take i ++ [xs.getD i 0] := by
      refine List.ext_getElem (by simp; omega) fun j h1 h2 => ?_
      simp only [List.getElem_take, List.getElem_set, List.getElem_append, List.length_take]
      by_cases e : i = j
      · subst e; simp; intro h; omega
      · rw [if_neg e, dif_pos (by simp at h2; omega)]
    have e2 : xs.drop i = xs.getD i 0 :: xs.drop (i + 1) := by
      rw [List.drop_eq_getElem_cons hi]
      simp [List.getD_eq_getElem?_getD, hi]
    rw [e1, e2]
    simp
end Go.Rf
