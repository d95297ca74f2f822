/-
  slices.Backward's closure: what it gives, for every loop body that keeps the slice.
-/
import Derived.Test.YthaiinndikpmcaaBestsMr1
import Derived.Shelf.Abstract
set_option linter.unusedVariables false
set_option linter.unusedSimpArgs false
namespace Go.Proofs.Ythaiinndikpmcaa
open Go Go.RowKit Go.Shelf Go.Rf

attribute [local go_sem] Oper.semAt_some

def backTo {α : Type} (len : Nat) (f : Nat → α) (k : Nat) : List α := (List.range k).map fun j => f (len - 1 - j)
theorem backTo_succ {α : Type} (len : Nat) (f : Nat → α) (k : Nat) : backTo len f (k + 1) = backTo len f k ++ [f (len - 1 - k)] := by simp [backTo, List.range_succ]
theorem backTo_length {α : Type} (len : Nat) (f : Nat → α) (k : Nat) : (backTo len f k).length = k := by simp [backTo]
def Kept2 (p q : Nat) (A B : World) : Prop := B.heap[p]? = A.heap[p]? ∧ B.heap[q]? = A.heap[q]?
theorem Kept2.trans {p q : Nat} {A B C : World} (h : Kept2 p q A B) (k : Kept2 p q B C) : Kept2 p q A C := ⟨k.1.trans h.1, k.2.trans h.2⟩
theorem Kept2.refl (p q : Nat) (A : World) : Kept2 p q A A := ⟨rfl, rfl⟩
theorem kept_cell {A B : World} {a : Addr} (h : B.heap[a.block]? = A.heap[a.block]?) : B.cell? a = A.cell? a := by unfold World.cell?; rw [h]

set_option maxRecDepth 100000 in
set_option maxHeartbeats 4000000 in
theorem back1_in (F : Fence) (n : Nat) (h51 : F.fn 51) (hro : F.round = none) (hn : 1 ≤ n) (l Bs b off len cap : Nat) (hreach : len ≤ 24) {G : Nat × Nat → Prop} (f : Nat → { x : Nat × Nat // G x }) (hf : ∀ j, j < len → (f j).1.1 = j) (J Jx : List { x : Nat × Nat // G x } → World → Prop)
    (hY : ∀ pre x W, J pre W → pre.length < len → YieldAt F (n - 1) Try.prog l #[.int .i64 (x.1.1 : Int), .float .f32 x.1.2] W fun e W' =>
      (e = .returned (.bool true) ∧ J (pre ++ [x]) W' ∧ Kept2 Bs b W W') ∨ (e = .returned (.bool false) ∧ Jx (pre ++ [x]) W'))
    (W : World) (hBs : W.cell? ⟨Bs, 0, none⟩ = some (.slice (some ⟨b, off, none⟩) len cap)) (hc : ∀ j, j < len → W.cell? ⟨b, off + j, none⟩ = some (.float .f32 (f j).1.2)) (h0 : J [] W) :
    CallsIn F n Try.prog 51 #[.func (.yield l) #[] #[], .pointer (some ⟨Bs, 0, none⟩)] W fun e W' => (∃ v, e = .returned v) ∧
      ((∃ ys, ys = backTo len f len ∧ J ys W') ∨ (∃ pre, Jx pre W')) := by
  refine callsIn_of_wp Try.func51 rfl h51 ?_ hro
  simp only [Try.ntmps51, List.size_toArray, List.length_cons, List.length_nil, Nat.reduceAdd, Nat.reduceSub, Array.replicate_succ, Array.replicate_zero, List.push_toArray, List.append_toArray, List.nil_append, List.cons_append]
  gi_wp2
  gi_loopw [3] (fun i wr => ∃ k : Nat, k ≤ len ∧ i = .int .i64 ((len : Int) - 1 - k) ∧ J (backTo len f k) wr ∧ Kept2 Bs b W wr)
    (fun i _ => (intOf i + 1).toNat)
  case atStart =>
    exact ⟨0, Nat.zero_le _, by simp, h0, Kept2.refl _ _ _⟩
  case round =>
    obtain ⟨k, hk, rfl, hJs, hnx⟩ := hrel
    have hbx : wr.cell? ⟨Bs, 0, none⟩ = some (.slice (some ⟨b, off, none⟩) len cap) := (kept_cell hnx.1).trans hBs
    by_cases hlt : k < len
    · have hcx' : wr.cell? ⟨b, off + (len - 1 - k), none⟩ = some (.float .f32 (f (len - 1 - k)).1.2) := (kept_cell hnx.2).trans (hc _ (by omega))
      obtain ⟨fn, tmps, assign, body, hy, hR⟩ := hY _ (f (len - 1 - k)) wr hJs (by rw [backTo_length]; exact hlt)
      have e1 : (len : Int) - 1 - k = ((len - 1 - k : Nat) : Int) := by omega
      rw [hf _ (by omega)] at hy
      rw [e1]
      have hfm := hf (len - 1 - k) (by omega)
      have hsucc := backTo_succ len f k
      have hm : len - 1 - k + 1 + k = len := by omega
      generalize len - 1 - k = m at *
      gi_wp2
      refine hR.mono ?_
      rintro e W3 (⟨rfl, hJ3, hk3⟩ | ⟨rfl, hJx3⟩)
      · gi_wp2
        go_roundw
        case rel => exact ⟨k + 1, by omega, by congr 1; omega, by rw [hsucc]; exact hJ3, hnx.trans hk3⟩
        case measure => simp [intOf]
      · gi_wp2
        refine bodyPost_ret (results_none rfl _ _ _) rfl ?_
        exact ⟨⟨_, rfl⟩, .inr ⟨_, hJx3⟩⟩
    · obtain rfl : k = len := by omega
      gi_wp2
      go_end0
      exact ⟨⟨_, rfl⟩, .inl ⟨_, rfl, hJs⟩⟩
theorem back_stops (F : Fence) (n : Nat) (h51 : F.fn 51) (hro : F.round = none) (hn : 1 ≤ n) (Bs b off len cap : Nat) (hreach : len ≤ 24) {G : Nat × Nat → Prop} (f : Nat → { x : Nat × Nat // G x }) (hf : ∀ j, j < len → (f j).1.1 = j) (w : World) (hBl : Bs < w.heap.size) (hbl : b < w.heap.size)
    (hBs : w.cell? ⟨Bs, 0, none⟩ = some (.slice (some ⟨b, off, none⟩) len cap)) (hc : ∀ j, j < len → w.cell? ⟨b, off + j, none⟩ = some (.float .f32 (f j).1.2)) :
    SeqStopsK F n Try.prog 51 #[.pointer (some ⟨Bs, 0, none⟩)] (fun x : { x : Nat × Nat // G x } => #[Value.int .i64 (x.1.1 : Int), .float .f32 x.1.2]) (Kept2 Bs b) (fun ys => ys = backTo len f len) (fun _ => True) len w := fun l J Jx W hW _ _ hY h0 =>
  (back1_in F n h51 hro hn l Bs b off len cap hreach f hf J Jx hY W ((hW.cell (p := ⟨Bs, 0, none⟩) hBl).trans hBs) (fun j hj => (hW.cell (p := ⟨b, off + j, none⟩) hbl).trans (hc j hj)) h0).mono fun e W' ⟨he, h⟩ => ⟨he, h.imp id fun ⟨pre, hp⟩ => ⟨pre, trivial, hp⟩⟩
end Go.Proofs.Ythaiinndikpmcaa
