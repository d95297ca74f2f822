/-
  The best glide and the stall are greatest of all knots, lifts rise through nothing where they are told to, nearly, and areas are those of their mirror pictures, turned over. (P3)
-/
import Derived.Test.YthaiinndikpmcaaRows
import Derived.Test.YthaiinndikpmcaaBestsL
import Derived.Test.YthaiinndikpmcaaBestsS2
import Derived.ProofKit
import Derived.OpenShut
namespace Go.Proofs.Ythaiinndikpmcaa.fnBestsP
open Go Go.Rf Go.ChangeShapes Go.WideShapes Go.ChangeAt Go.RowKit
set_option linter.unusedVariables false
set_option linter.unusedSimpArgs false

theorem own : ownKnob Try.prog.godebug = none := by kernel_rfl
theorem laidOut : laidOutB Try.prog = true := by kernel_rfl
theorem shapes : shAs Try.prog Try.f3.params.toList = some [.one (.row 1 (.i .u8)), .one (.row 1 (.i .u8))] := by kernel_rfl
theorem answers (pts : List PT) (h : All2 ArgP [.one (.row 1 (.i .u8)), .one (.row 1 (.i .u8))] pts) : zby pts = some (true, A1 (.bool true), []) := by
  obtain ⟨_, _, rfl, s0, t0⟩ := h.cons_inv
  obtain ⟨_, rfl, r0⟩ := s0.one_inv
  obtain ⟨n1, _, rfl, z1, m1, ⟨x1, rfl, k1⟩⟩ := r0
  obtain rfl : n1 = x1.length := by have := z1; simp [Body.size] at this; omega
  obtain ⟨_, _, rfl, s1, t1⟩ := t0.cons_inv
  obtain ⟨_, rfl, r1⟩ := s1.one_inv
  obtain ⟨n2, _, rfl, z2, m2, ⟨x2, rfl, k2⟩⟩ := r1
  obtain rfl : n2 = x2.length := by have := z2; simp [Body.size] at this; omega
  obtain rfl := t1.nil_inv
  obtain ⟨g1, g2⟩ := laws_FnBests_of (plain_FnBests k1 m1 k2 m2)
  show some (_, AV.v (.one (.bool _)), _) = _
  rw [g1, g2]
  rfl

set_option maxRecDepth 100000 in
theorem lifted (os : Os) (started : os.Started) (H : Type) (enc : TypeId × Value → H) :
    ReturnsInHanded {} Try.checked os 3 .any (Rows.fnBestsSpec.pre6 enc Try.prog Try.f3 Rows.fnBestsRow.domain false) (Rows.fnBestsSpec.post enc Try.prog Try.f3 false true false false) := by
  refine returnsInHanded_of_change (C := Try.checked) own started (by kernel_rfl) Try.func3
    (ChangeSpec.witness6 (enc := enc) (C := Try.checked) false ⟨#[], #[.slice none 0 0, .slice none 0 0], []⟩ 8 (by kernel_rfl) (by kernel_rfl) (by kernel_rfl) (by kernel_rfl)) ?_
  intro W base args ds gs before hval0 hW hcnd _
  have hval : ∀ (j : Nat) t v, Try.f3.params[j]? = some t → args[j]? = some v → Value.okWide Try.prog W .any base t v := hval0
  have hW' := hW
  obtain ⟨p, q, hA0, hV, rfl, hfz, hnd⟩ := hW
  have hA : DataW.TrodAll enc Try.prog W 0 (fun _ => true) true Try.f3.params.toList args.toList ds p := hA0
  obtain ⟨rfl, rfl⟩ := trodVars_none hV
  obtain ⟨pts, hD, hS⟩ := args_open (fun j t v h1 h2 => hval j t v (by simpa using h1) (by simpa using h2)) hA shapes
  rw [Try.params3] at hA
  obtain ⟨v0, vs0, d0, ds0, p0, q0, hargs, rfl, rfl, h0, r0⟩ := trodAll_cons hA
  obtain ⟨v1, vs1, d1, ds1, p1, q1, rfl, rfl, rfl, h1, r1⟩ := trodAll_cons r0
  obtain ⟨rfl, rfl, rfl⟩ := trodAll_nil r1
  have lt0 : ∀ x ∈ p0, x.block < W.heap.size := by obtain ⟨m, hm⟩ := h0; exact DataW.trod_lt m _ _ _ hm
  have lt1 : ∀ x ∈ p1, x.block < W.heap.size := by obtain ⟨m, hm⟩ := h1; exact DataW.trod_lt m _ _ _ hm
  obtain rfl : args = #[v0, v1] := by cases args; simp_all
  clear hA0 hval0
  refine (law_calls zez fi3_ok hD (answers pts hS)).mono fun e W' ⟨he, bel⟩ => ?_
  subst he
  exact ⟨_, rfl, _, _, _, [], _, [], hW', trodAll_mk1 (shut_bool Try.underlying4 _), (trodAll_cons_mk (Below.trod laidOut (by kernel_rfl) (of_decide_eq_true (by kernel_rfl)) h0 bel lt0) (trodAll_cons_mk (Below.trod laidOut (by kernel_rfl) (of_decide_eq_true (by kernel_rfl)) h1 bel lt1) trodAll_mk0)), rfl, bel.frame _, fun h => by cases h⟩

theorem over : Rows.fnBestsRow.holds Try.pinned (OpenSpec.ofChange Rows.fnBestsSpec) :=
  OpenClaim.holds_of_wide 3 Try.f3 rfl rfl rfl rfl rfl rfl rfl ⟨rfl, rfl, rfl, rfl, rfl⟩ rfl rfl rfl rfl rfl (by kernel_rfl) Try.func3 (by kernel_rfl)
    (of_decide_eq_true (by kernel_rfl)) (by unfold Func.isWrapper; first | (rw [if_pos (by decide +kernel)]; kernel_rfl) | (rw [if_neg (by decide +kernel)]; exact ⟨rfl, rfl⟩))
    (fun os started H enc _ => lifted os started H enc)

theorem proved : Rows.FnBestsSaid := over
end Go.Proofs.Ythaiinndikpmcaa.fnBestsP
