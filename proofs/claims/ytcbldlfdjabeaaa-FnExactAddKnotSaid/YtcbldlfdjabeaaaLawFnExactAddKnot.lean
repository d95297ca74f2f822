/-
  The program's AddKnot returns what the reference's returns, for all arguments.
-/
import Derived.Test.YtcbldlfdjabeaaaRows
import Derived.Test.YtcbldlfdjabeaaaAddKnotL
import Derived.Test.YtcbldlfdjabeaaaAddKnotS
import Derived.ProofKit
import Derived.OpenShut
namespace Go.Proofs.Ytcbldlfdjabeaaa.fnExactAddKnotP
open Go Go.Rf Go.ChangeShapes Go.WideShapes Go.ChangeAt Go.RowKit
set_option linter.unusedVariables false
set_option linter.unusedSimpArgs false

theorem own : ownKnob Try.prog.godebug = none := by kernel_rfl
theorem laidOut : laidOutB Try.prog = true := by kernel_rfl
theorem shapes : shAs Try.prog Try.f4.params.toList = some [.agg [.row 1 (.f .f32), .row 1 (.f .f32), .row 1 (.f .f32)], .one (.f .f32), .one (.f .f32), .one (.f .f32)] := by kernel_rfl
theorem answers (pts : List PT) (h : All2 ArgP [.agg [.row 1 (.f .f32), .row 1 (.f .f32), .row 1 (.f .f32)], .one (.f .f32), .one (.f .f32), .one (.f .f32)] pts) : z5g pts = some (true, A1 (.bool true), []) := by
  obtain ⟨_, _, rfl, s0, t0⟩ := h.cons_inv
  obtain ⟨_, rfl, r0_0⟩ := s0.agg_inv
  obtain ⟨_, _, rfl, ⟨n1, _, rfl, z1, m1, ⟨x1, rfl, k1⟩⟩, r0_1⟩ := r0_0.cons_inv
  obtain rfl : n1 = x1.length := by have := z1; simp [Body.size] at this; omega
  obtain ⟨_, _, rfl, ⟨n2, _, rfl, z2, m2, ⟨x2, rfl, k2⟩⟩, r0_2⟩ := r0_1.cons_inv
  obtain rfl : n2 = x2.length := by have := z2; simp [Body.size] at this; omega
  obtain ⟨_, _, rfl, ⟨n3, _, rfl, z3, m3, ⟨x3, rfl, k3⟩⟩, r0_3⟩ := r0_2.cons_inv
  obtain rfl : n3 = x3.length := by have := z3; simp [Body.size] at this; omega
  obtain rfl := r0_3.nil_inv
  obtain ⟨_, _, rfl, s1, t1⟩ := t0.cons_inv
  obtain ⟨_, rfl, r1⟩ := s1.one_inv
  obtain ⟨x4, rfl, k4⟩ := r1
  obtain ⟨_, _, rfl, s2, t2⟩ := t1.cons_inv
  obtain ⟨_, rfl, r2⟩ := s2.one_inv
  obtain ⟨x5, rfl, k5⟩ := r2
  obtain ⟨_, _, rfl, s3, t3⟩ := t2.cons_inv
  obtain ⟨_, rfl, r3⟩ := s3.one_inv
  obtain ⟨x6, rfl, k6⟩ := r3
  obtain rfl := t3.nil_inv
  obtain ⟨g1, g2⟩ := laws_FnExactAddKnot_of (plain_FnExactAddKnot k1 m1 k2 m2 k3 m3 k4 k5 k6)
  show some (_, AV.v (.one (.bool _)), _) = _
  rw [g1, g2]
  rfl

set_option maxRecDepth 100000 in
theorem lifted (os : Os) (started : os.Started) (H : Type) (enc : TypeId × Value → H) :
    ReturnsInHanded {} Try.checked os 4 .any (Rows.fnExactAddKnotSpec.pre6 enc Try.prog Try.f4 Rows.fnExactAddKnotRow.domain false) (Rows.fnExactAddKnotSpec.post enc Try.prog Try.f4 false true false false) := by
  refine returnsInHanded_of_change (C := Try.checked) own started (by kernel_rfl) Try.func4
    (ChangeSpec.witness6 (enc := enc) (C := Try.checked) false ⟨#[], #[.agg #[.slice none 0 0, .slice none 0 0, .slice none 0 0], .float .f32 0, .float .f32 0, .float .f32 0], []⟩ 8 (by kernel_rfl) (by kernel_rfl) (by kernel_rfl) (by kernel_rfl)) ?_
  intro W base args ds gs before hval0 hW hcnd _
  have hval : ∀ (j : Nat) t v, Try.f4.params[j]? = some t → args[j]? = some v → Value.okWide Try.prog W .any base t v := hval0
  have hW' := hW
  obtain ⟨p, q, hA0, hV, rfl, hfz, hnd⟩ := hW
  have hA : DataW.TrodAll enc Try.prog W 0 (fun _ => true) true Try.f4.params.toList args.toList ds p := hA0
  obtain ⟨rfl, rfl⟩ := trodVars_none hV
  obtain ⟨pts, hD, hS⟩ := args_open (fun j t v h1 h2 => hval j t v (by simpa using h1) (by simpa using h2)) hA shapes
  rw [Try.params4] at hA
  obtain ⟨v0, vs0, d0, ds0, p0, q0, hargs, rfl, rfl, h0, r0⟩ := trodAll_cons hA
  obtain ⟨v1, vs1, d1, ds1, p1, q1, rfl, rfl, rfl, h1, r1⟩ := trodAll_cons r0
  obtain ⟨v2, vs2, d2, ds2, p2, q2, rfl, rfl, rfl, h2, r2⟩ := trodAll_cons r1
  obtain ⟨v3, vs3, d3, ds3, p3, q3, rfl, rfl, rfl, h3, r3⟩ := trodAll_cons r2
  obtain ⟨rfl, rfl, rfl⟩ := trodAll_nil r3
  have lt0 : ∀ x ∈ p0, x.block < W.heap.size := by obtain ⟨m, hm⟩ := h0; exact DataW.trod_lt m _ _ _ hm
  have lt1 : ∀ x ∈ p1, x.block < W.heap.size := by obtain ⟨m, hm⟩ := h1; exact DataW.trod_lt m _ _ _ hm
  have lt2 : ∀ x ∈ p2, x.block < W.heap.size := by obtain ⟨m, hm⟩ := h2; exact DataW.trod_lt m _ _ _ hm
  have lt3 : ∀ x ∈ p3, x.block < W.heap.size := by obtain ⟨m, hm⟩ := h3; exact DataW.trod_lt m _ _ _ hm
  obtain rfl : args = #[v0, v1, v2, v3] := by cases args; simp_all
  clear hA0 hval0
  refine (law_calls za9 fi4_ok hD (answers pts hS)).mono fun e W' ⟨he, bel⟩ => ?_
  subst he
  exact ⟨_, rfl, _, _, _, [], _, [], hW', trodAll_mk1 (shut_bool Try.underlying4 _), (trodAll_cons_mk (Below.trod laidOut (by kernel_rfl) (of_decide_eq_true (by kernel_rfl)) h0 bel lt0) (trodAll_cons_mk (Below.trod laidOut (by kernel_rfl) (of_decide_eq_true (by kernel_rfl)) h1 bel lt1) (trodAll_cons_mk (Below.trod laidOut (by kernel_rfl) (of_decide_eq_true (by kernel_rfl)) h2 bel lt2) (trodAll_cons_mk (Below.trod laidOut (by kernel_rfl) (of_decide_eq_true (by kernel_rfl)) h3 bel lt3) trodAll_mk0)))), rfl, bel.frame _, fun h => by cases h⟩

theorem over : Rows.fnExactAddKnotRow.holds Try.pinned (OpenSpec.ofChange Rows.fnExactAddKnotSpec) :=
  OpenClaim.holds_of_wide 4 Try.f4 rfl rfl rfl rfl rfl rfl rfl ⟨rfl, rfl, rfl, rfl, rfl⟩ rfl rfl rfl rfl rfl (by kernel_rfl) Try.func4 (by kernel_rfl)
    (of_decide_eq_true (by kernel_rfl)) (by unfold Func.isWrapper; first | (rw [if_pos (by decide +kernel)]; kernel_rfl) | (rw [if_neg (by decide +kernel)]; exact ⟨rfl, rfl⟩))
    (fun os started H enc _ => lifted os started H enc)

theorem proved : Rows.FnExactAddKnotSaid := over
end Go.Proofs.Ytcbldlfdjabeaaa.fnExactAddKnotP
