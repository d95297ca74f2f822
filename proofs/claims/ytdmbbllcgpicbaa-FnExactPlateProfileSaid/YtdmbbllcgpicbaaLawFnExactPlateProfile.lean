/-
  The program's PlateProfile returns what the reference's returns, for all arguments.
-/
import Derived.Test.YtdmbbllcgpicbaaRows
import Derived.Test.YtdmbbllcgpicbaaPlateProfileL
import Derived.Test.YtdmbbllcgpicbaaPlateProfileS1
import Derived.ProofKit
import Derived.OpenShut
namespace Go.Proofs.Ytdmbbllcgpicbaa.fnExactPlateProfileP
open Go Go.Rf Go.ChangeShapes Go.WideShapes Go.ChangeAt Go.RowKit
set_option linter.unusedVariables false

theorem own : ownKnob Try.prog.godebug = none := by kernel_rfl
theorem laidOut : laidOutB Try.prog = true := by kernel_rfl
theorem shapes : shAs Try.prog Try.f13.params.toList = some [.one (.i .i64)] := by kernel_rfl
theorem answers (pts : List PT) (h : All2 ArgP [.one (.i .i64)] pts) : z39 pts = some (true, A1 (.bool true), []) := by
  obtain ⟨_, _, rfl, s0, t0⟩ := h.cons_inv
  obtain ⟨_, rfl, r0⟩ := s0.one_inv
  obtain ⟨x1, rfl, k1⟩ := r0
  obtain rfl := t0.nil_inv
  obtain ⟨g1, g2⟩ := zck (plain_FnExactPlateProfile k1)
  show some (_, AV.v (.one (.bool _)), _) = _
  rw [g1, g2]
  rfl

set_option maxRecDepth 100000 in
theorem lifted (os : Os) (started : os.Started) (H : Type) (enc : TypeId × Value → H) :
    ReturnsInHanded {} Try.checked os 13 .any (Rows.fnExactPlateProfileSpec.pre6 enc Try.prog Try.f13 Rows.fnExactPlateProfileRow.domain false) (Rows.fnExactPlateProfileSpec.post enc Try.prog Try.f13 false true false false) := by
  refine returnsInHanded_of_change (C := Try.checked) own started (by kernel_rfl) Try.func13
    (ChangeSpec.witness6 (enc := enc) (C := Try.checked) false ⟨#[], #[.int .i64 0], []⟩ 8 (by kernel_rfl) (by kernel_rfl) (by kernel_rfl) (by kernel_rfl)) ?_
  intro W base args ds gs before hval0 hW hcnd _
  have hval : ∀ (j : Nat) t v, Try.f13.params[j]? = some t → args[j]? = some v → Value.okWide Try.prog W .any base t v := hval0
  have hW' := hW
  obtain ⟨p, q, hA0, hV, rfl, hfz, hnd⟩ := hW
  have hA : DataW.TrodAll enc Try.prog W 0 (fun _ => true) true Try.f13.params.toList args.toList ds p := hA0
  obtain ⟨rfl, rfl⟩ := trodVars_none hV
  obtain ⟨pts, hD, hS⟩ := args_open (fun j t v h1 h2 => hval j t v (by simpa using h1) (by simpa using h2)) hA shapes
  rw [Try.params13] at hA
  obtain ⟨v0, vs0, d0, ds0, p0, q0, hargs, rfl, rfl, h0, r0⟩ := trodAll_cons hA
  obtain ⟨rfl, rfl, rfl⟩ := trodAll_nil r0
  have lt0 : ∀ x ∈ p0, x.block < W.heap.size := by obtain ⟨m, hm⟩ := h0; exact DataW.trod_lt m _ _ _ hm
  obtain rfl : args = #[v0] := by cases args; simp_all
  clear hA0 hval0
  refine (law_calls z3b fi13_ok hD (answers pts hS)).mono fun e W' ⟨he, bel⟩ => ?_
  subst he
  exact ⟨_, rfl, _, _, _, [], _, [], hW', trodAll_mk1 (shut_bool Try.underlying4 _), (trodAll_cons_mk (Below.trod laidOut (by kernel_rfl) (of_decide_eq_true (by kernel_rfl)) h0 bel lt0) trodAll_mk0), rfl, bel.frame _, fun h => by cases h⟩

theorem over : Rows.fnExactPlateProfileRow.holds Try.pinned (OpenSpec.ofChange Rows.fnExactPlateProfileSpec) :=
  OpenClaim.holds_of_wide 13 Try.f13 rfl rfl rfl rfl rfl rfl rfl ⟨rfl, rfl, rfl, rfl, rfl⟩ rfl rfl rfl rfl rfl (by kernel_rfl) Try.func13 (by kernel_rfl)
    (of_decide_eq_true (by kernel_rfl)) (by unfold Func.isWrapper; first | (rw [if_pos (by decide +kernel)]; kernel_rfl) | (rw [if_neg (by decide +kernel)]; exact ⟨rfl, rfl⟩))
    (fun os started H enc _ => lifted os started H enc)

/-- THE STATEMENT. -/
theorem proved : Rows.FnExactPlateProfileSaid := over
end Go.Proofs.Ytdmbbllcgpicbaa.fnExactPlateProfileP
