/-
  MirrorProfile: its pieces, as the evaluator has them.
-/
import Derived.Test.YthaiinndikpmcaaBestsMr2

set_option linter.unusedVariables false
set_option linter.unusedSimpArgs false
set_option maxRecDepth 100000
set_option maxHeartbeats 4000000
namespace Go.Proofs.Ythaiinndikpmcaa
open Go Go.RowKit Go.Rf

noncomputable def sqA : Code → Code | .seq a _ => a | c => c
noncomputable def sqB : Code → Code | .seq _ b => b | c => c
noncomputable def inB : Code → Code | .block _ b => b | .rangeFunc _ _ _ b => b | c => c
noncomputable def asB : Code → Code | .rangeFunc _ _ a _ => a | c => c
noncomputable def opsR : Code → Array Oper | .region _ o _ => o | _ => #[]
noncomputable def c9 : Code := (Try.f9.body.getD .skip)
noncomputable def x0 : Code := sqA c9
noncomputable def x1 : Code := sqA (sqB c9)
noncomputable def x2 : Code := sqB (sqB c9)
noncomputable def x3 : Code := sqA x2
noncomputable def x4 : Code := sqA (sqA (sqB x2))
noncomputable def x5 : Code := sqB (sqA (sqB x2))
noncomputable def x6 : Code := sqB (sqB x2)
noncomputable def as9 : Code := asB (inB x5)
noncomputable def bd9 : Code := inB (inB (inB x5))
noncomputable def o7 : Array Oper := opsR (sqA bd9)
noncomputable def o8 : Array Oper := opsR (sqB bd9)
noncomputable def o9 : Array Oper := opsR (sqA x6)
theorem body9 : Try.f9.body = some (.seq x0 (.seq x1 (.seq x3 (.seq (.seq x4 (.block 0 (.rangeFunc (.tmp 14) #[15, 16] as9 (.block 1 (.seq (.region 7 o7 false) (.region 8 o8 true)))))) (.seq (.region 9 o9 false) .ret))))) := by kernel_rfl
theorem as9_eq : as9 = .seq (.region 5 #[{ dst := some 5, op := .assign (.tmp 15), type := 3, pos := "l02_profiles.go:125", after := #[], guard := none }] false) (.region 6 #[{ dst := some 6, op := .assign (.tmp 16), type := 28, pos := "l02_profiles.go:125", after := #[], guard := none }] false) := by kernel_rfl
noncomputable def lv9 : List (Nat × List Nat) := [(0, [1, 2]), (1, [1, 2, 9]), (2, [2, 3]), (3, [1, 2, 4]), (4, [1, 2, 4, 14])]
noncomputable def lvB : List (Nat × List Nat) := [(7, [1, 2, 4, 5]), (8, [1, 2, 4]), (9, [2, 3])]
noncomputable abbrev Ptm : List (Nat × AV) := [(1, .v (.one (.ptr 3 0 3))), (2, .v (.one (.ptr 4 0 3))), (4, .v (.one (.ptr 8 0 3)))]
section
variable (An : Nat) (A : List Nat) (Ln : Nat) (L : List Nat) (Dn : Nat) (D : List Nat)
noncomputable abbrev pts9 : List PT := [.agg [.row 1 An (.fl .f32 A), .row 1 Ln (.fl .f32 L), .row 1 Dn (.fl .f32 D)]]
noncomputable def hR9 : List Blk := [⟨false, .fl .f32 A⟩, ⟨false, .fl .f32 L⟩, ⟨false, .fl .f32 D⟩, ⟨true, .cells [.nilsl, .nilsl, .nilsl]⟩]
noncomputable def stR : St := ⟨[(2, .v (.one (.ptr 3 0 3))), (3, .v (.one (.bool false)))], hR9 A L D⟩
noncomputable def stN : St := ⟨[(1, .v (.one (.ptr 3 0 3))), (2, .v (.one (.ptr 4 0 3))), (4, .v (.one (.ptr 5 0 3))), (14, .v (.one (.fn 51 [.ptr 6 0 1])))],
  [⟨false, .fl .f32 A⟩, ⟨false, .fl .f32 L⟩, ⟨false, .fl .f32 D⟩, ⟨true, .cells [.vw 0 0 An 1, .vw 1 0 Ln 1, .vw 2 0 Dn 1]⟩, ⟨true, .cells [.nilsl, .nilsl, .nilsl]⟩, ⟨true, .cells [.nilsl, .nilsl, .nilsl]⟩, ⟨true, .cells [.vw 0 0 An 1]⟩]⟩
theorem e_pre : evC (R := Ex × St) Γ26 (evFn Γ26 8 8) 9 3 46 lv9 [] 8 (.seq x0 (.seq x1 (.seq x3 x4))) ⟨argTm 0 (impTs 0 (pts9 An A Ln L Dn D)).1, (impTs 0 (pts9 An A Ln L Dn D)).2⟩ (fun e st => some (e, st)) =
    grd (z1t An (pF A 0 (muN An 1)) Ln (pF L 0 (muN Ln 1)) Dn (pF D 0 (muN Dn 1))) (br (bnot (z18 An (pF A 0 (muN An 1)) Ln (pF L 0 (muN Ln 1)) Dn (pF D 0 (muN Dn 1)))) (some (.ret, stR A L D)) (some (.normal, stN An A Ln L Dn D))) := by kernel_rfl
noncomputable def hB (k : Nat) (As Ls Ds : List Nat) : List Blk :=
  [⟨false, .fl .f32 A⟩, ⟨false, .fl .f32 L⟩, ⟨false, .fl .f32 D⟩, ⟨true, .cells [.vw 0 0 An 1, .vw 1 0 Ln 1, .vw 2 0 Dn 1]⟩, ⟨true, .cells [.sl 5 0 0 1, .sl 6 0 0 1, .sl 7 0 0 1]⟩, ⟨true, .fl .f32 []⟩, ⟨true, .fl .f32 []⟩, ⟨true, .fl .f32 []⟩, ⟨true, .cells [.sl 9 0 k 1, .sl 10 0 k 1, .sl 11 0 k 1]⟩, ⟨true, .fl .f32 As⟩, ⟨true, .fl .f32 Ls⟩, ⟨true, .fl .f32 Ds⟩]
theorem e_denil : denilL 3 [(0, (.fl .f32, 1))] 0 (stN An A Ln L Dn D) = ⟨Ptm ++ [(14, .v (.one (.fn 51 [.ptr 12 0 1])))], hB An A Ln L Dn D 0 [] [] [] ++ [⟨true, .cells [.vw 0 0 An 1]⟩]⟩ := by kernel_rfl
variable (k : Nat) (As Ls Ds : List Nat) (i : Int) (x : Nat)
noncomputable def hB2 (k' : Nat) (As Ls Ds : List Nat) (As' Ls' Ds' : List Nat) : List Blk :=
  [⟨false, .fl .f32 A⟩, ⟨false, .fl .f32 L⟩, ⟨false, .fl .f32 D⟩, ⟨true, .cells [.vw 0 0 An 1, .vw 1 0 Ln 1, .vw 2 0 Dn 1]⟩, ⟨true, .cells [.sl 5 0 0 1, .sl 6 0 0 1, .sl 7 0 0 1]⟩, ⟨true, .fl .f32 []⟩, ⟨true, .fl .f32 []⟩, ⟨true, .fl .f32 []⟩, ⟨true, .cells [.sl 12 0 k' 1, .sl 13 0 k' 1, .sl 14 0 k' 1]⟩, ⟨false, .dead (nF As)⟩, ⟨false, .dead (nF Ls)⟩, ⟨false, .dead (nF Ds)⟩, ⟨true, .fl .f32 As'⟩, ⟨true, .fl .f32 Ls'⟩, ⟨true, .fl .f32 Ds'⟩]
theorem e_body : evC (R := Ex × St) Γ26 (evFn Γ26 8 8) 9 12 46 lvB [] 8 (.seq (.region 7 o7 false) (.region 8 o8 true)) ⟨(6, .v (.one (.flt .f32 x))) :: (5, .v (.one (.int .i64 i))) :: Ptm, hB An A Ln L Dn D k As Ls Ds⟩ (fun e st => some (e, st)) =
    grd (okA2 k 1 4 (nF (pF [fneg .f32 x] 0 (muN 1 1))) (nF As) 1) (grd (okIx i Ln) (grd (okA2 k 1 4 (nF (pF [fneg .f32 (gF L (ixO 0 i 1))] 0 (muN 1 1))) (nF Ls) 1) (grd (okIx i Dn) (grd (okA2 k 1 4 (nF (pF [gF D (ixO 0 i 1)] 0 (muN 1 1))) (nF Ds) 1)
      (some (.normal, ⟨Ptm, hB2 An A Ln L Dn D (adN k 1) As Ls Ds (aF As (pF [fneg .f32 x] 0 (muN 1 1))) (aF Ls (pF [fneg .f32 (gF L (ixO 0 i 1))] 0 (muN 1 1))) (aF Ds (pF [gF D (ixO 0 i 1)] 0 (muN 1 1)))⟩)))))) := by kernel_rfl
theorem e_comp (As' Ls' Ds' : List Nat) : compact 3 Ptm (hB2 An A Ln L Dn D k As Ls Ds As' Ls' Ds') = ⟨Ptm, hB An A Ln L Dn D k As' Ls' Ds'⟩ := by kernel_rfl
noncomputable def hE : List Blk :=
  [⟨false, .fl .f32 A⟩, ⟨false, .fl .f32 L⟩, ⟨false, .fl .f32 D⟩, ⟨true, .cells [.vw 0 0 An 1, .vw 1 0 Ln 1, .vw 2 0 Dn 1]⟩, ⟨true, .cells [.sl 9 0 k 1, .sl 10 0 k 1, .sl 11 0 k 1]⟩, ⟨true, .fl .f32 []⟩, ⟨true, .fl .f32 []⟩, ⟨true, .fl .f32 []⟩, ⟨true, .cells [.sl 9 0 k 1, .sl 10 0 k 1, .sl 11 0 k 1]⟩, ⟨true, .fl .f32 As⟩, ⟨true, .fl .f32 Ls⟩, ⟨true, .fl .f32 Ds⟩]
noncomputable def stE : St := ⟨[(2, .v (.one (.ptr 4 0 3))), (3, .v (.one (.bool true)))], hE An A Ln L Dn D k As Ls Ds⟩
theorem e_post : evC (R := Ex × St) Γ26 (evFn Γ26 8 8) 9 12 46 lvB [] 8 (.region 9 o9 false) ⟨Ptm, hB An A Ln L Dn D k As Ls Ds⟩ (fun e st => some (e, st)) = some (.normal, stE An A Ln L Dn D k As Ls Ds) := by kernel_rfl
noncomputable def outV (n : Nat) (ok : Bool) : AV := .tup [.agg [.sl 0 0 n 1, .sl 1 0 n 1, .sl 2 0 n 1], .one (.bool ok)]
noncomputable def outB (As Ls Ds : List Nat) : List Blk := [⟨true, .fl .f32 As⟩, ⟨true, .fl .f32 Ls⟩, ⟨true, .fl .f32 Ds⟩]
noncomputable def rn9 : List (RowK × Nat) := [(.fl .f32, 1), (.fl .f32, 1), (.fl .f32, 1), (.gen, 1)]
noncomputable def resX (st : St) : AV := match resAV Γ26 st.tm st.H [.cell 2 26, .tmp 3] with | some x => x | none => .top
theorem r_end : resAV Γ26 (stE An A Ln L Dn D k As Ls Ds).tm (stE An A Ln L Dn D k As Ls Ds).H [.cell 2 26, .tmp 3] = some (resX (stE An A Ln L Dn D k As Ls Ds)) := by kernel_rfl
theorem e_end : expo 3 (get (compact 3 [(0, (denilR rn9 (resX (stE An A Ln L Dn D k As Ls Ds)) (stE An A Ln L Dn D k As Ls Ds).H).1)] (denilR rn9 (resX (stE An A Ln L Dn D k As Ls Ds)) (stE An A Ln L Dn D k As Ls Ds).H).2).tm 0) (compact 3 [(0, (denilR rn9 (resX (stE An A Ln L Dn D k As Ls Ds)) (stE An A Ln L Dn D k As Ls Ds).H).1)] (denilR rn9 (resX (stE An A Ln L Dn D k As Ls Ds)) (stE An A Ln L Dn D k As Ls Ds).H).2).H = some (outV k true, outB As Ls Ds) := by kernel_rfl
theorem r_ret : resAV Γ26 (stR A L D).tm (stR A L D).H [.cell 2 26, .tmp 3] = some (resX (stR A L D)) := by kernel_rfl
theorem e_ret : expo 3 (get (compact 3 [(0, (denilR rn9 (resX (stR A L D)) (stR A L D).H).1)] (denilR rn9 (resX (stR A L D)) (stR A L D).H).2).tm 0) (compact 3 [(0, (denilR rn9 (resX (stR A L D)) (stR A L D).H).1)] (denilR rn9 (resX (stR A L D)) (stR A L D).H).2).H = some (outV 0 false, outB [] [] []) := by kernel_rfl
end
end Go.Proofs.Ythaiinndikpmcaa
