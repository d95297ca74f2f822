/-
  What the evaluator knows of the program: the types, the functions with their live slots. Printed by a program.
-/
import Derived.Test.YtohhkgieggfpeaaChecked
import Derived.Test.YtohhkgieggfpeaaF2
import Derived.KernelRfl
set_option linter.unusedVariables false
namespace Go.Proofs.Ytohhkgieggfpeaa
open Go Go.Rf

def tyTab : List (Nat × TI) := [
  (2, { desc := .int .i64, agg := false, size := 1, bytes := 8, zero := [.int .i64 0], row := .il .i64, cts := [2] }),
  (3, { desc := .int .i64, agg := false, size := 1, bytes := 8, zero := [.int .i64 0], row := .il .i64, cts := [3] }),
  (4, { desc := .bool, agg := false, size := 1, bytes := 1, zero := [.bool false], row := .bl, cts := [4] }),
  (22, { desc := .flt .f32, agg := false, size := 1, bytes := 4, zero := [.flt .f32 0], row := .fl .f32, cts := [22] }),
  (24, { desc := .struct [(0, 22), (1, 22), (2, 22), (3, 22)], agg := true, size := 4, bytes := 16, zero := [.flt .f32 0, .flt .f32 0, .flt .f32 0, .flt .f32 0], row := .fl .f32, cts := [22, 22, 22, 22] }),
  (26, { desc := .struct [(0, 22), (1, 22), (2, 22), (3, 22)], agg := true, size := 4, bytes := 16, zero := [.flt .f32 0, .flt .f32 0, .flt .f32 0, .flt .f32 0], row := .fl .f32, cts := [22, 22, 22, 22] }),
  (34, { desc := .flt .f64, agg := false, size := 1, bytes := 8, zero := [.flt .f64 0], row := .fl .f64, cts := [34] }),
  (38, { desc := .sl 22, agg := false, size := 1, bytes := 24, zero := [.nilsl], row := .gen, cts := [38] }),
  (40, { desc := .struct [(0, 38), (1, 38)], agg := true, size := 2, bytes := 48, zero := [.nilsl, .nilsl], row := .gen, cts := [38, 38] }),
  (43, { desc := .struct [(0, 38), (1, 38)], agg := true, size := 2, bytes := 48, zero := [.nilsl, .nilsl], row := .gen, cts := [38, 38] }),
  (48, { desc := .ptr 26, agg := false, size := 1, bytes := 8, zero := [.any], row := .gen, cts := [48] }),
  (51, { desc := .other, agg := false, size := 1, bytes := 8, zero := [.any], row := .gen, cts := [51] }),
  (58, { desc := .ptr 43, agg := false, size := 1, bytes := 8, zero := [.any], row := .gen, cts := [58] }),
  (64, { desc := .int .u64, agg := false, size := 1, bytes := 8, zero := [.int .u64 0], row := .il .u64, cts := [64] }),
  (67, { desc := .int .u32, agg := false, size := 1, bytes := 4, zero := [.int .u32 0], row := .il .u32, cts := [67] })]
theorem tyTab_ok : chkTab Try.prog tyTab = true := by kernel_rfl

noncomputable def fi3 : FnI := { code := (Try.f3.body.getD .skip), nt := 20, res := [.tmp 4], live := [(0, [2, 3]), (1, [2, 3, 5]), (2, [5, 6]), (3, [19]), (4, [4]), (5, [4])], nl := [], rn := [] }
noncomputable def fi4 : FnI := { code := (Try.f4.body.getD .skip), nt := 14, res := [.tmp 2], live := [(0, [1]), (1, [1, 3]), (2, [3, 4]), (3, [13]), (4, [2]), (5, [2])], nl := [], rn := [] }
noncomputable def fi5 : FnI := { code := (Try.f5.body.getD .skip), nt := 32, res := [.tmp 4], live := [(0, [0, 1]), (1, [0, 1, 5, 6]), (2, [5, 6, 7, 8]), (3, [31]), (4, [4]), (5, [4])], nl := [], rn := [] }
noncomputable def fi6 : FnI := { code := (Try.f6.body.getD .skip), nt := 34, res := [.tmp 4], live := [(0, [1, 2]), (1, [1, 2, 5, 6]), (2, [5, 6, 7, 8]), (3, [33]), (4, [4]), (5, [4])], nl := [], rn := [] }
noncomputable def fi7 : FnI := { code := (Try.f7.body.getD .skip), nt := 34, res := [.tmp 4], live := [(0, [1, 2]), (1, [1, 2, 5, 6]), (2, [5, 6, 7, 8]), (3, [33]), (4, [4]), (5, [4])], nl := [], rn := [] }
noncomputable def fi8 : FnI := { code := (Try.f8.body.getD .skip), nt := 27, res := [.tmp 2], live := [(0, [1]), (1, [1, 3]), (2, [1, 3]), (3, [1, 11]), (4, [2]), (5, [1, 4]), (6, [1, 4, 5]), (7, [1, 4, 5, 6]), (8, [1, 5, 21]), (9, [2]), (10, [26]), (11, [2]), (12, [2])], nl := [], rn := [] }
noncomputable def fi9 : FnI := { code := (Try.f9.body.getD .skip), nt := 6, res := [.tmp 4], live := [(0, [2, 3]), (1, [4])], nl := [], rn := [] }
noncomputable def fi10 : FnI := { code := (Try.f10.body.getD .skip), nt := 17, res := [.cell 2 26], live := [(0, [1, 2]), (1, [1, 2, 3]), (2, [1, 2, 3]), (3, [1, 2, 3]), (4, [1, 2, 3]), (5, [2, 3]), (6, [2])], nl := [], rn := [] }
noncomputable def fi11 : FnI := { code := (Try.f11.body.getD .skip), nt := 31, res := [.tmp 4], live := [(0, [2, 3]), (1, [4])], nl := [], rn := [] }
noncomputable def fi12 : FnI := { code := (Try.f12.body.getD .skip), nt := 4, res := [.tmp 2], live := [(0, [1]), (1, [2])], nl := [], rn := [] }
noncomputable def fi13 : FnI := { code := (Try.f13.body.getD .skip), nt := 19, res := [.tmp 2], live := [(0, [1]), (1, [2])], nl := [], rn := [] }
noncomputable def fi14 : FnI := { code := (Try.f14.body.getD .skip), nt := 20, res := [.tmp 4, .tmp 5], live := [(0, [0, 1]), (1, [0, 1, 13]), (2, [4, 5]), (3, [4, 5])], nl := [], rn := [] }
noncomputable def fi15 : FnI := { code := (Try.f15.body.getD .skip), nt := 22, res := [.tmp 4, .tmp 5], live := [(0, [0, 1]), (1, [0, 1, 10]), (2, [4, 5]), (3, [4, 5])], nl := [], rn := [] }
noncomputable def fi16 : FnI := { code := (Try.f16.body.getD .skip), nt := 37, res := [.tmp 4], live := [(0, [0, 1]), (1, [0, 1, 12]), (2, [4]), (3, [0, 1, 26]), (4, [4]), (5, [4])], nl := [], rn := [] }
noncomputable def fi17 : FnI := { code := (Try.f17.body.getD .skip), nt := 22, res := [.tmp 4, .tmp 5], live := [(0, [1, 2]), (1, [1, 2, 12]), (2, [4, 5]), (3, [4, 5])], nl := [], rn := [] }
noncomputable def fi18 : FnI := { code := (Try.f18.body.getD .skip), nt := 23, res := [.tmp 4, .tmp 5], live := [(0, [1, 2]), (1, [1, 2, 13]), (2, [4, 5]), (3, [4, 5])], nl := [], rn := [] }
noncomputable def fi19 : FnI := { code := (Try.f19.body.getD .skip), nt := 18, res := [.tmp 4, .tmp 5], live := [(0, [1, 2]), (1, [1, 2, 12]), (2, [4, 5]), (3, [4, 5])], nl := [], rn := [] }
noncomputable def fi20 : FnI := { code := (Try.f20.body.getD .skip), nt := 35, res := [.tmp 4, .tmp 5], live := [(0, [1, 2]), (1, [1, 2, 14]), (2, [4, 5]), (3, [2, 6]), (4, [4, 5])], nl := [], rn := [] }
noncomputable def fi21 : FnI := { code := (Try.f21.body.getD .skip), nt := 18, res := [.tmp 4], live := [(0, [1, 2]), (1, [1, 2]), (2, [1, 2, 10]), (3, [4]), (4, [1]), (5, [1, 16]), (6, [4]), (7, [4])], nl := [], rn := [] }
noncomputable def fi22 : FnI := { code := (Try.f22.body.getD .skip), nt := 4, res := [.tmp 2], live := [(0, [1]), (1, [2])], nl := [], rn := [] }
noncomputable def fi23 : FnI := { code := (Try.f23.body.getD .skip), nt := 13, res := [.cell 2 43], live := [(0, [1, 2]), (1, [1, 2, 3]), (2, [1, 2, 3]), (3, [2, 3]), (4, [2])], nl := [], rn := [(.fl .f32, 1), (.fl .f32, 1)] }
noncomputable def fi24 : FnI := { code := (Try.f24.body.getD .skip), nt := 30, res := [.tmp 2], live := [(0, [1]), (1, [1, 3]), (2, [2])], nl := [], rn := [] }
noncomputable def fi25 : FnI := { code := (Try.f25.body.getD .skip), nt := 17, res := [.tmp 4], live := [(0, [2, 3]), (1, [2, 3, 10]), (2, [4]), (3, [16]), (4, [4]), (5, [4])], nl := [], rn := [] }
noncomputable def fi26 : FnI := { code := (Try.f26.body.getD .skip), nt := 47, res := [.tmp 4], live := [(0, [0, 1]), (1, [4])], nl := [], rn := [] }
noncomputable def fi27 : FnI := { code := (Try.f27.body.getD .skip), nt := 33, res := [.tmp 4], live := [(0, [0, 1]), (1, [0, 1, 12]), (2, [4]), (3, [4])], nl := [], rn := [] }
noncomputable def fi28 : FnI := { code := (Try.f28.body.getD .skip), nt := 29, res := [.tmp 2], live := [(0, [0]), (1, [2])], nl := [], rn := [] }
noncomputable def fi29 : FnI := { code := (Try.f29.body.getD .skip), nt := 6, res := [.tmp 2], live := [(0, [0]), (1, [2])], nl := [], rn := [] }
noncomputable def fi30 : FnI := { code := (Try.f30.body.getD .skip), nt := 9, res := [.tmp 2], live := [(0, [0]), (1, [2])], nl := [], rn := [] }
noncomputable def fi31 : FnI := { code := (Try.f31.body.getD .skip), nt := 15, res := [.tmp 6], live := [(0, [0, 1, 2]), (1, [6])], nl := [], rn := [] }
noncomputable def fi32 : FnI := { code := (Try.f32.body.getD .skip), nt := 9, res := [.tmp 2], live := [(0, [0]), (1, [2])], nl := [], rn := [] }
noncomputable def fi33 : FnI := { code := (Try.f33.body.getD .skip), nt := 8, res := [.tmp 2, .tmp 3], live := [(0, [0]), (1, [0, 6]), (2, [2, 3]), (3, [2, 3])], nl := [], rn := [] }
noncomputable def fi34 : FnI := { code := (Try.f34.body.getD .skip), nt := 13, res := [.tmp 4], live := [(0, [0, 1]), (1, [4])], nl := [], rn := [] }
noncomputable def fi35 : FnI := { code := (Try.f35.body.getD .skip), nt := 6, res := [.tmp 2], live := [(0, [0]), (1, [2])], nl := [], rn := [] }
noncomputable def fi36 : FnI := { code := (Try.f36.body.getD .skip), nt := 8, res := [.tmp 2, .tmp 3], live := [(0, [0]), (1, [0, 6]), (2, [2, 3]), (3, [2, 3])], nl := [], rn := [] }
noncomputable def fi37 : FnI := { code := (Try.f37.body.getD .skip), nt := 31, res := [.tmp 4], live := [(0, [0, 1]), (1, [0, 5]), (2, [4])], nl := [], rn := [] }
noncomputable def fi38 : FnI := { code := (Try.f38.body.getD .skip), nt := 12, res := [.tmp 4], live := [(0, [0, 1]), (1, [1]), (2, [1, 10]), (3, [4]), (4, [4])], nl := [], rn := [] }
noncomputable def fi39 : FnI := { code := (Try.f39.body.getD .skip), nt := 50, res := [.tmp 2], live := [(0, [0]), (1, [0, 3]), (2, [0, 3, 24]), (3, [2]), (4, [0, 3, 4]), (5, [0, 3, 4, 27]), (6, [0, 3, 4]), (7, [0, 3, 4, 49]), (8, [2]), (9, [2])], nl := [], rn := [] }
noncomputable def fi40 : FnI := { code := (Try.f40.body.getD .skip), nt := 22, res := [.tmp 2], live := [(0, [0]), (1, [0, 3]), (2, [0, 3, 4]), (3, [0, 3, 4, 11]), (4, [0, 3, 4]), (5, [0, 3, 4]), (6, [2])], nl := [], rn := [(.fl .f32, 1)] }
noncomputable def fi41 : FnI := { code := (Try.f41.body.getD .skip), nt := 29, res := [.tmp 4], live := [(0, [0, 1]), (1, [0, 1, 10]), (2, [4]), (3, [0, 1, 5]), (4, [0, 1, 5, 14]), (5, [0, 1, 5]), (6, [0, 1, 5, 28]), (7, [4]), (8, [4])], nl := [], rn := [] }
noncomputable def fi42 : FnI := { code := (Try.f42.body.getD .skip), nt := 10, res := [.tmp 4], live := [(0, [0, 1]), (1, [4])], nl := [], rn := [] }
noncomputable def fi43 : FnI := { code := (Try.f43.body.getD .skip), nt := 7, res := [.tmp 2], live := [(0, [0]), (1, [2])], nl := [], rn := [] }
noncomputable def fi44 : FnI := { code := (Try.f44.body.getD .skip), nt := 9, res := [.tmp 2], live := [(0, [0]), (1, [2])], nl := [], rn := [] }
noncomputable def fi45 : FnI := { code := (Try.f45.body.getD .skip), nt := 9, res := [.tmp 2], live := [(0, [0]), (1, [2])], nl := [], rn := [] }
noncomputable def fi46 : FnI := { code := (Try.f46.body.getD .skip), nt := 9, res := [.tmp 4], live := [(0, [0, 1]), (1, [4])], nl := [], rn := [] }
noncomputable def fi47 : FnI := { code := (Try.f47.body.getD .skip), nt := 10, res := [.tmp 2], live := [(0, [0]), (1, [2])], nl := [], rn := [] }
noncomputable def fi48 : FnI := { code := (Try.f48.body.getD .skip), nt := 7, res := [.tmp 2], live := [(0, [0]), (1, [2])], nl := [], rn := [] }
noncomputable def fi49 : FnI := { code := (Try.f49.body.getD .skip), nt := 7, res := [.tmp 2], live := [(0, [0]), (1, [2])], nl := [], rn := [] }
noncomputable def fi50 : FnI := { code := (Try.f50.body.getD .skip), nt := 6, res := [.tmp 2], live := [(0, [0]), (1, [2])], nl := [], rn := [] }
noncomputable def fi51 : FnI := { code := (Try.f51.body.getD .skip), nt := 9, res := [.tmp 2], live := [(0, [0]), (1, [0, 5]), (2, [2]), (3, [2])], nl := [], rn := [] }
noncomputable def fi53 : FnI := { code := (Try.f53.body.getD .skip), nt := 19, res := [.tmp 4], live := [(0, [0, 1]), (1, [0, 1, 7, 8]), (2, [0, 1, 7, 8, 9]), (3, [0, 1, 5, 7, 8]), (4, [0, 1, 5, 7, 8, 16]), (5, [4]), (6, [0, 1, 7, 8]), (7, [4])], nl := [], rn := [] }
noncomputable def fnTab : List (Nat × FnI) := [(3, fi3), (4, fi4), (5, fi5), (6, fi6), (7, fi7), (8, fi8), (9, fi9), (10, fi10), (11, fi11), (12, fi12), (13, fi13), (14, fi14), (15, fi15), (16, fi16), (17, fi17), (18, fi18), (19, fi19), (20, fi20), (21, fi21), (22, fi22), (23, fi23), (24, fi24), (25, fi25), (26, fi26), (27, fi27), (28, fi28), (29, fi29), (30, fi30), (31, fi31), (32, fi32), (33, fi33), (34, fi34), (35, fi35), (36, fi36), (37, fi37), (38, fi38), (39, fi39), (40, fi40), (41, fi41), (42, fi42), (43, fi43), (44, fi44), (45, fi45), (46, fi46), (47, fi47), (48, fi48), (49, fi49), (50, fi50), (51, fi51), (53, fi53)]
theorem fi3_ok : FnOk Try.prog 3 fi3 := ⟨⟨Try.f3, Try.func3, by kernel_rfl, by kernel_rfl, by kernel_rfl, by kernel_rfl⟩, by kernel_rfl⟩
theorem fi4_ok : FnOk Try.prog 4 fi4 := ⟨⟨Try.f4, Try.func4, by kernel_rfl, by kernel_rfl, by kernel_rfl, by kernel_rfl⟩, by kernel_rfl⟩
theorem fi5_ok : FnOk Try.prog 5 fi5 := ⟨⟨Try.f5, Try.func5, by kernel_rfl, by kernel_rfl, by kernel_rfl, by kernel_rfl⟩, by kernel_rfl⟩
theorem fi6_ok : FnOk Try.prog 6 fi6 := ⟨⟨Try.f6, Try.func6, by kernel_rfl, by kernel_rfl, by kernel_rfl, by kernel_rfl⟩, by kernel_rfl⟩
theorem fi7_ok : FnOk Try.prog 7 fi7 := ⟨⟨Try.f7, Try.func7, by kernel_rfl, by kernel_rfl, by kernel_rfl, by kernel_rfl⟩, by kernel_rfl⟩
theorem fi8_ok : FnOk Try.prog 8 fi8 := ⟨⟨Try.f8, Try.func8, by kernel_rfl, by kernel_rfl, by kernel_rfl, by kernel_rfl⟩, by kernel_rfl⟩
theorem fi9_ok : FnOk Try.prog 9 fi9 := ⟨⟨Try.f9, Try.func9, by kernel_rfl, by kernel_rfl, by kernel_rfl, by kernel_rfl⟩, by kernel_rfl⟩
theorem fi10_ok : FnOk Try.prog 10 fi10 := ⟨⟨Try.f10, Try.func10, by kernel_rfl, by kernel_rfl, by kernel_rfl, by kernel_rfl⟩, by kernel_rfl⟩
theorem fi11_ok : FnOk Try.prog 11 fi11 := ⟨⟨Try.f11, Try.func11, by kernel_rfl, by kernel_rfl, by kernel_rfl, by kernel_rfl⟩, by kernel_rfl⟩
theorem fi12_ok : FnOk Try.prog 12 fi12 := ⟨⟨Try.f12, Try.func12, by kernel_rfl, by kernel_rfl, by kernel_rfl, by kernel_rfl⟩, by kernel_rfl⟩
theorem fi13_ok : FnOk Try.prog 13 fi13 := ⟨⟨Try.f13, Try.func13, by kernel_rfl, by kernel_rfl, by kernel_rfl, by kernel_rfl⟩, by kernel_rfl⟩
theorem fi14_ok : FnOk Try.prog 14 fi14 := ⟨⟨Try.f14, Try.func14, by kernel_rfl, by kernel_rfl, by kernel_rfl, by kernel_rfl⟩, by kernel_rfl⟩
theorem fi15_ok : FnOk Try.prog 15 fi15 := ⟨⟨Try.f15, Try.func15, by kernel_rfl, by kernel_rfl, by kernel_rfl, by kernel_rfl⟩, by kernel_rfl⟩
theorem fi16_ok : FnOk Try.prog 16 fi16 := ⟨⟨Try.f16, Try.func16, by kernel_rfl, by kernel_rfl, by kernel_rfl, by kernel_rfl⟩, by kernel_rfl⟩
theorem fi17_ok : FnOk Try.prog 17 fi17 := ⟨⟨Try.f17, Try.func17, by kernel_rfl, by kernel_rfl, by kernel_rfl, by kernel_rfl⟩, by kernel_rfl⟩
theorem fi18_ok : FnOk Try.prog 18 fi18 := ⟨⟨Try.f18, Try.func18, by kernel_rfl, by kernel_rfl, by kernel_rfl, by kernel_rfl⟩, by kernel_rfl⟩
theorem fi19_ok : FnOk Try.prog 19 fi19 := ⟨⟨Try.f19, Try.func19, by kernel_rfl, by kernel_rfl, by kernel_rfl, by kernel_rfl⟩, by kernel_rfl⟩
theorem fi20_ok : FnOk Try.prog 20 fi20 := ⟨⟨Try.f20, Try.func20, by kernel_rfl, by kernel_rfl, by kernel_rfl, by kernel_rfl⟩, by kernel_rfl⟩
theorem fi21_ok : FnOk Try.prog 21 fi21 := ⟨⟨Try.f21, Try.func21, by kernel_rfl, by kernel_rfl, by kernel_rfl, by kernel_rfl⟩, by kernel_rfl⟩
theorem fi22_ok : FnOk Try.prog 22 fi22 := ⟨⟨Try.f22, Try.func22, by kernel_rfl, by kernel_rfl, by kernel_rfl, by kernel_rfl⟩, by kernel_rfl⟩
theorem fi23_ok : FnOk Try.prog 23 fi23 := ⟨⟨Try.f23, Try.func23, by kernel_rfl, by kernel_rfl, by kernel_rfl, by kernel_rfl⟩, by kernel_rfl⟩
theorem fi24_ok : FnOk Try.prog 24 fi24 := ⟨⟨Try.f24, Try.func24, by kernel_rfl, by kernel_rfl, by kernel_rfl, by kernel_rfl⟩, by kernel_rfl⟩
theorem fi25_ok : FnOk Try.prog 25 fi25 := ⟨⟨Try.f25, Try.func25, by kernel_rfl, by kernel_rfl, by kernel_rfl, by kernel_rfl⟩, by kernel_rfl⟩
theorem fi26_ok : FnOk Try.prog 26 fi26 := ⟨⟨Try.f26, Try.func26, by kernel_rfl, by kernel_rfl, by kernel_rfl, by kernel_rfl⟩, by kernel_rfl⟩
theorem fi27_ok : FnOk Try.prog 27 fi27 := ⟨⟨Try.f27, Try.func27, by kernel_rfl, by kernel_rfl, by kernel_rfl, by kernel_rfl⟩, by kernel_rfl⟩
theorem fi28_ok : FnOk Try.prog 28 fi28 := ⟨⟨Try.f28, Try.func28, by kernel_rfl, by kernel_rfl, by kernel_rfl, by kernel_rfl⟩, by kernel_rfl⟩
theorem fi29_ok : FnOk Try.prog 29 fi29 := ⟨⟨Try.f29, Try.func29, by kernel_rfl, by kernel_rfl, by kernel_rfl, by kernel_rfl⟩, by kernel_rfl⟩
theorem fi30_ok : FnOk Try.prog 30 fi30 := ⟨⟨Try.f30, Try.func30, by kernel_rfl, by kernel_rfl, by kernel_rfl, by kernel_rfl⟩, by kernel_rfl⟩
theorem fi31_ok : FnOk Try.prog 31 fi31 := ⟨⟨Try.f31, Try.func31, by kernel_rfl, by kernel_rfl, by kernel_rfl, by kernel_rfl⟩, by kernel_rfl⟩
theorem fi32_ok : FnOk Try.prog 32 fi32 := ⟨⟨Try.f32, Try.func32, by kernel_rfl, by kernel_rfl, by kernel_rfl, by kernel_rfl⟩, by kernel_rfl⟩
theorem fi33_ok : FnOk Try.prog 33 fi33 := ⟨⟨Try.f33, Try.func33, by kernel_rfl, by kernel_rfl, by kernel_rfl, by kernel_rfl⟩, by kernel_rfl⟩
theorem fi34_ok : FnOk Try.prog 34 fi34 := ⟨⟨Try.f34, Try.func34, by kernel_rfl, by kernel_rfl, by kernel_rfl, by kernel_rfl⟩, by kernel_rfl⟩
theorem fi35_ok : FnOk Try.prog 35 fi35 := ⟨⟨Try.f35, Try.func35, by kernel_rfl, by kernel_rfl, by kernel_rfl, by kernel_rfl⟩, by kernel_rfl⟩
theorem fi36_ok : FnOk Try.prog 36 fi36 := ⟨⟨Try.f36, Try.func36, by kernel_rfl, by kernel_rfl, by kernel_rfl, by kernel_rfl⟩, by kernel_rfl⟩
theorem fi37_ok : FnOk Try.prog 37 fi37 := ⟨⟨Try.f37, Try.func37, by kernel_rfl, by kernel_rfl, by kernel_rfl, by kernel_rfl⟩, by kernel_rfl⟩
theorem fi38_ok : FnOk Try.prog 38 fi38 := ⟨⟨Try.f38, Try.func38, by kernel_rfl, by kernel_rfl, by kernel_rfl, by kernel_rfl⟩, by kernel_rfl⟩
theorem fi39_ok : FnOk Try.prog 39 fi39 := ⟨⟨Try.f39, Try.func39, by kernel_rfl, by kernel_rfl, by kernel_rfl, by kernel_rfl⟩, by kernel_rfl⟩
theorem fi40_ok : FnOk Try.prog 40 fi40 := ⟨⟨Try.f40, Try.func40, by kernel_rfl, by kernel_rfl, by kernel_rfl, by kernel_rfl⟩, by kernel_rfl⟩
theorem fi41_ok : FnOk Try.prog 41 fi41 := ⟨⟨Try.f41, Try.func41, by kernel_rfl, by kernel_rfl, by kernel_rfl, by kernel_rfl⟩, by kernel_rfl⟩
theorem fi42_ok : FnOk Try.prog 42 fi42 := ⟨⟨Try.f42, Try.func42, by kernel_rfl, by kernel_rfl, by kernel_rfl, by kernel_rfl⟩, by kernel_rfl⟩
theorem fi43_ok : FnOk Try.prog 43 fi43 := ⟨⟨Try.f43, Try.func43, by kernel_rfl, by kernel_rfl, by kernel_rfl, by kernel_rfl⟩, by kernel_rfl⟩
theorem fi44_ok : FnOk Try.prog 44 fi44 := ⟨⟨Try.f44, Try.func44, by kernel_rfl, by kernel_rfl, by kernel_rfl, by kernel_rfl⟩, by kernel_rfl⟩
theorem fi45_ok : FnOk Try.prog 45 fi45 := ⟨⟨Try.f45, Try.func45, by kernel_rfl, by kernel_rfl, by kernel_rfl, by kernel_rfl⟩, by kernel_rfl⟩
theorem fi46_ok : FnOk Try.prog 46 fi46 := ⟨⟨Try.f46, Try.func46, by kernel_rfl, by kernel_rfl, by kernel_rfl, by kernel_rfl⟩, by kernel_rfl⟩
theorem fi47_ok : FnOk Try.prog 47 fi47 := ⟨⟨Try.f47, Try.func47, by kernel_rfl, by kernel_rfl, by kernel_rfl, by kernel_rfl⟩, by kernel_rfl⟩
theorem fi48_ok : FnOk Try.prog 48 fi48 := ⟨⟨Try.f48, Try.func48, by kernel_rfl, by kernel_rfl, by kernel_rfl, by kernel_rfl⟩, by kernel_rfl⟩
theorem fi49_ok : FnOk Try.prog 49 fi49 := ⟨⟨Try.f49, Try.func49, by kernel_rfl, by kernel_rfl, by kernel_rfl, by kernel_rfl⟩, by kernel_rfl⟩
theorem fi50_ok : FnOk Try.prog 50 fi50 := ⟨⟨Try.f50, Try.func50, by kernel_rfl, by kernel_rfl, by kernel_rfl, by kernel_rfl⟩, by kernel_rfl⟩
theorem fi51_ok : FnOk Try.prog 51 fi51 := ⟨⟨Try.f51, Try.func51, by kernel_rfl, by kernel_rfl, by kernel_rfl, by kernel_rfl⟩, by kernel_rfl⟩
theorem fi53_ok : FnOk Try.prog 53 fi53 := ⟨⟨Try.f53, Try.func53, by kernel_rfl, by kernel_rfl, by kernel_rfl, by kernel_rfl⟩, by kernel_rfl⟩
theorem fnTab_ok : FnL Try.prog fnTab := FnL.cons fi3_ok (FnL.cons fi4_ok (FnL.cons fi5_ok (FnL.cons fi6_ok (FnL.cons fi7_ok (FnL.cons fi8_ok (FnL.cons fi9_ok (FnL.cons fi10_ok (FnL.cons fi11_ok (FnL.cons fi12_ok (FnL.cons fi13_ok (FnL.cons fi14_ok (FnL.cons fi15_ok (FnL.cons fi16_ok (FnL.cons fi17_ok (FnL.cons fi18_ok (FnL.cons fi19_ok (FnL.cons fi20_ok (FnL.cons fi21_ok (FnL.cons fi22_ok (FnL.cons fi23_ok (FnL.cons fi24_ok (FnL.cons fi25_ok (FnL.cons fi26_ok (FnL.cons fi27_ok (FnL.cons fi28_ok (FnL.cons fi29_ok (FnL.cons fi30_ok (FnL.cons fi31_ok (FnL.cons fi32_ok (FnL.cons fi33_ok (FnL.cons fi34_ok (FnL.cons fi35_ok (FnL.cons fi36_ok (FnL.cons fi37_ok (FnL.cons fi38_ok (FnL.cons fi39_ok (FnL.cons fi40_ok (FnL.cons fi41_ok (FnL.cons fi42_ok (FnL.cons fi43_ok (FnL.cons fi44_ok (FnL.cons fi45_ok (FnL.cons fi46_ok (FnL.cons fi47_ok (FnL.cons fi48_ok (FnL.cons fi49_ok (FnL.cons fi50_ok (FnL.cons fi51_ok (FnL.cons fi53_ok (FnL.nil))))))))))))))))))))))))))))))))))))))))))))))))))
theorem mixed : Try.prog.follows .mixedOrders = true := by kernel_rfl
end Go.Proofs.Ytohhkgieggfpeaa
