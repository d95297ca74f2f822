/-
  What the evaluator knows of the program: the types, the functions with their live slots. Printed by a program.
-/
import Derived.Test.YtcbldlfdjabeaaaAddKnotAk2
import Derived.Test.YtcbldlfdjabeaaaChecked
import Derived.Test.YtcbldlfdjabeaaaAddKnotP
import Derived.KernelRfl
set_option linter.unusedVariables false
set_option linter.unusedSimpArgs false
namespace Go.Proofs.Ytcbldlfdjabeaaa
open Go Go.Rf

def tyTab : List (Nat × TI) := [
  (3, { desc := .int .i64, agg := false, size := 1, bytes := 8, zero := [.int .i64 0], row := .il .i64, cts := [3] }),
  (4, { desc := .bool, agg := false, size := 1, bytes := 1, zero := [.bool false], row := .bl, cts := [4] }),
  (24, { desc := .sl 28, agg := false, size := 1, bytes := 24, zero := [.nilsl], row := .gen, cts := [24] }),
  (26, { desc := .struct [(0, 24), (1, 24), (2, 24)], agg := true, size := 3, bytes := 72, zero := [.nilsl, .nilsl, .nilsl], row := .gen, cts := [24, 24, 24] }),
  (28, { desc := .flt .f32, agg := false, size := 1, bytes := 4, zero := [.flt .f32 0], row := .fl .f32, cts := [28] }),
  (41, { desc := .flt .f64, agg := false, size := 1, bytes := 8, zero := [.flt .f64 0], row := .fl .f64, cts := [41] }),
  (48, { desc := .struct [(0, 24), (1, 24), (2, 24)], agg := true, size := 3, bytes := 72, zero := [.nilsl, .nilsl, .nilsl], row := .gen, cts := [24, 24, 24] }),
  (63, { desc := .other, agg := false, size := 1, bytes := 8, zero := [.any], row := .gen, cts := [63] }),
  (76, { desc := .ptr 26, agg := false, size := 1, bytes := 8, zero := [.any], row := .gen, cts := [76] })]
theorem tyTab_ok : chkTab Try.prog tyTab = true := by kernel_rfl

noncomputable def fi4 : FnI := { code := (Try.f4.body.getD .skip), nt := 111, res := [.tmp 8], live := [(0, [1, 2, 3, 4]), (1, [1, 2, 3, 4, 9]), (2, [1, 2, 3, 4, 9]), (3, [1, 2, 3, 4, 24]), (4, [8]), (5, [1, 2, 3, 4, 10, 11]), (6, [1, 2, 3, 4, 10, 11, 12]), (7, [1, 2, 3, 4, 10, 11, 12, 13, 14]), (8, [1, 2, 3, 4, 10, 11, 12, 13, 14, 52]), (9, [8]), (10, [1, 2, 3, 4, 10, 11, 12, 13, 14, 57]), (11, [8]), (12, [1, 2, 3, 4, 10, 11, 12, 13, 14, 15]), (13, [1, 2, 3, 4, 10, 11, 13, 14, 15]), (14, [1, 2, 3, 4, 10, 11, 13, 73]), (15, [8]), (16, [1, 2, 3, 4, 10, 11, 13, 16]), (17, [1, 2, 3, 4, 10, 11, 13, 16]), (18, [1, 2, 3, 4, 10, 11, 13, 16, 17]), (19, [1, 2, 3, 4, 10, 11, 13, 16, 17]), (20, [1, 2, 3, 4, 10, 11, 13, 16, 17, 81]), (21, [8]), (22, [1, 2, 3, 4, 10, 11, 13, 16, 84]), (23, [8]), (24, [10, 11, 13, 16, 18, 19]), (25, [13, 16, 102]), (26, [8]), (27, [13, 16, 17]), (28, [16, 17]), (29, [16, 17, 107]), (30, [8]), (31, [110]), (32, [8]), (33, [8])], nl := [], rn := [] }
noncomputable def fi19 : FnI := { code := (Try.f19.body.getD .skip), nt := 24, res := [.tmp 4], live := [(0, [1, 2]), (1, [1, 2]), (2, [1, 2, 10]), (3, [4]), (4, [1, 2]), (5, [1, 2, 16]), (6, [4]), (7, [1]), (8, [1, 22]), (9, [4]), (10, [4])], nl := [], rn := [] }
noncomputable def fi20 : FnI := { code := (Try.f20.body.getD .skip), nt := 74, res := [.cell 8 26, .tmp 9], live := [(0, [1, 2, 3, 4, 8]), (1, [1, 2, 3, 4, 8, 23]), (2, [8, 9]), (3, [1, 2, 3, 4, 8, 10]), (4, [1, 2, 3, 4, 8, 10, 11]), (5, [1, 2, 3, 4, 8, 10, 11, 12]), (6, [1, 2, 3, 4, 8, 10, 11, 12, 30]), (7, [1, 2, 3, 4, 8, 10, 11, 12]), (8, [1, 2, 3, 4, 8, 10, 11, 12, 43]), (9, [1, 2, 3, 4, 8, 10, 12]), (10, [1, 2, 3, 4, 8, 10, 11, 12]), (11, [1, 2, 3, 4, 8, 10, 11, 12]), (12, [1, 2, 3, 8, 10, 65]), (13, [8, 10]), (14, [8, 9])], nl := [], rn := [(.fl .f32, 1), (.fl .f32, 1), (.fl .f32, 1), (.gen, 1)] }
noncomputable def fi21 : FnI := { code := (Try.f21.body.getD .skip), nt := 17, res := [.cell 2 26], live := [(0, [1, 2]), (1, [1, 2, 3]), (2, [1, 2, 3]), (3, [1, 2, 3]), (4, [2, 3]), (5, [2])], nl := [], rn := [(.fl .f32, 1), (.fl .f32, 1), (.fl .f32, 1)] }
noncomputable def fi22 : FnI := { code := (Try.f22.body.getD .skip), nt := 65, res := [.cell 8 26, .tmp 9], live := [(0, [1, 2, 3, 4, 8]), (1, [1, 2, 3, 4, 8, 20]), (2, [8, 9]), (3, [1, 2, 3, 4, 8, 10]), (4, [1, 2, 3, 4, 8, 10, 35]), (5, [1, 2, 3, 4, 8, 10]), (6, [1, 2, 3, 8, 10, 11]), (7, [2, 3, 8, 10, 11]), (8, [8, 11]), (9, [8, 9])], nl := [], rn := [(.fl .f32, 1), (.fl .f32, 1), (.fl .f32, 1), (.gen, 1)] }
noncomputable def fi23 : FnI := { code := (Try.f23.body.getD .skip), nt := 23, res := [.tmp 4], live := [(0, [2, 3]), (1, [2, 3, 10]), (2, [4]), (3, [2, 3, 16]), (4, [4]), (5, [22]), (6, [4]), (7, [4])], nl := [], rn := [] }
noncomputable def fi24 : FnI := { code := (Try.f24.body.getD .skip), nt := 18, res := [.tmp 4], live := [(0, [1, 2]), (1, [1, 2]), (2, [1, 2]), (3, [1]), (4, [4])], nl := [], rn := [] }
noncomputable def fi25 : FnI := { code := (Try.f25.body.getD .skip), nt := 24, res := [.tmp 4], live := [(0, [1, 2]), (1, [1, 2]), (2, [1, 2, 10]), (3, [4]), (4, [1, 2]), (5, [1, 2, 16]), (6, [4]), (7, [1]), (8, [1, 22]), (9, [4]), (10, [4])], nl := [], rn := [] }
noncomputable def fi37 : FnI := { code := (Try.f37.body.getD .skip), nt := 7, res := [.tmp 2], live := [(0, [0]), (1, [2])], nl := [], rn := [] }
noncomputable def fi45 : FnI := { code := (Try.f45.body.getD .skip), nt := 12, res := [.tmp 4], live := [(0, [0, 1]), (1, [1]), (2, [1, 10]), (3, [4]), (4, [4])], nl := [], rn := [] }
noncomputable def fi46 : FnI := { code := (Try.f46.body.getD .skip), nt := 100, res := [.tmp 2], live := [(0, [0]), (1, [0, 3]), (2, [0, 3, 33]), (3, [2]), (4, [0, 3, 4]), (5, [0, 3, 4, 36]), (6, [0, 3, 4]), (7, [0, 3, 4, 79]), (8, [2]), (9, [0, 3, 4, 99]), (10, [2]), (11, [2])], nl := [], rn := [] }
noncomputable def fi47 : FnI := { code := (Try.f47.body.getD .skip), nt := 5, res := [.cell 0 26], live := [(0, [0]), (1, [0])], nl := [], rn := [(.fl .f32, 1), (.fl .f32, 1), (.fl .f32, 1)] }
noncomputable def fi48 : FnI := { code := (Try.f48.body.getD .skip), nt := 38, res := [], live := [(0, [0, 2, 3]), (1, [0, 3]), (2, [])], nl := [], rn := [] }
noncomputable def fi49 : FnI := { code := (Try.f49.body.getD .skip), nt := 8, res := [.cell 2 26, .tmp 3], live := [(0, [1, 2]), (1, [1, 2, 5]), (2, [2, 3]), (3, [2, 3])], nl := [], rn := [(.fl .f32, 1), (.fl .f32, 1), (.fl .f32, 1), (.gen, 1)] }
noncomputable def fi50 : FnI := { code := (Try.f50.body.getD .skip), nt := 22, res := [.tmp 2], live := [(0, [0]), (1, [0, 3]), (2, [0, 3, 4]), (3, [0, 3, 4, 11]), (4, [0, 3, 4]), (5, [0, 3, 4]), (6, [2])], nl := [], rn := [(.fl .f32, 1)] }
noncomputable def fi51 : FnI := { code := (Try.f51.body.getD .skip), nt := 67, res := [.tmp 2], live := [(0, [1]), (1, [1, 3]), (2, [1, 40]), (3, [2]), (4, [1, 42, 43, 44]), (5, [1, 42, 43, 44, 45]), (6, [1, 4, 5, 42, 43, 44]), (7, [1, 42, 43, 44, 65]), (8, [2]), (9, [1, 42, 43, 44]), (10, [2])], nl := [], rn := [] }
noncomputable def fi52 : FnI := { code := (Try.f52.body.getD .skip), nt := 9, res := [.tmp 4], live := [(0, [0, 1]), (1, [4])], nl := [], rn := [] }
noncomputable def fi53 : FnI := { code := (Try.f53.body.getD .skip), nt := 13, res := [.cell 2 26], live := [(0, [1, 2]), (1, [2])], nl := [], rn := [(.fl .f32, 1), (.fl .f32, 1), (.fl .f32, 1)] }
noncomputable def fi54 : FnI := { code := .skip, nt := 0, res := [], live := [], ins := true }
noncomputable def fi55 : FnI := { code := (Try.f55.body.getD .skip), nt := 9, res := [.cell 2 26, .tmp 3], live := [(0, [1, 2]), (1, [1, 2, 6]), (2, [2, 3]), (3, [2, 3])], nl := [], rn := [(.fl .f32, 1), (.fl .f32, 1), (.fl .f32, 1), (.gen, 1)] }
noncomputable def fi56 : FnI := { code := (Try.f56.body.getD .skip), nt := 29, res := [.tmp 4], live := [(0, [0, 1]), (1, [0, 1, 10]), (2, [4]), (3, [0, 1, 5]), (4, [0, 1, 5, 14]), (5, [0, 1, 5]), (6, [0, 1, 5, 28]), (7, [4]), (8, [4])], nl := [], rn := [] }
noncomputable def fi57 : FnI := { code := (Try.f57.body.getD .skip), nt := 20, res := [.tmp 4], live := [(0, [0, 1]), (1, [0, 1, 5]), (2, [0, 1, 5, 9]), (3, [0, 1, 5]), (4, [0, 1, 5]), (5, [0, 1, 5]), (6, [4])], nl := [], rn := [] }
noncomputable def fi58 : FnI := { code := (Try.f58.body.getD .skip), nt := 22, res := [.tmp 4], live := [(0, [0, 1]), (1, [0, 1, 5]), (2, [0, 1, 5, 9]), (3, [0, 1, 5]), (4, [0, 1, 5, 18]), (5, [4]), (6, [0, 1, 5]), (7, [4])], nl := [], rn := [] }
noncomputable def fi63 : FnI := { code := (Try.f63.body.getD .skip), nt := 7, res := [.tmp 2], live := [(0, [0]), (1, [2])], nl := [], rn := [] }
noncomputable def fi67 : FnI := { code := (Try.f67.body.getD .skip), nt := 15, res := [.tmp 6], live := [(0, [0, 1, 2]), (1, [6])], nl := [], rn := [] }
noncomputable def fi70 : FnI := { code := (Try.f70.body.getD .skip), nt := 9, res := [.tmp 2], live := [(0, [0]), (1, [2])], nl := [], rn := [] }
noncomputable def fi71 : FnI := { code := (Try.f71.body.getD .skip), nt := 6, res := [.tmp 2], live := [(0, [0]), (1, [2])], nl := [], rn := [] }
noncomputable def fi75 : FnI := { code := (Try.f75.body.getD .skip), nt := 9, res := [.tmp 4], live := [(0, [0, 1]), (1, [4])], nl := [], rn := [] }
noncomputable def fi77 : FnI := { code := (Try.f77.body.getD .skip), nt := 9, res := [.tmp 2], live := [(0, [0]), (1, [2])], nl := [], rn := [] }
noncomputable def fi78 : FnI := { code := (Try.f78.body.getD .skip), nt := 6, res := [.tmp 2], live := [(0, [0]), (1, [2])], nl := [], rn := [] }
noncomputable def fi79 : FnI := { code := (Try.f79.body.getD .skip), nt := 19, res := [.tmp 4], live := [(0, [0, 1]), (1, [0, 1, 7, 8]), (2, [0, 1, 7, 8, 9]), (3, [0, 1, 5, 7, 8]), (4, [0, 1, 5, 7, 8, 16]), (5, [4]), (6, [0, 1, 7, 8]), (7, [4])], nl := [], rn := [] }
noncomputable def fi80 : FnI := { code := (Try.f80.body.getD .skip), nt := 8, res := [.tmp 2], live := [(0, [0]), (1, [0, 4]), (2, [2]), (3, [2])], nl := [], rn := [(.fl .f32, 1)] }
noncomputable def fi82 : FnI := { code := (Try.f82.body.getD .skip), nt := 10, res := [], live := [(0, [])], nl := [], rn := [] }
noncomputable def fi83 : FnI := { code := (Try.f83.body.getD .skip), nt := 37, res := [.tmp 4], live := [(0, [0, 1]), (1, [0, 1, 12]), (2, [4]), (3, [0, 1, 26]), (4, [4]), (5, [4])], nl := [], rn := [] }
noncomputable def fi94 : FnI := { code := (Try.f94.body.getD .skip), nt := 6, res := [.tmp 2], live := [(0, [0]), (1, [2])], nl := [], rn := [] }
noncomputable def fi97 : FnI := { code := (Try.f97.body.getD .skip), nt := 19, res := [.tmp 4], live := [(0, [0, 1]), (1, [0, 1, 7, 8]), (2, [0, 1, 7, 8, 9]), (3, [0, 1, 5, 7, 8]), (4, [0, 1, 5, 7, 8, 16]), (5, [4]), (6, [0, 1, 7, 8]), (7, [4])], nl := [], rn := [] }
noncomputable def fi98 : FnI := { code := (Try.f98.body.getD .skip), nt := 6, res := [.tmp 2], live := [(0, [0]), (1, [2])], nl := [], rn := [] }
noncomputable def fi99 : FnI := { code := (Try.f99.body.getD .skip), nt := 14, res := [], live := [(0, [0, 1]), (1, [0]), (2, [])], nl := [], rn := [] }
noncomputable def fi108 : FnI := { code := (Try.f108.body.getD .skip), nt := 28, res := [], live := [(0, [0, 2, 3]), (1, [0, 2, 3, 9]), (2, [0, 2, 3]), (3, [0, 2, 3])], nl := [], rn := [] }
noncomputable def fnTab : List (Nat × FnI) := [(4, fi4), (19, fi19), (20, fi20), (21, fi21), (22, fi22), (23, fi23), (24, fi24), (25, fi25), (37, fi37), (45, fi45), (46, fi46), (47, fi47), (48, fi48), (49, fi49), (50, fi50), (51, fi51), (52, fi52), (53, fi53), (54, fi54), (55, fi55), (56, fi56), (57, fi57), (58, fi58), (63, fi63), (67, fi67), (70, fi70), (71, fi71), (75, fi75), (77, fi77), (78, fi78), (79, fi79), (80, fi80), (82, fi82), (83, fi83), (94, fi94), (97, fi97), (98, fi98), (99, fi99), (108, fi108)]
theorem fi4_ok : FnOk Try.prog 4 fi4 := ⟨⟨Try.f4, Try.func4, by kernel_rfl, by kernel_rfl, by kernel_rfl, by kernel_rfl⟩, by kernel_rfl⟩
theorem fi19_ok : FnOk Try.prog 19 fi19 := ⟨⟨Try.f19, Try.func19, by kernel_rfl, by kernel_rfl, by kernel_rfl, by kernel_rfl⟩, by kernel_rfl⟩
theorem fi20_ok : FnOk Try.prog 20 fi20 := ⟨⟨Try.f20, Try.func20, by kernel_rfl, by kernel_rfl, by kernel_rfl, by kernel_rfl⟩, by kernel_rfl⟩
theorem fi21_ok : FnOk Try.prog 21 fi21 := ⟨⟨Try.f21, Try.func21, by kernel_rfl, by kernel_rfl, by kernel_rfl, by kernel_rfl⟩, by kernel_rfl⟩
theorem fi22_ok : FnOk Try.prog 22 fi22 := ⟨⟨Try.f22, Try.func22, by kernel_rfl, by kernel_rfl, by kernel_rfl, by kernel_rfl⟩, by kernel_rfl⟩
theorem fi23_ok : FnOk Try.prog 23 fi23 := ⟨⟨Try.f23, Try.func23, by kernel_rfl, by kernel_rfl, by kernel_rfl, by kernel_rfl⟩, by kernel_rfl⟩
theorem fi24_ok : FnOk Try.prog 24 fi24 := ⟨⟨Try.f24, Try.func24, by kernel_rfl, by kernel_rfl, by kernel_rfl, by kernel_rfl⟩, by kernel_rfl⟩
theorem fi25_ok : FnOk Try.prog 25 fi25 := ⟨⟨Try.f25, Try.func25, by kernel_rfl, by kernel_rfl, by kernel_rfl, by kernel_rfl⟩, by kernel_rfl⟩
theorem fi37_ok : FnOk Try.prog 37 fi37 := ⟨⟨Try.f37, Try.func37, by kernel_rfl, by kernel_rfl, by kernel_rfl, by kernel_rfl⟩, by kernel_rfl⟩
theorem fi45_ok : FnOk Try.prog 45 fi45 := ⟨⟨Try.f45, Try.func45, by kernel_rfl, by kernel_rfl, by kernel_rfl, by kernel_rfl⟩, by kernel_rfl⟩
theorem fi46_ok : FnOk Try.prog 46 fi46 := ⟨⟨Try.f46, Try.func46, by kernel_rfl, by kernel_rfl, by kernel_rfl, by kernel_rfl⟩, by kernel_rfl⟩
theorem fi47_ok : FnOk Try.prog 47 fi47 := ⟨⟨Try.f47, Try.func47, by kernel_rfl, by kernel_rfl, by kernel_rfl, by kernel_rfl⟩, by kernel_rfl⟩
theorem fi48_ok : FnOk Try.prog 48 fi48 := ⟨⟨Try.f48, Try.func48, by kernel_rfl, by kernel_rfl, by kernel_rfl, by kernel_rfl⟩, by kernel_rfl⟩
theorem fi49_ok : FnOk Try.prog 49 fi49 := ⟨⟨Try.f49, Try.func49, by kernel_rfl, by kernel_rfl, by kernel_rfl, by kernel_rfl⟩, by kernel_rfl⟩
theorem fi50_ok : FnOk Try.prog 50 fi50 := ⟨⟨Try.f50, Try.func50, by kernel_rfl, by kernel_rfl, by kernel_rfl, by kernel_rfl⟩, by kernel_rfl⟩
theorem fi51_ok : FnOk Try.prog 51 fi51 := ⟨⟨Try.f51, Try.func51, by kernel_rfl, by kernel_rfl, by kernel_rfl, by kernel_rfl⟩, by kernel_rfl⟩
theorem fi52_ok : FnOk Try.prog 52 fi52 := ⟨⟨Try.f52, Try.func52, by kernel_rfl, by kernel_rfl, by kernel_rfl, by kernel_rfl⟩, by kernel_rfl⟩
theorem fi53_ok : FnOk Try.prog 53 fi53 := ⟨⟨Try.f53, Try.func53, by kernel_rfl, by kernel_rfl, by kernel_rfl, by kernel_rfl⟩, by kernel_rfl⟩
theorem fi55_ok : FnOk Try.prog 55 fi55 := ⟨⟨Try.f55, Try.func55, by kernel_rfl, by kernel_rfl, by kernel_rfl, by kernel_rfl⟩, by kernel_rfl⟩
theorem fi56_ok : FnOk Try.prog 56 fi56 := ⟨⟨Try.f56, Try.func56, by kernel_rfl, by kernel_rfl, by kernel_rfl, by kernel_rfl⟩, by kernel_rfl⟩
theorem fi57_ok : FnOk Try.prog 57 fi57 := ⟨⟨Try.f57, Try.func57, by kernel_rfl, by kernel_rfl, by kernel_rfl, by kernel_rfl⟩, by kernel_rfl⟩
theorem fi58_ok : FnOk Try.prog 58 fi58 := ⟨⟨Try.f58, Try.func58, by kernel_rfl, by kernel_rfl, by kernel_rfl, by kernel_rfl⟩, by kernel_rfl⟩
theorem fi63_ok : FnOk Try.prog 63 fi63 := ⟨⟨Try.f63, Try.func63, by kernel_rfl, by kernel_rfl, by kernel_rfl, by kernel_rfl⟩, by kernel_rfl⟩
theorem fi67_ok : FnOk Try.prog 67 fi67 := ⟨⟨Try.f67, Try.func67, by kernel_rfl, by kernel_rfl, by kernel_rfl, by kernel_rfl⟩, by kernel_rfl⟩
theorem fi70_ok : FnOk Try.prog 70 fi70 := ⟨⟨Try.f70, Try.func70, by kernel_rfl, by kernel_rfl, by kernel_rfl, by kernel_rfl⟩, by kernel_rfl⟩
theorem fi71_ok : FnOk Try.prog 71 fi71 := ⟨⟨Try.f71, Try.func71, by kernel_rfl, by kernel_rfl, by kernel_rfl, by kernel_rfl⟩, by kernel_rfl⟩
theorem fi75_ok : FnOk Try.prog 75 fi75 := ⟨⟨Try.f75, Try.func75, by kernel_rfl, by kernel_rfl, by kernel_rfl, by kernel_rfl⟩, by kernel_rfl⟩
theorem fi77_ok : FnOk Try.prog 77 fi77 := ⟨⟨Try.f77, Try.func77, by kernel_rfl, by kernel_rfl, by kernel_rfl, by kernel_rfl⟩, by kernel_rfl⟩
theorem fi78_ok : FnOk Try.prog 78 fi78 := ⟨⟨Try.f78, Try.func78, by kernel_rfl, by kernel_rfl, by kernel_rfl, by kernel_rfl⟩, by kernel_rfl⟩
theorem fi79_ok : FnOk Try.prog 79 fi79 := ⟨⟨Try.f79, Try.func79, by kernel_rfl, by kernel_rfl, by kernel_rfl, by kernel_rfl⟩, by kernel_rfl⟩
theorem fi80_ok : FnOk Try.prog 80 fi80 := ⟨⟨Try.f80, Try.func80, by kernel_rfl, by kernel_rfl, by kernel_rfl, by kernel_rfl⟩, by kernel_rfl⟩
theorem fi82_ok : FnOk Try.prog 82 fi82 := ⟨⟨Try.f82, Try.func82, by kernel_rfl, by kernel_rfl, by kernel_rfl, by kernel_rfl⟩, by kernel_rfl⟩
theorem fi83_ok : FnOk Try.prog 83 fi83 := ⟨⟨Try.f83, Try.func83, by kernel_rfl, by kernel_rfl, by kernel_rfl, by kernel_rfl⟩, by kernel_rfl⟩
theorem fi94_ok : FnOk Try.prog 94 fi94 := ⟨⟨Try.f94, Try.func94, by kernel_rfl, by kernel_rfl, by kernel_rfl, by kernel_rfl⟩, by kernel_rfl⟩
theorem fi97_ok : FnOk Try.prog 97 fi97 := ⟨⟨Try.f97, Try.func97, by kernel_rfl, by kernel_rfl, by kernel_rfl, by kernel_rfl⟩, by kernel_rfl⟩
theorem fi98_ok : FnOk Try.prog 98 fi98 := ⟨⟨Try.f98, Try.func98, by kernel_rfl, by kernel_rfl, by kernel_rfl, by kernel_rfl⟩, by kernel_rfl⟩
theorem fi99_ok : FnOk Try.prog 99 fi99 := ⟨⟨Try.f99, Try.func99, by kernel_rfl, by kernel_rfl, by kernel_rfl, by kernel_rfl⟩, by kernel_rfl⟩
theorem fi108_ok : FnOk Try.prog 108 fi108 := ⟨⟨Try.f108, Try.func108, by kernel_rfl, by kernel_rfl, by kernel_rfl, by kernel_rfl⟩, by kernel_rfl⟩
theorem fnTab_ok : FnL Try.prog fnTab := FnL.cons fi4_ok (FnL.cons fi19_ok (FnL.cons fi20_ok (FnL.cons fi21_ok (FnL.cons fi22_ok (FnL.cons fi23_ok (FnL.cons fi24_ok (FnL.cons fi25_ok (FnL.cons fi37_ok (FnL.cons fi45_ok (FnL.cons fi46_ok (FnL.cons fi47_ok (FnL.cons fi48_ok (FnL.cons fi49_ok (FnL.cons fi50_ok (FnL.cons fi51_ok (FnL.cons fi52_ok (FnL.cons fi53_ok (FnL.consI ins_row (FnL.cons fi55_ok (FnL.cons fi56_ok (FnL.cons fi57_ok (FnL.cons fi58_ok (FnL.cons fi63_ok (FnL.cons fi67_ok (FnL.cons fi70_ok (FnL.cons fi71_ok (FnL.cons fi75_ok (FnL.cons fi77_ok (FnL.cons fi78_ok (FnL.cons fi79_ok (FnL.cons fi80_ok (FnL.cons fi82_ok (FnL.cons fi83_ok (FnL.cons fi94_ok (FnL.cons fi97_ok (FnL.cons fi98_ok (FnL.cons fi99_ok (FnL.cons fi108_ok (FnL.nil)))))))))))))))))))))))))))))))))))))))
theorem mixed : Try.prog.follows .mixedOrders = true := by kernel_rfl
end Go.Proofs.Ytcbldlfdjabeaaa
