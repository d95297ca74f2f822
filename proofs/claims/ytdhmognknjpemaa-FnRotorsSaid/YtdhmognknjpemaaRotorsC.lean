/-
  What the evaluator knows of the program: the types, the functions with their live slots. Printed by a program.
-/
import Derived.Test.YtdhmognknjpemaaChecked
import Derived.Test.YtdhmognknjpemaaRotorsP
import Derived.KernelRfl
set_option linter.unusedVariables false
namespace Go.Proofs.Ytdhmognknjpemaa
open Go Go.Rf

def tyTab : List (Nat × TI) := [
  (2, { desc := .int .i64, agg := false, size := 1, bytes := 8, zero := [.int .i64 0], row := .il .i64, cts := [2] }),
  (3, { desc := .int .i64, agg := false, size := 1, bytes := 8, zero := [.int .i64 0], row := .il .i64, cts := [3] }),
  (4, { desc := .bool, agg := false, size := 1, bytes := 1, zero := [.bool false], row := .bl, cts := [4] }),
  (5, { desc := .int .u8, agg := false, size := 1, bytes := 1, zero := [.int .u8 0], row := .il .u8, cts := [5] }),
  (22, { desc := .sl 5, agg := false, size := 1, bytes := 24, zero := [.nilsl], row := .gen, cts := [22] }),
  (24, { desc := .sl 28, agg := false, size := 1, bytes := 24, zero := [.nilsl], row := .gen, cts := [24] }),
  (26, { desc := .struct [(0, 24), (1, 24), (2, 24)], agg := true, size := 3, bytes := 72, zero := [.nilsl, .nilsl, .nilsl], row := .gen, cts := [24, 24, 24] }),
  (28, { desc := .flt .f32, agg := false, size := 1, bytes := 4, zero := [.flt .f32 0], row := .fl .f32, cts := [28] }),
  (35, { desc := .flt .f64, agg := false, size := 1, bytes := 8, zero := [.flt .f64 0], row := .fl .f64, cts := [35] }),
  (47, { desc := .other, agg := false, size := 1, bytes := 8, zero := [.any], row := .gen, cts := [47] }),
  (48, { desc := .sl 61, agg := false, size := 1, bytes := 24, zero := [.nilsl], row := .gen, cts := [48] }),
  (50, { desc := .struct [(0, 26), (3, 48), (4, 2), (5, 28), (6, 28)], agg := true, size := 7, bytes := 112, zero := [.nilsl, .nilsl, .nilsl, .nilsl, .int .i64 0, .flt .f32 0, .flt .f32 0], row := .gen, cts := [24, 24, 24, 48, 2, 28, 28] }),
  (59, { desc := .other, agg := false, size := 1, bytes := 8, zero := [.any], row := .gen, cts := [59] }),
  (61, { desc := .struct [(0, 28), (1, 28), (2, 28)], agg := true, size := 3, bytes := 12, zero := [.flt .f32 0, .flt .f32 0, .flt .f32 0], row := .fl .f32, cts := [28, 28, 28] }),
  (95, { desc := .ptr 150, agg := false, size := 1, bytes := 8, zero := [.any], row := .gen, cts := [95] }),
  (115, { desc := .other, agg := false, size := 1, bytes := 8, zero := [.any], row := .gen, cts := [115] }),
  (148, { desc := .int .u64, agg := false, size := 1, bytes := 8, zero := [.int .u64 0], row := .il .u64, cts := [148] }),
  (150, { desc := .struct [(0, 22), (1, 3), (2, 148)], agg := true, size := 3, bytes := 40, zero := [.nilsl, .int .i64 0, .int .u64 0], row := .gen, cts := [22, 3, 148] }),
  (155, { desc := .ptr 26, agg := false, size := 1, bytes := 8, zero := [.any], row := .gen, cts := [155] }),
  (177, { desc := .int .u32, agg := false, size := 1, bytes := 4, zero := [.int .u32 0], row := .il .u32, cts := [177] }),
  (183, { desc := .int .u64, agg := false, size := 1, bytes := 8, zero := [.int .u64 0], row := .il .u64, cts := [183] })]
theorem tyTab_ok : chkTab Try.prog tyTab = true := by kernel_rfl

noncomputable def fi4 : FnI := { code := (Try.f4.body.getD .skip), nt := 261, res := [.tmp 4], live := [(0, [0, 1]), (1, [0, 1, 36]), (2, [4]), (3, [1, 5]), (4, [1, 5, 6]), (5, [1, 5, 6, 7, 8]), (6, [1, 5, 6, 7, 8, 9, 10]), (7, [1, 5, 6, 7, 8, 9, 10, 11, 12]), (8, [5, 6, 7, 8, 9, 10, 11, 12, 13]), (9, [5, 6, 7, 8, 9, 10, 11, 12, 13, 14, 15]), (10, [5, 6, 8, 9, 10, 11, 12, 13, 14, 15, 16, 17]), (11, [5, 6, 8, 9, 10, 11, 12, 13, 14, 15, 16, 17, 18, 19]), (12, [5, 6, 8, 9, 10, 11, 12, 13, 14, 15, 16, 17, 18, 19, 20, 21, 22]), (13, [5, 6, 8, 9, 10, 11, 12, 14, 15, 16, 17, 18, 19, 20, 21, 22, 23, 24, 25]), (14, [5, 6, 8, 9, 10, 11, 12, 14, 15, 16, 17, 18, 19, 20, 21, 22, 23, 24, 25, 26, 27]), (15, [5, 6, 8, 9, 10, 11, 12, 14, 15, 16, 17, 18, 19, 20, 21, 22, 23, 24, 25, 26, 27, 28, 29]), (16, [5, 6, 18, 20, 21, 23, 24, 26, 28, 177]), (17, [4]), (18, [5, 212]), (19, [4]), (20, [30, 31]), (21, [30, 31, 32, 33]), (22, [4])], nl := [], rn := [] }
noncomputable def fi26 : FnI := { code := (Try.f26.body.getD .skip), nt := 7, res := [.tmp 2], live := [(0, [0]), (1, [2])], nl := [], rn := [] }
noncomputable def fi27 : FnI := { code := (Try.f27.body.getD .skip), nt := 13, res := [.tmp 4], live := [(0, [0, 1]), (1, [4])], nl := [], rn := [] }
noncomputable def fi28 : FnI := { code := (Try.f28.body.getD .skip), nt := 8, res := [.cell 2 50], live := [(0, [0, 2]), (1, [2, 3]), (2, [2])], nl := [], rn := [(.fl .f32, 1), (.fl .f32, 1), (.fl .f32, 1), (.fl .f32, 3), (.gen, 1), (.gen, 1), (.gen, 1)] }
noncomputable def fi29 : FnI := { code := (Try.f29.body.getD .skip), nt := 25, res := [.tmp 6], live := [(0, [0, 1, 2]), (1, [0, 1, 2, 8]), (2, [6]), (3, [0, 1, 2, 12]), (4, [6]), (5, [6])], nl := [], rn := [] }
noncomputable def fi30 : FnI := { code := (Try.f30.body.getD .skip), nt := 56, res := [.cell 4 50, .tmp 5], live := [(0, [1, 2, 4]), (1, [1, 2, 4, 11]), (2, [4, 5]), (3, [1, 2, 4, 6]), (4, [1, 2, 4, 6]), (5, [1, 4, 6, 26, 27, 28]), (6, [1, 4, 6, 26, 27, 28, 29]), (7, [1, 4, 6, 7, 8, 26, 27, 28]), (8, [1, 4, 6, 26, 27, 28]), (9, [1, 4, 6, 26, 27, 28]), (10, [4, 5])], nl := [], rn := [(.fl .f32, 1), (.fl .f32, 1), (.fl .f32, 1), (.fl .f32, 3), (.gen, 1), (.gen, 1), (.gen, 1), (.gen, 1)] }
noncomputable def fi31 : FnI := { code := (Try.f31.body.getD .skip), nt := 21, res := [.tmp 4, .tmp 5], live := [(0, [1, 2]), (1, [1, 2, 14]), (2, [4, 5]), (3, [4, 5])], nl := [], rn := [] }
noncomputable def fi32 : FnI := { code := (Try.f32.body.getD .skip), nt := 29, res := [.tmp 6, .tmp 7], live := [(0, [1, 2, 3]), (1, [1, 2, 3, 21]), (2, [6, 7]), (3, [6, 7])], nl := [], rn := [] }
noncomputable def fi33 : FnI := { code := (Try.f33.body.getD .skip), nt := 35, res := [.cell 4 50, .tmp 5], live := [(0, [1, 2, 4]), (1, [1, 2, 4, 10]), (2, [4, 5]), (3, [1, 4, 6]), (4, [1, 4, 6, 16, 17]), (5, [1, 4, 6, 16, 17, 18]), (6, [1, 4, 6, 7, 16, 17]), (7, [1, 4, 6, 16, 17]), (8, [1, 4, 6, 16, 17]), (9, [4, 5])], nl := [], rn := [(.fl .f32, 1), (.fl .f32, 1), (.fl .f32, 1), (.fl .f32, 3), (.gen, 1), (.gen, 1), (.gen, 1), (.gen, 1)] }
noncomputable def fi34 : FnI := { code := (Try.f34.body.getD .skip), nt := 55, res := [.tmp 8, .tmp 9, .tmp 10], live := [(0, [1, 2, 3, 4]), (1, [1, 2, 3, 4, 43]), (2, [8, 9, 10]), (3, [8, 9, 10])], nl := [], rn := [] }
noncomputable def fi35 : FnI := { code := (Try.f35.body.getD .skip), nt := 27, res := [.tmp 6, .tmp 7], live := [(0, [1, 2, 3]), (1, [1, 2, 3, 17]), (2, [6, 7]), (3, [6, 7])], nl := [], rn := [] }
noncomputable def fi36 : FnI := { code := (Try.f36.body.getD .skip), nt := 77, res := [.tmp 2], live := [(0, [1]), (1, [1, 3]), (2, [1, 39]), (3, [2]), (4, [1, 4]), (5, [1, 4, 43, 44, 45]), (6, [1, 4, 43, 44, 45, 46]), (7, [1, 4, 6, 43, 44, 45]), (8, [1, 6, 43, 44, 45, 73]), (9, [2]), (10, [1, 4, 43, 44, 45]), (11, [1, 4, 43, 44, 45]), (12, [2])], nl := [], rn := [] }
noncomputable def fi37 : FnI := { code := (Try.f37.body.getD .skip), nt := 8, res := [.tmp 4], live := [(0, [0, 1]), (1, [4])], nl := [], rn := [] }
noncomputable def fi38 : FnI := { code := (Try.f38.body.getD .skip), nt := 14, res := [.tmp 4], live := [(0, [0, 1]), (1, [0, 1, 7]), (2, [4]), (3, [4])], nl := [], rn := [] }
noncomputable def fi39 : FnI := { code := (Try.f39.body.getD .skip), nt := 59, res := [.cell 14 50, .tmp 15], live := [(0, [1, 2, 3, 4, 5, 6, 7, 14]), (1, [1, 2, 3, 4, 5, 6, 7, 14, 21]), (2, [14, 15]), (3, [2, 3, 4, 5, 6, 14, 16]), (4, [2, 3, 4, 5, 6, 14, 16, 29, 30]), (5, [2, 3, 4, 5, 6, 14, 16, 29, 30, 31]), (6, [2, 3, 4, 5, 6, 14, 16, 17, 29, 30]), (7, [2, 3, 4, 5, 6, 14, 16, 18, 29, 30]), (8, [2, 3, 4, 5, 6, 14, 16, 29, 30]), (9, [2, 3, 4, 5, 6, 14, 16, 29, 30]), (10, [14, 15])], nl := [(5, (.fl .f32, 3))], rn := [(.fl .f32, 1), (.fl .f32, 1), (.fl .f32, 1), (.fl .f32, 3), (.gen, 1), (.gen, 1), (.gen, 1), (.gen, 1)] }
noncomputable def fi40 : FnI := { code := (Try.f40.body.getD .skip), nt := 30, res := [.cell 6 50, .tmp 7], live := [(0, [1, 3, 5, 6]), (1, [1, 3, 5, 6, 17]), (2, [6, 7]), (3, [1, 5, 6, 8]), (4, [6, 8]), (5, [6, 7])], nl := [], rn := [(.fl .f32, 1), (.fl .f32, 1), (.fl .f32, 1), (.fl .f32, 3), (.gen, 1), (.gen, 1), (.gen, 1), (.gen, 1)] }
noncomputable def fi41 : FnI := { code := (Try.f41.body.getD .skip), nt := 40, res := [.tmp 4], live := [(0, [2, 3]), (1, [2, 3, 5]), (2, [4])], nl := [], rn := [] }
noncomputable def fi57 : FnI := { code := (Try.f57.body.getD .skip), nt := 67, res := [.tmp 2], live := [(0, [1]), (1, [1, 3]), (2, [1, 40]), (3, [2]), (4, [1, 42, 43, 44]), (5, [1, 42, 43, 44, 45]), (6, [1, 4, 5, 42, 43, 44]), (7, [1, 42, 43, 44, 65]), (8, [2]), (9, [1, 42, 43, 44]), (10, [2])], nl := [], rn := [] }
noncomputable def fi62 : FnI := { code := (Try.f62.body.getD .skip), nt := 24, res := [.tmp 4], live := [(0, [2, 3]), (1, [4])], nl := [], rn := [] }
noncomputable def fi72 : FnI := { code := (Try.f72.body.getD .skip), nt := 6, res := [.tmp 2], live := [(0, [0]), (1, [2])], nl := [], rn := [] }
noncomputable def fi73 : FnI := { code := (Try.f73.body.getD .skip), nt := 46, res := [.cell 2 26], live := [(0, [0, 2]), (1, [0, 2, 8]), (2, [2]), (3, [0, 2, 3]), (4, [0, 2, 3, 4]), (5, [0, 2, 3, 4, 5]), (6, [0, 2, 3, 4, 5, 23]), (7, [0, 2, 3, 4, 5]), (8, [0, 2, 3, 4, 5, 6]), (9, [0, 2, 3, 4, 5]), (10, [0, 2, 3, 4, 5]), (11, [2])], nl := [], rn := [(.fl .f32, 1), (.fl .f32, 1), (.fl .f32, 1)] }
noncomputable def fi74 : FnI := { code := (Try.f74.body.getD .skip), nt := 8, res := [.tmp 2, .tmp 3], live := [(0, [0]), (1, [0, 6]), (2, [2, 3]), (3, [2, 3])], nl := [], rn := [] }
noncomputable def fi76 : FnI := { code := (Try.f76.body.getD .skip), nt := 42, res := [.tmp 6], live := [(0, [1, 2, 3]), (1, [1, 7, 8, 9, 10, 11]), (2, [1, 7, 8, 9, 10, 11, 12]), (3, [1, 7, 8, 9, 10, 11, 12, 24]), (4, [1, 7, 8, 12]), (5, [6])], nl := [], rn := [] }
noncomputable def fi77 : FnI := { code := (Try.f77.body.getD .skip), nt := 6, res := [.tmp 2], live := [(0, [0]), (1, [2])], nl := [], rn := [] }
noncomputable def fi79 : FnI := { code := (Try.f79.body.getD .skip), nt := 14, res := [.tmp 4, .tmp 5, .tmp 6], live := [(0, [0, 1]), (1, [0, 1, 11]), (2, [4, 5, 6]), (3, [4, 5, 6])], nl := [], rn := [] }
noncomputable def fi80 : FnI := { code := (Try.f80.body.getD .skip), nt := 61, res := [.cell 2 50], live := [(0, [0, 2]), (1, [0, 2, 3]), (2, [0, 2, 3, 4]), (3, [0, 2, 3, 4, 5]), (4, [0, 2, 3, 4, 5, 23]), (5, [0, 2, 3, 4, 5]), (6, [0, 2, 3, 4, 5]), (7, [0, 2, 3, 4, 5, 6]), (8, [0, 2, 3, 4, 5, 6]), (9, [0, 2, 3, 4, 5]), (10, [2, 3]), (11, [2])], nl := [(4, (.fl .f32, 3))], rn := [(.fl .f32, 1), (.fl .f32, 1), (.fl .f32, 1), (.fl .f32, 3), (.gen, 1), (.gen, 1), (.gen, 1)] }
noncomputable def fi81 : FnI := { code := (Try.f81.body.getD .skip), nt := 12, res := [.cell 2 50], live := [(0, [1, 2]), (1, [1, 2]), (2, [2])], nl := [], rn := [(.fl .f32, 1), (.fl .f32, 1), (.fl .f32, 1), (.fl .f32, 3), (.gen, 1), (.gen, 1), (.gen, 1)] }
noncomputable def fi82 : FnI := { code := (Try.f82.body.getD .skip), nt := 9, res := [.cell 2 50, .tmp 3], live := [(0, [1, 2]), (1, [1, 2, 6]), (2, [2, 3]), (3, [2, 3])], nl := [], rn := [(.fl .f32, 1), (.fl .f32, 1), (.fl .f32, 1), (.fl .f32, 3), (.gen, 1), (.gen, 1), (.gen, 1), (.gen, 1)] }
noncomputable def fi83 : FnI := { code := (Try.f83.body.getD .skip), nt := 11, res := [.tmp 4], live := [(0, [1, 2]), (1, [4])], nl := [], rn := [] }
noncomputable def fi84 : FnI := { code := (Try.f84.body.getD .skip), nt := 23, res := [.tmp 4], live := [(0, [1, 2]), (1, [4])], nl := [], rn := [] }
noncomputable def fi85 : FnI := { code := (Try.f85.body.getD .skip), nt := 5, res := [.tmp 2], live := [(0, [0]), (1, [2])], nl := [], rn := [] }
noncomputable def fi86 : FnI := { code := (Try.f86.body.getD .skip), nt := 32, res := [.tmp 6], live := [(0, [1, 2, 3]), (1, [2, 3, 7]), (2, [2, 8]), (3, [6])], nl := [], rn := [] }
noncomputable def fi87 : FnI := { code := (Try.f87.body.getD .skip), nt := 58, res := [.tmp 8, .tmp 9], live := [(0, [1, 2, 3, 4]), (1, [2, 4, 10]), (2, [2, 11, 12]), (3, [11, 12, 13, 14]), (4, [8, 9])], nl := [], rn := [] }
noncomputable def fi88 : FnI := { code := (Try.f88.body.getD .skip), nt := 6, res := [.tmp 2], live := [(0, [0]), (1, [2])], nl := [], rn := [] }
noncomputable def fi89 : FnI := { code := (Try.f89.body.getD .skip), nt := 15, res := [.tmp 6], live := [(0, [0, 1, 2]), (1, [6])], nl := [], rn := [] }
noncomputable def fi90 : FnI := { code := (Try.f90.body.getD .skip), nt := 9, res := [.tmp 2], live := [(0, [0]), (1, [2])], nl := [], rn := [] }
noncomputable def fi91 : FnI := { code := (Try.f91.body.getD .skip), nt := 10, res := [.tmp 4], live := [(0, [0, 1]), (1, [4])], nl := [], rn := [] }
noncomputable def fi92 : FnI := { code := (Try.f92.body.getD .skip), nt := 13, res := [.cell 2 26], live := [(0, [1, 2]), (1, [2])], nl := [], rn := [(.fl .f32, 1), (.fl .f32, 1), (.fl .f32, 1)] }
noncomputable def fi93 : FnI := { code := (Try.f93.body.getD .skip), nt := 24, res := [.tmp 4], live := [(0, [2, 3]), (1, [4])], nl := [], rn := [] }
noncomputable def fi94 : FnI := { code := (Try.f94.body.getD .skip), nt := 33, res := [.tmp 4], live := [(0, [0, 1]), (1, [0, 1, 12]), (2, [4]), (3, [4])], nl := [], rn := [] }
noncomputable def fi95 : FnI := { code := (Try.f95.body.getD .skip), nt := 32, res := [.tmp 6], live := [(0, [0, 1, 2]), (1, [0, 1, 2, 14]), (2, [6]), (3, [1, 2, 15, 16, 17]), (4, [1, 2, 15, 16, 17, 18]), (5, [1, 2, 7, 8, 15, 16, 17]), (6, [1, 2, 8, 9, 15, 16, 17]), (7, [1, 2, 15, 16, 17, 30]), (8, [6]), (9, [1, 2, 15, 16, 17]), (10, [6])], nl := [], rn := [] }
noncomputable def fi97 : FnI := { code := (Try.f97.body.getD .skip), nt := 6, res := [.tmp 2], live := [(0, [0]), (1, [2])], nl := [], rn := [] }
noncomputable def fi102 : FnI := { code := (Try.f102.body.getD .skip), nt := 2, res := [.tmp 0], live := [(0, []), (1, [0])], nl := [], rn := [] }
noncomputable def fi103 : FnI := { code := (Try.f103.body.getD .skip), nt := 6, res := [.tmp 2], live := [(0, [0]), (1, [2])], nl := [], rn := [] }
noncomputable def fi104 : FnI := { code := (Try.f104.body.getD .skip), nt := 17, res := [.tmp 2], live := [(0, [0]), (1, [0, 3]), (2, [0, 3, 8]), (3, [0, 3]), (4, [4]), (5, [4, 13]), (6, [4]), (7, [2])], nl := [], rn := [] }
noncomputable def fi105 : FnI := { code := (Try.f105.body.getD .skip), nt := 47, res := [.tmp 2], live := [(0, [0]), (1, [3, 4]), (2, [3, 4, 12]), (3, [3, 4]), (4, [3, 4, 16]), (5, [3, 4]), (6, [4, 5]), (7, [4, 5, 6, 7]), (8, [4, 5, 6, 7, 8]), (9, [4, 5, 6, 7, 8, 25]), (10, [4, 5, 6, 7, 8]), (11, [4, 5, 6, 7, 8]), (12, [5, 7, 39]), (13, [2]), (14, [2])], nl := [], rn := [] }
noncomputable def fi109 : FnI := { code := (Try.f109.body.getD .skip), nt := 17, res := [.tmp 2], live := [(0, [0]), (1, [0, 3]), (2, [2]), (3, [0, 9]), (4, [2]), (5, [2])], nl := [], rn := [] }
noncomputable def fi123 : FnI := { code := (Try.f123.body.getD .skip), nt := 15, res := [.tmp 6], live := [(0, [0, 1, 2]), (1, [6])], nl := [], rn := [] }
noncomputable def fi124 : FnI := { code := (Try.f124.body.getD .skip), nt := 16, res := [.tmp 2], live := [(0, [0]), (1, [3]), (2, [4]), (3, [4, 14]), (4, [2]), (5, [2])], nl := [], rn := [] }
noncomputable def fi126 : FnI := { code := (Try.f126.body.getD .skip), nt := 14, res := [.tmp 6], live := [(0, [0, 1, 2]), (1, [6])], nl := [], rn := [] }
noncomputable def fi127 : FnI := { code := (Try.f127.body.getD .skip), nt := 8, res := [.tmp 4], live := [(0, [0, 1]), (1, [4])], nl := [], rn := [] }
noncomputable def fi140 : FnI := { code := (Try.f140.body.getD .skip), nt := 9, res := [.tmp 4], live := [(0, [0, 1]), (1, [4])], nl := [], rn := [] }
noncomputable def fi141 : FnI := { code := (Try.f141.body.getD .skip), nt := 37, res := [.cell 2 26], live := [(0, [0, 2]), (1, [0, 2, 3]), (2, [0, 2, 3, 4]), (3, [0, 2, 3, 4, 11]), (4, [0, 2, 3, 4]), (5, [0, 2, 3, 4, 5]), (6, [0, 2, 3, 4, 5, 6]), (7, [0, 2, 3, 4, 5, 6, 7]), (8, [0, 2, 3, 4]), (9, [2])], nl := [], rn := [(.fl .f32, 1), (.fl .f32, 1), (.fl .f32, 1)] }
noncomputable def fi142 : FnI := { code := (Try.f142.body.getD .skip), nt := 20, res := [.tmp 4], live := [(0, [0, 1]), (1, [0, 1, 7]), (2, [4]), (3, [0, 1, 5]), (4, [0, 1, 5, 11]), (5, [1, 5]), (6, [4])], nl := [], rn := [] }
noncomputable def fi143 : FnI := { code := (Try.f143.body.getD .skip), nt := 5, res := [.cell 0 26], live := [(0, [0]), (1, [0])], nl := [], rn := [(.fl .f32, 1), (.fl .f32, 1), (.fl .f32, 1)] }
noncomputable def fi144 : FnI := { code := (Try.f144.body.getD .skip), nt := 38, res := [], live := [(0, [0, 2, 3]), (1, [0, 3]), (2, [])], nl := [], rn := [] }
noncomputable def fi146 : FnI := { code := (Try.f146.body.getD .skip), nt := 67, res := [.tmp 4, .tmp 5, .tmp 6, .tmp 7, .tmp 8], live := [(0, [1, 2]), (1, [2, 9, 10]), (2, [2, 9, 10, 11]), (3, [2, 9, 10, 11, 22]), (4, [4, 5, 6, 7, 8]), (5, [2, 9, 10, 11, 37]), (6, [4, 5, 6, 7, 8]), (7, [4, 5, 6, 7, 8])], nl := [], rn := [] }
noncomputable def fi147 : FnI := { code := (Try.f147.body.getD .skip), nt := 9, res := [.tmp 4], live := [(0, [0, 1]), (1, [4])], nl := [], rn := [] }
noncomputable def fi148 : FnI := { code := (Try.f148.body.getD .skip), nt := 6, res := [.tmp 2], live := [(0, [0]), (1, [2])], nl := [], rn := [] }
noncomputable def fi149 : FnI := { code := (Try.f149.body.getD .skip), nt := 8, res := [.tmp 2], live := [(0, [0]), (1, [0, 4]), (2, [2]), (3, [2])], nl := [], rn := [(.fl .f32, 3)] }
noncomputable def fi150 : FnI := { code := (Try.f150.body.getD .skip), nt := 10, res := [.tmp 2], live := [(0, [0]), (1, [2])], nl := [], rn := [] }
noncomputable def fi151 : FnI := { code := (Try.f151.body.getD .skip), nt := 9, res := [.tmp 2], live := [(0, [0]), (1, [0, 5]), (2, [2]), (3, [2])], nl := [], rn := [] }
noncomputable def fi152 : FnI := { code := (Try.f152.body.getD .skip), nt := 8, res := [.tmp 2], live := [(0, [0]), (1, [0, 4]), (2, [2]), (3, [2])], nl := [], rn := [(.fl .f32, 1)] }
noncomputable def fi153 : FnI := { code := (Try.f153.body.getD .skip), nt := 7, res := [.tmp 2], live := [(0, [0]), (1, [2])], nl := [], rn := [] }
noncomputable def fi154 : FnI := { code := (Try.f154.body.getD .skip), nt := 6, res := [.tmp 2], live := [(0, [0]), (1, [2])], nl := [], rn := [] }
noncomputable def fi157 : FnI := { code := (Try.f157.body.getD .skip), nt := 7, res := [.tmp 2], live := [(0, [0]), (1, [2])], nl := [], rn := [] }
noncomputable def fi158 : FnI := { code := (Try.f158.body.getD .skip), nt := 7, res := [.tmp 2], live := [(0, [0]), (1, [2]), (2, [2])], nl := [], rn := [] }
noncomputable def fi165 : FnI := { code := (Try.f165.body.getD .skip), nt := 7, res := [.tmp 2], live := [(0, [0]), (1, [2])], nl := [], rn := [] }
noncomputable def fi170 : FnI := { code := (Try.f170.body.getD .skip), nt := 7, res := [.tmp 2], live := [(0, [0]), (1, [2]), (2, [2])], nl := [], rn := [] }
noncomputable def fi171 : FnI := { code := (Try.f171.body.getD .skip), nt := 32, res := [.tmp 6], live := [(0, [0, 1, 2]), (1, [0, 1, 2, 14]), (2, [6]), (3, [1, 2, 15, 16, 17]), (4, [1, 2, 15, 16, 17, 18]), (5, [1, 2, 7, 8, 15, 16, 17]), (6, [1, 2, 8, 9, 15, 16, 17]), (7, [1, 2, 15, 16, 17, 30]), (8, [6]), (9, [1, 2, 15, 16, 17]), (10, [6])], nl := [], rn := [] }
noncomputable def fi177 : FnI := { code := (Try.f177.body.getD .skip), nt := 62, res := [.tmp 2], live := [(0, [0]), (1, [0, 3]), (2, [0, 3, 13]), (3, [0, 3]), (4, [0, 3]), (5, [0, 3]), (6, [0, 3, 53]), (7, [2]), (8, [2])], nl := [], rn := [], mg := true }
noncomputable def fi178 : FnI := { code := (Try.f178.body.getD .skip), nt := 19, res := [.tmp 4], live := [(0, [0, 1]), (1, [0, 1, 7, 8]), (2, [0, 1, 7, 8, 9]), (3, [0, 1, 5, 7, 8]), (4, [0, 1, 5, 7, 8, 16]), (5, [4]), (6, [0, 1, 7, 8]), (7, [4])], nl := [], rn := [] }
noncomputable def fi179 : FnI := { code := (Try.f179.body.getD .skip), nt := 7, res := [.tmp 3], live := [(0, [0, 1]), (1, [3])], nl := [], rn := [] }
noncomputable def fi183 : FnI := { code := (Try.f183.body.getD .skip), nt := 26, res := [.tmp 2], live := [(0, [0]), (1, [0, 7]), (2, [2]), (3, [3]), (4, [3, 4]), (5, [3, 4, 17]), (6, [3]), (7, [2])], nl := [], rn := [] }
noncomputable def fi187 : FnI := { code := (Try.f187.body.getD .skip), nt := 5, res := [.tmp 2], live := [(0, [0]), (1, [2])], nl := [], rn := [] }
noncomputable def fi188 : FnI := { code := (Try.f188.body.getD .skip), nt := 67, res := [.tmp 2], live := [(0, [0]), (1, [0, 12]), (2, [2]), (3, [0, 19]), (4, [2]), (5, [3]), (6, [3, 26]), (7, [3]), (8, [3, 4]), (9, [3, 4, 31]), (10, [3, 4]), (11, [3, 4, 35]), (12, [3, 4]), (13, [4, 5]), (14, [4, 5, 6]), (15, [4, 5, 6, 7]), (16, [4, 5, 6, 7, 8]), (17, [4, 5, 6, 7, 8, 44]), (18, [4, 5, 6, 7, 8]), (19, [4, 5, 6, 7, 8]), (20, [5, 7, 59]), (21, [2]), (22, [2])], nl := [], rn := [] }
noncomputable def fi190 : FnI := { code := (Try.f190.body.getD .skip), nt := 38, res := [.tmp 2], live := [(0, [0]), (1, [0, 16]), (2, [2]), (3, [0, 19]), (4, [3, 4]), (5, [3, 27]), (6, [3]), (7, [2]), (8, [5]), (9, [2])], nl := [], rn := [] }
noncomputable def fi192 : FnI := { code := (Try.f192.body.getD .skip), nt := 13, res := [.tmp 4], live := [(0, [0, 1]), (1, [4])], nl := [], rn := [] }
noncomputable def fi194 : FnI := { code := (Try.f194.body.getD .skip), nt := 6, res := [.tmp 2], live := [(0, [0]), (1, [2])], nl := [], rn := [] }
noncomputable def fi195 : FnI := { code := (Try.f195.body.getD .skip), nt := 15, res := [.tmp 4], live := [(0, [0, 1]), (1, [0, 1, 6]), (2, [0]), (3, [0, 10]), (4, [0]), (5, [4])], nl := [], rn := [] }
noncomputable def fi196 : FnI := { code := (Try.f196.body.getD .skip), nt := 11, res := [.tmp 2, .tmp 3], live := [(0, [0]), (1, [0, 2]), (2, [2, 3])], nl := [], rn := [] }
noncomputable def fnTab : List (Nat × FnI) := [(4, fi4), (26, fi26), (27, fi27), (28, fi28), (29, fi29), (30, fi30), (31, fi31), (32, fi32), (33, fi33), (34, fi34), (35, fi35), (36, fi36), (37, fi37), (38, fi38), (39, fi39), (40, fi40), (41, fi41), (57, fi57), (62, fi62), (72, fi72), (73, fi73), (74, fi74), (76, fi76), (77, fi77), (79, fi79), (80, fi80), (81, fi81), (82, fi82), (83, fi83), (84, fi84), (85, fi85), (86, fi86), (87, fi87), (88, fi88), (89, fi89), (90, fi90), (91, fi91), (92, fi92), (93, fi93), (94, fi94), (95, fi95), (97, fi97), (102, fi102), (103, fi103), (104, fi104), (105, fi105), (109, fi109), (123, fi123), (124, fi124), (126, fi126), (127, fi127), (140, fi140), (141, fi141), (142, fi142), (143, fi143), (144, fi144), (146, fi146), (147, fi147), (148, fi148), (149, fi149), (150, fi150), (151, fi151), (152, fi152), (153, fi153), (154, fi154), (157, fi157), (158, fi158), (165, fi165), (170, fi170), (171, fi171), (177, fi177), (178, fi178), (179, fi179), (183, fi183), (187, fi187), (188, fi188), (190, fi190), (192, fi192), (194, fi194), (195, fi195), (196, fi196)]
theorem fi4_ok : FnOk Try.prog 4 fi4 := ⟨⟨Try.f4, Try.func4, by kernel_rfl, by kernel_rfl, by kernel_rfl, by kernel_rfl⟩, by kernel_rfl⟩
theorem fi26_ok : FnOk Try.prog 26 fi26 := ⟨⟨Try.f26, Try.func26, by kernel_rfl, by kernel_rfl, by kernel_rfl, by kernel_rfl⟩, by kernel_rfl⟩
theorem fi27_ok : FnOk Try.prog 27 fi27 := ⟨⟨Try.f27, Try.func27, by kernel_rfl, by kernel_rfl, by kernel_rfl, by kernel_rfl⟩, by kernel_rfl⟩
theorem fi28_ok : FnOk Try.prog 28 fi28 := ⟨⟨Try.f28, Try.func28, by kernel_rfl, by kernel_rfl, by kernel_rfl, by kernel_rfl⟩, by kernel_rfl⟩
theorem fi29_ok : FnOk Try.prog 29 fi29 := ⟨⟨Try.f29, Try.func29, by kernel_rfl, by kernel_rfl, by kernel_rfl, by kernel_rfl⟩, by kernel_rfl⟩
theorem fi30_ok : FnOk Try.prog 30 fi30 := ⟨⟨Try.f30, Try.func30, by kernel_rfl, by kernel_rfl, by kernel_rfl, by kernel_rfl⟩, by kernel_rfl⟩
theorem fi31_ok : FnOk Try.prog 31 fi31 := ⟨⟨Try.f31, Try.func31, by kernel_rfl, by kernel_rfl, by kernel_rfl, by kernel_rfl⟩, by kernel_rfl⟩
theorem fi32_ok : FnOk Try.prog 32 fi32 := ⟨⟨Try.f32, Try.func32, by kernel_rfl, by kernel_rfl, by kernel_rfl, by kernel_rfl⟩, by kernel_rfl⟩
theorem fi33_ok : FnOk Try.prog 33 fi33 := ⟨⟨Try.f33, Try.func33, by kernel_rfl, by kernel_rfl, by kernel_rfl, by kernel_rfl⟩, by kernel_rfl⟩
theorem fi34_ok : FnOk Try.prog 34 fi34 := ⟨⟨Try.f34, Try.func34, by kernel_rfl, by kernel_rfl, by kernel_rfl, by kernel_rfl⟩, by kernel_rfl⟩
theorem fi35_ok : FnOk Try.prog 35 fi35 := ⟨⟨Try.f35, Try.func35, by kernel_rfl, by kernel_rfl, by kernel_rfl, by kernel_rfl⟩, by kernel_rfl⟩
theorem fi36_ok : FnOk Try.prog 36 fi36 := ⟨⟨Try.f36, Try.func36, by kernel_rfl, by kernel_rfl, by kernel_rfl, by kernel_rfl⟩, by kernel_rfl⟩
theorem fi37_ok : FnOk Try.prog 37 fi37 := ⟨⟨Try.f37, Try.func37, by kernel_rfl, by kernel_rfl, by kernel_rfl, by kernel_rfl⟩, by kernel_rfl⟩
theorem fi38_ok : FnOk Try.prog 38 fi38 := ⟨⟨Try.f38, Try.func38, by kernel_rfl, by kernel_rfl, by kernel_rfl, by kernel_rfl⟩, by kernel_rfl⟩
theorem fi39_ok : FnOk Try.prog 39 fi39 := ⟨⟨Try.f39, Try.func39, by kernel_rfl, by kernel_rfl, by kernel_rfl, by kernel_rfl⟩, by kernel_rfl⟩
theorem fi40_ok : FnOk Try.prog 40 fi40 := ⟨⟨Try.f40, Try.func40, by kernel_rfl, by kernel_rfl, by kernel_rfl, by kernel_rfl⟩, by kernel_rfl⟩
theorem fi41_ok : FnOk Try.prog 41 fi41 := ⟨⟨Try.f41, Try.func41, by kernel_rfl, by kernel_rfl, by kernel_rfl, by kernel_rfl⟩, by kernel_rfl⟩
theorem fi57_ok : FnOk Try.prog 57 fi57 := ⟨⟨Try.f57, Try.func57, by kernel_rfl, by kernel_rfl, by kernel_rfl, by kernel_rfl⟩, by kernel_rfl⟩
theorem fi62_ok : FnOk Try.prog 62 fi62 := ⟨⟨Try.f62, Try.func62, by kernel_rfl, by kernel_rfl, by kernel_rfl, by kernel_rfl⟩, by kernel_rfl⟩
theorem fi72_ok : FnOk Try.prog 72 fi72 := ⟨⟨Try.f72, Try.func72, by kernel_rfl, by kernel_rfl, by kernel_rfl, by kernel_rfl⟩, by kernel_rfl⟩
theorem fi73_ok : FnOk Try.prog 73 fi73 := ⟨⟨Try.f73, Try.func73, by kernel_rfl, by kernel_rfl, by kernel_rfl, by kernel_rfl⟩, by kernel_rfl⟩
theorem fi74_ok : FnOk Try.prog 74 fi74 := ⟨⟨Try.f74, Try.func74, by kernel_rfl, by kernel_rfl, by kernel_rfl, by kernel_rfl⟩, by kernel_rfl⟩
theorem fi76_ok : FnOk Try.prog 76 fi76 := ⟨⟨Try.f76, Try.func76, by kernel_rfl, by kernel_rfl, by kernel_rfl, by kernel_rfl⟩, by kernel_rfl⟩
theorem fi77_ok : FnOk Try.prog 77 fi77 := ⟨⟨Try.f77, Try.func77, by kernel_rfl, by kernel_rfl, by kernel_rfl, by kernel_rfl⟩, by kernel_rfl⟩
theorem fi79_ok : FnOk Try.prog 79 fi79 := ⟨⟨Try.f79, Try.func79, by kernel_rfl, by kernel_rfl, by kernel_rfl, by kernel_rfl⟩, by kernel_rfl⟩
theorem fi80_ok : FnOk Try.prog 80 fi80 := ⟨⟨Try.f80, Try.func80, by kernel_rfl, by kernel_rfl, by kernel_rfl, by kernel_rfl⟩, by kernel_rfl⟩
theorem fi81_ok : FnOk Try.prog 81 fi81 := ⟨⟨Try.f81, Try.func81, by kernel_rfl, by kernel_rfl, by kernel_rfl, by kernel_rfl⟩, by kernel_rfl⟩
theorem fi82_ok : FnOk Try.prog 82 fi82 := ⟨⟨Try.f82, Try.func82, by kernel_rfl, by kernel_rfl, by kernel_rfl, by kernel_rfl⟩, by kernel_rfl⟩
theorem fi83_ok : FnOk Try.prog 83 fi83 := ⟨⟨Try.f83, Try.func83, by kernel_rfl, by kernel_rfl, by kernel_rfl, by kernel_rfl⟩, by kernel_rfl⟩
theorem fi84_ok : FnOk Try.prog 84 fi84 := ⟨⟨Try.f84, Try.func84, by kernel_rfl, by kernel_rfl, by kernel_rfl, by kernel_rfl⟩, by kernel_rfl⟩
theorem fi85_ok : FnOk Try.prog 85 fi85 := ⟨⟨Try.f85, Try.func85, by kernel_rfl, by kernel_rfl, by kernel_rfl, by kernel_rfl⟩, by kernel_rfl⟩
theorem fi86_ok : FnOk Try.prog 86 fi86 := ⟨⟨Try.f86, Try.func86, by kernel_rfl, by kernel_rfl, by kernel_rfl, by kernel_rfl⟩, by kernel_rfl⟩
theorem fi87_ok : FnOk Try.prog 87 fi87 := ⟨⟨Try.f87, Try.func87, by kernel_rfl, by kernel_rfl, by kernel_rfl, by kernel_rfl⟩, by kernel_rfl⟩
theorem fi88_ok : FnOk Try.prog 88 fi88 := ⟨⟨Try.f88, Try.func88, by kernel_rfl, by kernel_rfl, by kernel_rfl, by kernel_rfl⟩, by kernel_rfl⟩
theorem fi89_ok : FnOk Try.prog 89 fi89 := ⟨⟨Try.f89, Try.func89, by kernel_rfl, by kernel_rfl, by kernel_rfl, by kernel_rfl⟩, by kernel_rfl⟩
theorem fi90_ok : FnOk Try.prog 90 fi90 := ⟨⟨Try.f90, Try.func90, by kernel_rfl, by kernel_rfl, by kernel_rfl, by kernel_rfl⟩, by kernel_rfl⟩
theorem fi91_ok : FnOk Try.prog 91 fi91 := ⟨⟨Try.f91, Try.func91, by kernel_rfl, by kernel_rfl, by kernel_rfl, by kernel_rfl⟩, by kernel_rfl⟩
theorem fi92_ok : FnOk Try.prog 92 fi92 := ⟨⟨Try.f92, Try.func92, by kernel_rfl, by kernel_rfl, by kernel_rfl, by kernel_rfl⟩, by kernel_rfl⟩
theorem fi93_ok : FnOk Try.prog 93 fi93 := ⟨⟨Try.f93, Try.func93, by kernel_rfl, by kernel_rfl, by kernel_rfl, by kernel_rfl⟩, by kernel_rfl⟩
theorem fi94_ok : FnOk Try.prog 94 fi94 := ⟨⟨Try.f94, Try.func94, by kernel_rfl, by kernel_rfl, by kernel_rfl, by kernel_rfl⟩, by kernel_rfl⟩
theorem fi95_ok : FnOk Try.prog 95 fi95 := ⟨⟨Try.f95, Try.func95, by kernel_rfl, by kernel_rfl, by kernel_rfl, by kernel_rfl⟩, by kernel_rfl⟩
theorem fi97_ok : FnOk Try.prog 97 fi97 := ⟨⟨Try.f97, Try.func97, by kernel_rfl, by kernel_rfl, by kernel_rfl, by kernel_rfl⟩, by kernel_rfl⟩
theorem fi102_ok : FnOk Try.prog 102 fi102 := ⟨⟨Try.f102, Try.func102, by kernel_rfl, by kernel_rfl, by kernel_rfl, by kernel_rfl⟩, by kernel_rfl⟩
theorem fi103_ok : FnOk Try.prog 103 fi103 := ⟨⟨Try.f103, Try.func103, by kernel_rfl, by kernel_rfl, by kernel_rfl, by kernel_rfl⟩, by kernel_rfl⟩
theorem fi104_ok : FnOk Try.prog 104 fi104 := ⟨⟨Try.f104, Try.func104, by kernel_rfl, by kernel_rfl, by kernel_rfl, by kernel_rfl⟩, by kernel_rfl⟩
theorem fi105_ok : FnOk Try.prog 105 fi105 := ⟨⟨Try.f105, Try.func105, by kernel_rfl, by kernel_rfl, by kernel_rfl, by kernel_rfl⟩, by kernel_rfl⟩
theorem fi109_ok : FnOk Try.prog 109 fi109 := ⟨⟨Try.f109, Try.func109, by kernel_rfl, by kernel_rfl, by kernel_rfl, by kernel_rfl⟩, by kernel_rfl⟩
theorem fi123_ok : FnOk Try.prog 123 fi123 := ⟨⟨Try.f123, Try.func123, by kernel_rfl, by kernel_rfl, by kernel_rfl, by kernel_rfl⟩, by kernel_rfl⟩
theorem fi124_ok : FnOk Try.prog 124 fi124 := ⟨⟨Try.f124, Try.func124, by kernel_rfl, by kernel_rfl, by kernel_rfl, by kernel_rfl⟩, by kernel_rfl⟩
theorem fi126_ok : FnOk Try.prog 126 fi126 := ⟨⟨Try.f126, Try.func126, by kernel_rfl, by kernel_rfl, by kernel_rfl, by kernel_rfl⟩, by kernel_rfl⟩
theorem fi127_ok : FnOk Try.prog 127 fi127 := ⟨⟨Try.f127, Try.func127, by kernel_rfl, by kernel_rfl, by kernel_rfl, by kernel_rfl⟩, by kernel_rfl⟩
theorem fi140_ok : FnOk Try.prog 140 fi140 := ⟨⟨Try.f140, Try.func140, by kernel_rfl, by kernel_rfl, by kernel_rfl, by kernel_rfl⟩, by kernel_rfl⟩
theorem fi141_ok : FnOk Try.prog 141 fi141 := ⟨⟨Try.f141, Try.func141, by kernel_rfl, by kernel_rfl, by kernel_rfl, by kernel_rfl⟩, by kernel_rfl⟩
theorem fi142_ok : FnOk Try.prog 142 fi142 := ⟨⟨Try.f142, Try.func142, by kernel_rfl, by kernel_rfl, by kernel_rfl, by kernel_rfl⟩, by kernel_rfl⟩
theorem fi143_ok : FnOk Try.prog 143 fi143 := ⟨⟨Try.f143, Try.func143, by kernel_rfl, by kernel_rfl, by kernel_rfl, by kernel_rfl⟩, by kernel_rfl⟩
theorem fi144_ok : FnOk Try.prog 144 fi144 := ⟨⟨Try.f144, Try.func144, by kernel_rfl, by kernel_rfl, by kernel_rfl, by kernel_rfl⟩, by kernel_rfl⟩
theorem fi146_ok : FnOk Try.prog 146 fi146 := ⟨⟨Try.f146, Try.func146, by kernel_rfl, by kernel_rfl, by kernel_rfl, by kernel_rfl⟩, by kernel_rfl⟩
theorem fi147_ok : FnOk Try.prog 147 fi147 := ⟨⟨Try.f147, Try.func147, by kernel_rfl, by kernel_rfl, by kernel_rfl, by kernel_rfl⟩, by kernel_rfl⟩
theorem fi148_ok : FnOk Try.prog 148 fi148 := ⟨⟨Try.f148, Try.func148, by kernel_rfl, by kernel_rfl, by kernel_rfl, by kernel_rfl⟩, by kernel_rfl⟩
theorem fi149_ok : FnOk Try.prog 149 fi149 := ⟨⟨Try.f149, Try.func149, by kernel_rfl, by kernel_rfl, by kernel_rfl, by kernel_rfl⟩, by kernel_rfl⟩
theorem fi150_ok : FnOk Try.prog 150 fi150 := ⟨⟨Try.f150, Try.func150, by kernel_rfl, by kernel_rfl, by kernel_rfl, by kernel_rfl⟩, by kernel_rfl⟩
theorem fi151_ok : FnOk Try.prog 151 fi151 := ⟨⟨Try.f151, Try.func151, by kernel_rfl, by kernel_rfl, by kernel_rfl, by kernel_rfl⟩, by kernel_rfl⟩
theorem fi152_ok : FnOk Try.prog 152 fi152 := ⟨⟨Try.f152, Try.func152, by kernel_rfl, by kernel_rfl, by kernel_rfl, by kernel_rfl⟩, by kernel_rfl⟩
theorem fi153_ok : FnOk Try.prog 153 fi153 := ⟨⟨Try.f153, Try.func153, by kernel_rfl, by kernel_rfl, by kernel_rfl, by kernel_rfl⟩, by kernel_rfl⟩
theorem fi154_ok : FnOk Try.prog 154 fi154 := ⟨⟨Try.f154, Try.func154, by kernel_rfl, by kernel_rfl, by kernel_rfl, by kernel_rfl⟩, by kernel_rfl⟩
theorem fi157_ok : FnOk Try.prog 157 fi157 := ⟨⟨Try.f157, Try.func157, by kernel_rfl, by kernel_rfl, by kernel_rfl, by kernel_rfl⟩, by kernel_rfl⟩
theorem fi158_ok : FnOk Try.prog 158 fi158 := ⟨⟨Try.f158, Try.func158, by kernel_rfl, by kernel_rfl, by kernel_rfl, by kernel_rfl⟩, by kernel_rfl⟩
theorem fi165_ok : FnOk Try.prog 165 fi165 := ⟨⟨Try.f165, Try.func165, by kernel_rfl, by kernel_rfl, by kernel_rfl, by kernel_rfl⟩, by kernel_rfl⟩
theorem fi170_ok : FnOk Try.prog 170 fi170 := ⟨⟨Try.f170, Try.func170, by kernel_rfl, by kernel_rfl, by kernel_rfl, by kernel_rfl⟩, by kernel_rfl⟩
theorem fi171_ok : FnOk Try.prog 171 fi171 := ⟨⟨Try.f171, Try.func171, by kernel_rfl, by kernel_rfl, by kernel_rfl, by kernel_rfl⟩, by kernel_rfl⟩
theorem fi177_ok : FnOk Try.prog 177 fi177 := ⟨⟨Try.f177, Try.func177, by kernel_rfl, by kernel_rfl, by kernel_rfl, by kernel_rfl⟩, by kernel_rfl⟩
theorem fi178_ok : FnOk Try.prog 178 fi178 := ⟨⟨Try.f178, Try.func178, by kernel_rfl, by kernel_rfl, by kernel_rfl, by kernel_rfl⟩, by kernel_rfl⟩
theorem fi179_ok : FnOk Try.prog 179 fi179 := ⟨⟨Try.f179, Try.func179, by kernel_rfl, by kernel_rfl, by kernel_rfl, by kernel_rfl⟩, by kernel_rfl⟩
theorem fi183_ok : FnOk Try.prog 183 fi183 := ⟨⟨Try.f183, Try.func183, by kernel_rfl, by kernel_rfl, by kernel_rfl, by kernel_rfl⟩, by kernel_rfl⟩
theorem fi187_ok : FnOk Try.prog 187 fi187 := ⟨⟨Try.f187, Try.func187, by kernel_rfl, by kernel_rfl, by kernel_rfl, by kernel_rfl⟩, by kernel_rfl⟩
theorem fi188_ok : FnOk Try.prog 188 fi188 := ⟨⟨Try.f188, Try.func188, by kernel_rfl, by kernel_rfl, by kernel_rfl, by kernel_rfl⟩, by kernel_rfl⟩
theorem fi190_ok : FnOk Try.prog 190 fi190 := ⟨⟨Try.f190, Try.func190, by kernel_rfl, by kernel_rfl, by kernel_rfl, by kernel_rfl⟩, by kernel_rfl⟩
theorem fi192_ok : FnOk Try.prog 192 fi192 := ⟨⟨Try.f192, Try.func192, by kernel_rfl, by kernel_rfl, by kernel_rfl, by kernel_rfl⟩, by kernel_rfl⟩
theorem fi194_ok : FnOk Try.prog 194 fi194 := ⟨⟨Try.f194, Try.func194, by kernel_rfl, by kernel_rfl, by kernel_rfl, by kernel_rfl⟩, by kernel_rfl⟩
theorem fi195_ok : FnOk Try.prog 195 fi195 := ⟨⟨Try.f195, Try.func195, by kernel_rfl, by kernel_rfl, by kernel_rfl, by kernel_rfl⟩, by kernel_rfl⟩
theorem fi196_ok : FnOk Try.prog 196 fi196 := ⟨⟨Try.f196, Try.func196, by kernel_rfl, by kernel_rfl, by kernel_rfl, by kernel_rfl⟩, by kernel_rfl⟩
theorem fnTab_ok : FnL Try.prog fnTab := FnL.cons fi4_ok (FnL.cons fi26_ok (FnL.cons fi27_ok (FnL.cons fi28_ok (FnL.cons fi29_ok (FnL.cons fi30_ok (FnL.cons fi31_ok (FnL.cons fi32_ok (FnL.cons fi33_ok (FnL.cons fi34_ok (FnL.cons fi35_ok (FnL.cons fi36_ok (FnL.cons fi37_ok (FnL.cons fi38_ok (FnL.cons fi39_ok (FnL.cons fi40_ok (FnL.cons fi41_ok (FnL.cons fi57_ok (FnL.cons fi62_ok (FnL.cons fi72_ok (FnL.cons fi73_ok (FnL.cons fi74_ok (FnL.cons fi76_ok (FnL.cons fi77_ok (FnL.cons fi79_ok (FnL.cons fi80_ok (FnL.cons fi81_ok (FnL.cons fi82_ok (FnL.cons fi83_ok (FnL.cons fi84_ok (FnL.cons fi85_ok (FnL.cons fi86_ok (FnL.cons fi87_ok (FnL.cons fi88_ok (FnL.cons fi89_ok (FnL.cons fi90_ok (FnL.cons fi91_ok (FnL.cons fi92_ok (FnL.cons fi93_ok (FnL.cons fi94_ok (FnL.cons fi95_ok (FnL.cons fi97_ok (FnL.cons fi102_ok (FnL.cons fi103_ok (FnL.cons fi104_ok (FnL.cons fi105_ok (FnL.cons fi109_ok (FnL.cons fi123_ok (FnL.cons fi124_ok (FnL.cons fi126_ok (FnL.cons fi127_ok (FnL.cons fi140_ok (FnL.cons fi141_ok (FnL.cons fi142_ok (FnL.cons fi143_ok (FnL.cons fi144_ok (FnL.cons fi146_ok (FnL.cons fi147_ok (FnL.cons fi148_ok (FnL.cons fi149_ok (FnL.cons fi150_ok (FnL.cons fi151_ok (FnL.cons fi152_ok (FnL.cons fi153_ok (FnL.cons fi154_ok (FnL.cons fi157_ok (FnL.cons fi158_ok (FnL.cons fi165_ok (FnL.cons fi170_ok (FnL.cons fi171_ok (FnL.cons fi177_ok (FnL.cons fi178_ok (FnL.cons fi179_ok (FnL.cons fi183_ok (FnL.cons fi187_ok (FnL.cons fi188_ok (FnL.cons fi190_ok (FnL.cons fi192_ok (FnL.cons fi194_ok (FnL.cons fi195_ok (FnL.cons fi196_ok (FnL.nil)))))))))))))))))))))))))))))))))))))))))))))))))))))))))))))))))))))))))))))))))
theorem mixed : Try.prog.follows .mixedOrders = true := by kernel_rfl
end Go.Proofs.Ytdhmognknjpemaa
