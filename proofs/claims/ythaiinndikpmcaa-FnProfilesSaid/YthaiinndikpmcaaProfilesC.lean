/-
  What the evaluator knows of the program: the types, the functions with their live slots. Printed by a program.
-/
import Derived.Test.YthaiinndikpmcaaChecked
import Derived.Test.YthaiinndikpmcaaProfilesP
import Derived.KernelRfl
set_option linter.unusedVariables false
set_option linter.unusedSimpArgs false
namespace Go.Proofs.Ythaiinndikpmcaa
open Go Go.Rf

def tyTab : List (Nat × TI) := [
  (2, { desc := .int .i64, agg := false, size := 1, bytes := 8, zero := [.int .i64 0], row := .il .i64, cts := [2] }),
  (3, { desc := .int .i64, agg := false, size := 1, bytes := 8, zero := [.int .i64 0], row := .il .i64, cts := [3] }),
  (4, { desc := .bool, agg := false, size := 1, bytes := 1, zero := [.bool false], row := .bl, cts := [4] }),
  (5, { desc := .int .u8, agg := false, size := 1, bytes := 1, zero := [.int .u8 0], row := .il .u8, cts := [5] }),
  (22, { desc := .sl 5, agg := false, size := 1, bytes := 24, zero := [.nilsl], row := .gen, cts := [22] }),
  (24, { desc := .sl 28, agg := false, size := 1, bytes := 24, zero := [.nilsl], row := .gen, cts := [24] }),
  (26, { desc := .struct [(0, 24), (1, 24), (2, 24)], agg := true, size := 3, bytes := 72, zero := [.nilsl, .nilsl, .nilsl], row := .gen, cts := [24, 24, 24] }),
  (28, { desc := .flt .f32, agg := false, size := 1, bytes := 4, zero := [.flt .f32 0], row := .fl .f32, cts := [28] }),
  (35, { desc := .flt .f64, agg := false, size := 1, bytes := 8, zero := [.flt .f64 0], row := .fl .f64, cts := [35] }),
  (47, { desc := .other, agg := false, size := 1, bytes := 8, zero := [.any], row := .gen, cts := [47] }),
  (54, { desc := .ptr 73, agg := false, size := 1, bytes := 8, zero := [.any], row := .gen, cts := [54] }),
  (58, { desc := .other, agg := false, size := 1, bytes := 8, zero := [.any], row := .gen, cts := [58] }),
  (71, { desc := .int .u64, agg := false, size := 1, bytes := 8, zero := [.int .u64 0], row := .il .u64, cts := [71] }),
  (73, { desc := .struct [(0, 22), (1, 3), (2, 71)], agg := true, size := 3, bytes := 40, zero := [.nilsl, .int .i64 0, .int .u64 0], row := .gen, cts := [22, 3, 71] }),
  (79, { desc := .ptr 26, agg := false, size := 1, bytes := 8, zero := [.any], row := .gen, cts := [79] }),
  (80, { desc := .other, agg := false, size := 1, bytes := 8, zero := [.any], row := .gen, cts := [80] }),
  (87, { desc := .other, agg := false, size := 1, bytes := 8, zero := [.any], row := .gen, cts := [87] }),
  (94, { desc := .int .u64, agg := false, size := 1, bytes := 8, zero := [.int .u64 0], row := .il .u64, cts := [94] })]
theorem tyTab_ok : chkTab Try.prog tyTab = true := by kernel_rfl

noncomputable def fi4 : FnI := { code := (Try.f4.body.getD .skip), nt := 375, res := [.tmp 4], live := [(0, [0, 1]), (1, [0, 1, 43]), (2, [4]), (3, [1, 5]), (4, [1, 5, 6]), (5, [1, 5, 6, 7]), (6, [1, 5, 6, 7, 8, 9]), (7, [1, 5, 6, 7, 8, 9, 10, 11]), (8, [1, 5, 6, 7, 108]), (9, [4]), (10, [1, 5, 6, 7, 12]), (11, [1, 5, 6, 7, 12, 13]), (12, [1, 5, 6, 7, 12, 13, 14]), (13, [1, 5, 6, 7, 12, 13, 14, 119]), (14, [1, 5, 6, 7, 12, 13, 14]), (15, [1, 5, 6, 7, 12, 13, 14]), (16, [1, 5, 6, 7, 12, 13, 14]), (17, [5, 6, 7, 12, 13, 15]), (18, [5, 6, 7, 12, 13, 15, 16, 17]), (19, [5, 6, 7, 12, 13, 15, 16, 17, 18, 19]), (20, [5, 6, 7, 12, 13, 15, 16, 17, 18, 19, 20, 21]), (21, [5, 6, 7, 12, 13, 15, 16, 17, 18, 19, 20, 21, 22, 23]), (22, [5, 6, 7, 15, 16, 212]), (23, [4]), (24, [5, 6, 7, 15, 16, 24, 25]), (25, [5, 6, 7, 15, 16, 24, 25, 26, 27]), (26, [5, 6, 7, 15, 16, 25, 26, 27, 28, 29]), (27, [5, 6, 7, 15, 16, 25, 26, 27, 28, 29, 30, 31]), (28, [5, 6, 7, 15, 16, 25, 26, 27, 28, 29, 30, 31, 32, 33]), (29, [5, 6, 7, 16, 25, 26, 27, 28, 29, 30, 31, 33, 34, 35]), (30, [5, 6, 7, 26, 30, 301]), (31, [4]), (32, [5, 6, 7, 26, 30, 36]), (33, [5, 6, 7, 26, 30, 36, 304]), (34, [5, 6, 7, 26, 30, 36]), (35, [5, 6, 7, 26, 30, 36, 343]), (36, [4]), (37, [5, 7, 37, 38]), (38, [5, 7, 356]), (39, [4]), (40, [39, 40]), (41, [4])], nl := [], rn := [] }
noncomputable def fi5 : FnI := { code := (Try.f5.body.getD .skip), nt := 13, res := [.tmp 4], live := [(0, [0, 1]), (1, [4])], nl := [], rn := [] }
noncomputable def fi6 : FnI := { code := (Try.f6.body.getD .skip), nt := 8, res := [.cell 2 26], live := [(0, [0, 2]), (1, [2, 3]), (2, [2])], nl := [], rn := [(.fl .f32, 1), (.fl .f32, 1), (.fl .f32, 1)] }
noncomputable def fi9 : FnI := { code := (Try.f9.body.getD .skip), nt := 46, res := [.cell 2 26, .tmp 3], live := [(0, [1, 2]), (1, [1, 2, 9]), (2, [2, 3]), (3, [1, 2, 4]), (4, [2, 4]), (9, [2, 3])], nl := [], rn := [(.fl .f32, 1), (.fl .f32, 1), (.fl .f32, 1), (.gen, 1)] }
noncomputable def fi10 : FnI := { code := (Try.f10.body.getD .skip), nt := 12, res := [.tmp 4], live := [(0, [0, 1]), (1, [4])], nl := [], rn := [] }
noncomputable def fi13 : FnI := { code := (Try.f13.body.getD .skip), nt := 22, res := [.tmp 4, .tmp 5], live := [(0, [1, 2]), (1, [1, 2, 13]), (2, [4, 5]), (3, [4, 5])], nl := [], rn := [] }
noncomputable def fi14 : FnI := { code := (Try.f14.body.getD .skip), nt := 22, res := [.tmp 6], live := [(0, [0, 1, 2]), (1, [0, 1, 2, 14]), (2, [6]), (3, [6])], nl := [], rn := [] }
noncomputable def fi19 : FnI := { code := (Try.f19.body.getD .skip), nt := 7, res := [.tmp 2], live := [(0, [0]), (1, [2])], nl := [], rn := [] }
noncomputable def fi20 : FnI := { code := (Try.f20.body.getD .skip), nt := 22, res := [.tmp 4, .tmp 5], live := [(0, [1, 2]), (1, [1, 2, 13]), (2, [4, 5]), (3, [4, 5])], nl := [], rn := [] }
noncomputable def fi21 : FnI := { code := (Try.f21.body.getD .skip), nt := 67, res := [.tmp 2], live := [(0, [1]), (1, [1, 3]), (2, [1, 40]), (3, [2]), (4, [1, 42, 43, 44]), (5, [1, 42, 43, 44, 45]), (6, [1, 4, 5, 42, 43, 44]), (7, [1, 42, 43, 44, 65]), (8, [2]), (9, [1, 42, 43, 44]), (10, [2])], nl := [], rn := [] }
noncomputable def fi22 : FnI := { code := (Try.f22.body.getD .skip), nt := 9, res := [.tmp 2, .tmp 3], live := [(0, [0]), (1, [0, 6]), (2, [2, 3]), (3, [2, 3])], nl := [], rn := [] }
noncomputable def fi23 : FnI := { code := (Try.f23.body.getD .skip), nt := 77, res := [.cell 6 26, .tmp 7], live := [(0, [2, 3, 4, 6]), (1, [2, 3, 4, 6, 30]), (2, [6, 7]), (3, [2, 3, 4, 6, 8]), (4, [2, 3, 4, 6, 8, 36, 37]), (5, [2, 3, 4, 6, 8, 36, 37, 38]), (6, [2, 3, 4, 6, 8, 9, 36, 37]), (7, [2, 3, 4, 6, 8, 36, 37]), (8, [2, 3, 4, 6, 8, 36, 37]), (9, [6, 7])], nl := [], rn := [(.fl .f32, 1), (.fl .f32, 1), (.fl .f32, 1), (.gen, 1)] }
noncomputable def fi24 : FnI := { code := (Try.f24.body.getD .skip), nt := 43, res := [.cell 6 26, .tmp 7], live := [(0, [1, 2, 3, 6]), (1, [1, 2, 3, 6, 12]), (2, [6, 7]), (3, [1, 2, 6, 8]), (4, [1, 2, 6, 8, 18, 19]), (5, [1, 2, 6, 8, 18, 19, 20]), (6, [1, 2, 6, 8, 9, 18, 19]), (7, [1, 2, 6, 8, 9, 18, 19]), (8, [1, 2, 6, 8, 18, 19]), (9, [1, 2, 6, 8, 18, 19]), (10, [6, 7])], nl := [], rn := [(.fl .f32, 1), (.fl .f32, 1), (.fl .f32, 1), (.gen, 1)] }
noncomputable def fi25 : FnI := { code := (Try.f25.body.getD .skip), nt := 19, res := [.cell 6 26, .tmp 7], live := [(0, [1, 2, 3, 6]), (1, [1, 2, 3, 6, 10]), (2, [6, 7]), (3, [6, 7])], nl := [], rn := [(.fl .f32, 1), (.fl .f32, 1), (.fl .f32, 1), (.gen, 1)] }
noncomputable def fi26 : FnI := { code := (Try.f26.body.getD .skip), nt := 24, res := [.tmp 4], live := [(0, [2, 3]), (1, [4])], nl := [], rn := [] }
noncomputable def fi27 : FnI := { code := (Try.f27.body.getD .skip), nt := 65, res := [.cell 8 26, .tmp 9], live := [(0, [1, 2, 3, 4, 8]), (1, [1, 2, 3, 4, 8, 20]), (2, [8, 9]), (3, [1, 2, 3, 4, 8, 10]), (4, [1, 2, 3, 4, 8, 10, 35]), (5, [1, 2, 3, 4, 8, 10]), (6, [1, 2, 3, 8, 10, 11]), (7, [2, 3, 8, 10, 11]), (8, [8, 11]), (9, [8, 9])], nl := [], rn := [(.fl .f32, 1), (.fl .f32, 1), (.fl .f32, 1), (.gen, 1)] }
noncomputable def fi28 : FnI := { code := (Try.f28.body.getD .skip), nt := 6, res := [.tmp 2], live := [(0, [0]), (1, [2])], nl := [], rn := [] }
noncomputable def fi29 : FnI := { code := (Try.f29.body.getD .skip), nt := 46, res := [.cell 2 26], live := [(0, [0, 2]), (1, [0, 2, 8]), (2, [2]), (3, [0, 2, 3]), (4, [0, 2, 3, 4]), (5, [0, 2, 3, 4, 5]), (6, [0, 2, 3, 4, 5, 23]), (7, [0, 2, 3, 4, 5]), (8, [0, 2, 3, 4, 5, 6]), (9, [0, 2, 3, 4, 5]), (10, [0, 2, 3, 4, 5]), (11, [2])], nl := [], rn := [(.fl .f32, 1), (.fl .f32, 1), (.fl .f32, 1)] }
noncomputable def fi30 : FnI := { code := (Try.f30.body.getD .skip), nt := 8, res := [.tmp 2, .tmp 3], live := [(0, [0]), (1, [0, 6]), (2, [2, 3]), (3, [2, 3])], nl := [], rn := [] }
noncomputable def fi31 : FnI := { code := (Try.f31.body.getD .skip), nt := 4, res := [.tmp 2], live := [(0, [1]), (1, [2])], nl := [], rn := [] }
noncomputable def fi32 : FnI := { code := (Try.f32.body.getD .skip), nt := 42, res := [.tmp 6], live := [(0, [1, 2, 3]), (1, [1, 7, 8, 9, 10, 11]), (2, [1, 7, 8, 9, 10, 11, 12]), (3, [1, 7, 8, 9, 10, 11, 12, 24]), (4, [1, 7, 8, 12]), (5, [6])], nl := [], rn := [] }
noncomputable def fi33 : FnI := { code := (Try.f33.body.getD .skip), nt := 6, res := [.tmp 2], live := [(0, [0]), (1, [2])], nl := [], rn := [] }
noncomputable def fi34 : FnI := { code := (Try.f34.body.getD .skip), nt := 51, res := [.cell 6 26], live := [(0, [1, 2, 3, 6]), (1, [1, 2, 3, 6, 7]), (2, [1, 2, 3, 6, 7, 12, 13, 14]), (3, [1, 2, 3, 6, 7, 12, 13, 14, 15]), (4, [1, 2, 3, 6, 7, 8, 9, 12, 13, 14]), (5, [1, 2, 3, 6, 7, 8, 9, 12, 13, 14, 22]), (6, [1, 2, 3, 6, 7, 8, 12, 13, 14]), (7, [1, 2, 3, 6, 7, 12, 13, 14]), (8, [1, 2, 3, 6, 7, 12, 13, 14]), (9, [6])], nl := [(3, (.fl .f32, 1))], rn := [(.fl .f32, 1), (.fl .f32, 1), (.fl .f32, 1)] }
noncomputable def fi36 : FnI := { code := (Try.f36.body.getD .skip), nt := 6, res := [.tmp 2], live := [(0, [0]), (1, [2])], nl := [], rn := [] }
noncomputable def fi37 : FnI := { code := (Try.f37.body.getD .skip), nt := 15, res := [.tmp 6], live := [(0, [0, 1, 2]), (1, [6])], nl := [], rn := [] }
noncomputable def fi38 : FnI := { code := (Try.f38.body.getD .skip), nt := 16, res := [.tmp 2], live := [(0, [0]), (1, [3]), (2, [4]), (3, [4, 14]), (4, [2]), (5, [2])], nl := [], rn := [] }
noncomputable def fi39 : FnI := { code := (Try.f39.body.getD .skip), nt := 26, res := [.tmp 4], live := [(0, [0, 1]), (1, [0, 1, 10]), (2, [4]), (3, [0, 1, 12, 13]), (4, [0, 1, 12, 13, 14]), (5, [0, 1, 5, 12, 13]), (6, [0, 1, 12, 13, 24]), (7, [4]), (8, [0, 1, 12, 13]), (9, [4])], nl := [], rn := [] }
noncomputable def fi40 : FnI := { code := (Try.f40.body.getD .skip), nt := 13, res := [.cell 2 26], live := [(0, [1, 2]), (1, [2])], nl := [], rn := [(.fl .f32, 1), (.fl .f32, 1), (.fl .f32, 1)] }
noncomputable def fi41 : FnI := { code := (Try.f41.body.getD .skip), nt := 14, res := [.tmp 6], live := [(0, [0, 1, 2]), (1, [6])], nl := [], rn := [] }
noncomputable def fi42 : FnI := { code := (Try.f42.body.getD .skip), nt := 9, res := [.cell 2 26, .tmp 3], live := [(0, [1, 2]), (1, [1, 2, 6]), (2, [2, 3]), (3, [2, 3])], nl := [], rn := [(.fl .f32, 1), (.fl .f32, 1), (.fl .f32, 1), (.gen, 1)] }
noncomputable def fi43 : FnI := { code := (Try.f43.body.getD .skip), nt := 8, res := [.tmp 4], live := [(0, [0, 1]), (1, [4])], nl := [], rn := [] }
noncomputable def fi44 : FnI := { code := (Try.f44.body.getD .skip), nt := 9, res := [.tmp 4], live := [(0, [0, 1]), (1, [4])], nl := [], rn := [] }
noncomputable def fi45 : FnI := { code := (Try.f45.body.getD .skip), nt := 95, res := [.tmp 6], live := [(0, [0, 1, 2]), (1, [0, 1, 2]), (2, [0, 1, 2, 7]), (3, [0, 1, 2, 7, 16]), (4, [6]), (5, [0, 1, 2, 7, 8]), (6, [0, 1, 2, 7, 8, 22]), (7, [6]), (8, [0, 1, 2, 7, 8, 31]), (9, [0, 1, 2, 7, 9]), (10, [0, 1, 7, 9]), (11, [9]), (12, [6]), (13, [0, 1, 2, 7, 8]), (14, [0, 1, 2, 7, 8, 68]), (15, [0, 1, 2]), (16, [0]), (17, [6]), (18, [0, 1, 7]), (19, [0]), (20, [6])], nl := [], rn := [(.fl .f32, 1)] }
noncomputable def fi46 : FnI := { code := (Try.f46.body.getD .skip), nt := 9, res := [.tmp 4], live := [(0, [0, 1]), (1, [4])], nl := [], rn := [] }
noncomputable def fi47 : FnI := { code := (Try.f47.body.getD .skip), nt := 37, res := [.cell 2 26], live := [(0, [0, 2]), (1, [0, 2, 3]), (2, [0, 2, 3, 4]), (3, [0, 2, 3, 4, 11]), (4, [0, 2, 3, 4]), (5, [0, 2, 3, 4, 5]), (6, [0, 2, 3, 4, 5, 6]), (7, [0, 2, 3, 4, 5, 6, 7]), (8, [0, 2, 3, 4]), (9, [2])], nl := [], rn := [(.fl .f32, 1), (.fl .f32, 1), (.fl .f32, 1)] }
noncomputable def fi48 : FnI := { code := (Try.f48.body.getD .skip), nt := 20, res := [.tmp 4], live := [(0, [0, 1]), (1, [0, 1, 7]), (2, [4]), (3, [0, 1, 5]), (4, [0, 1, 5, 11]), (5, [1, 5]), (6, [4])], nl := [], rn := [] }
noncomputable def fi49 : FnI := { code := (Try.f49.body.getD .skip), nt := 5, res := [.cell 0 26], live := [(0, [0]), (1, [0])], nl := [], rn := [(.fl .f32, 1), (.fl .f32, 1), (.fl .f32, 1)] }
noncomputable def fi50 : FnI := { code := (Try.f50.body.getD .skip), nt := 38, res := [], live := [(0, [0, 2, 3]), (1, [0, 3]), (2, [])], nl := [], rn := [] }
noncomputable def fi51 : FnI := { code := (Try.f51.body.getD .skip), nt := 19, res := [], live := [(0, [0, 1, 3]), (1, [0, 1, 3, 8]), (2, [0, 1, 3]), (3, [0, 1, 3, 18])], nl := [], rn := [] }
noncomputable def fi52 : FnI := { code := (Try.f52.body.getD .skip), nt := 67, res := [.tmp 4, .tmp 5, .tmp 6, .tmp 7, .tmp 8], live := [(0, [1, 2]), (1, [2, 9, 10]), (2, [2, 9, 10, 11]), (3, [2, 9, 10, 11, 22]), (4, [4, 5, 6, 7, 8]), (5, [2, 9, 10, 11, 37]), (6, [4, 5, 6, 7, 8]), (7, [4, 5, 6, 7, 8])], nl := [], rn := [] }
noncomputable def fi53 : FnI := { code := (Try.f53.body.getD .skip), nt := 9, res := [.tmp 4], live := [(0, [0, 1]), (1, [4])], nl := [], rn := [] }
noncomputable def fi54 : FnI := { code := (Try.f54.body.getD .skip), nt := 6, res := [.tmp 2], live := [(0, [0]), (1, [2])], nl := [], rn := [] }
noncomputable def fi55 : FnI := { code := (Try.f55.body.getD .skip), nt := 6, res := [.tmp 2], live := [(0, [0]), (1, [2])], nl := [], rn := [] }
noncomputable def fi56 : FnI := { code := (Try.f56.body.getD .skip), nt := 9, res := [.tmp 2], live := [(0, [0]), (1, [2])], nl := [], rn := [] }
noncomputable def fi57 : FnI := { code := (Try.f57.body.getD .skip), nt := 7, res := [.tmp 2], live := [(0, [0]), (1, [2]), (2, [2])], nl := [], rn := [] }
noncomputable def fi58 : FnI := { code := (Try.f58.body.getD .skip), nt := 8, res := [.tmp 2], live := [(0, [0]), (1, [0, 4]), (2, [2]), (3, [2])], nl := [], rn := [(.fl .f32, 1)] }
noncomputable def fi59 : FnI := { code := (Try.f59.body.getD .skip), nt := 32, res := [.tmp 6], live := [(0, [0, 1, 2]), (1, [0, 1, 2, 14]), (2, [6]), (3, [1, 2, 15, 16, 17]), (4, [1, 2, 15, 16, 17, 18]), (5, [1, 2, 7, 8, 15, 16, 17]), (6, [1, 2, 8, 9, 15, 16, 17]), (7, [1, 2, 15, 16, 17, 30]), (8, [6]), (9, [1, 2, 15, 16, 17]), (10, [6])], nl := [], rn := [] }
noncomputable def fi60 : FnI := { code := (Try.f60.body.getD .skip), nt := 33, res := [.tmp 4], live := [(0, [0, 1]), (1, [0, 1, 12]), (2, [4]), (3, [4])], nl := [], rn := [] }
noncomputable def fi61 : FnI := { code := (Try.f61.body.getD .skip), nt := 19, res := [.tmp 4], live := [(0, [0, 1]), (1, [0, 1, 7, 8]), (2, [0, 1, 7, 8, 9]), (3, [0, 1, 5, 7, 8]), (4, [0, 1, 5, 7, 8, 16]), (5, [4]), (6, [0, 1, 7, 8]), (7, [4])], nl := [], rn := [] }
noncomputable def fi63 : FnI := { code := (Try.f63.body.getD .skip), nt := 10, res := [], live := [(0, [])], nl := [], rn := [] }
noncomputable def fi64 : FnI := { code := (Try.f64.body.getD .skip), nt := 7, res := [.tmp 2], live := [(0, [0]), (1, [2])], nl := [], rn := [] }
noncomputable def fi65 : FnI := { code := (Try.f65.body.getD .skip), nt := 62, res := [.tmp 2], live := [(0, [0]), (1, [0, 3]), (2, [0, 3, 13]), (3, [0, 3]), (4, [0, 3]), (5, [0, 3]), (6, [0, 3, 53]), (7, [2]), (8, [2])], nl := [], rn := [], mg := true }
noncomputable def fi66 : FnI := { code := (Try.f66.body.getD .skip), nt := 19, res := [.tmp 4], live := [(0, [0, 1]), (1, [0, 1, 7, 8]), (2, [0, 1, 7, 8, 9]), (3, [0, 1, 5, 7, 8]), (4, [0, 1, 5, 7, 8, 16]), (5, [4]), (6, [0, 1, 7, 8]), (7, [4])], nl := [], rn := [] }
noncomputable def fi67 : FnI := { code := (Try.f67.body.getD .skip), nt := 7, res := [.tmp 3], live := [(0, [0, 1]), (1, [3])], nl := [], rn := [] }
noncomputable def fi69 : FnI := { code := (Try.f69.body.getD .skip), nt := 38, res := [.tmp 2], live := [(0, [0]), (1, [0, 16]), (2, [2]), (3, [0, 19]), (4, [3, 4]), (5, [3, 27]), (6, [3]), (7, [2]), (8, [5]), (9, [2])], nl := [], rn := [] }
noncomputable def fi70 : FnI := { code := (Try.f70.body.getD .skip), nt := 7, res := [.tmp 2], live := [(0, [0]), (1, [2])], nl := [], rn := [] }
noncomputable def fi71 : FnI := { code := (Try.f71.body.getD .skip), nt := 14, res := [], live := [(0, [0, 1]), (1, [0]), (2, [])], nl := [], rn := [] }
noncomputable def fi72 : FnI := { code := (Try.f72.body.getD .skip), nt := 5, res := [.tmp 2], live := [(0, [0]), (1, [2])], nl := [], rn := [] }
noncomputable def fi73 : FnI := { code := (Try.f73.body.getD .skip), nt := 67, res := [.tmp 2], live := [(0, [0]), (1, [0, 12]), (2, [2]), (3, [0, 19]), (4, [2]), (5, [3]), (6, [3, 26]), (7, [3]), (8, [3, 4]), (9, [3, 4, 31]), (10, [3, 4]), (11, [3, 4, 35]), (12, [3, 4]), (13, [4, 5]), (14, [4, 5, 6]), (15, [4, 5, 6, 7]), (16, [4, 5, 6, 7, 8]), (17, [4, 5, 6, 7, 8, 44]), (18, [4, 5, 6, 7, 8]), (19, [4, 5, 6, 7, 8]), (20, [5, 7, 59]), (21, [2]), (22, [2])], nl := [], rn := [] }
noncomputable def fi74 : FnI := { code := (Try.f74.body.getD .skip), nt := 6, res := [.tmp 2], live := [(0, [0]), (1, [2])], nl := [], rn := [] }
noncomputable def fi75 : FnI := { code := (Try.f75.body.getD .skip), nt := 15, res := [.tmp 4], live := [(0, [0, 1]), (1, [0, 1, 6]), (2, [0]), (3, [0, 10]), (4, [0]), (5, [4])], nl := [], rn := [] }
noncomputable def fi76 : FnI := { code := (Try.f76.body.getD .skip), nt := 11, res := [.tmp 2, .tmp 3], live := [(0, [0]), (1, [0, 2]), (2, [2, 3])], nl := [], rn := [] }
noncomputable def fi78 : FnI := { code := (Try.f78.body.getD .skip), nt := 28, res := [], live := [(0, [0, 2, 3]), (1, [0, 2, 3, 9]), (2, [0, 2, 3]), (3, [0, 2, 3])], nl := [], rn := [] }
noncomputable def fi79 : FnI := { code := (Try.f79.body.getD .skip), nt := 2, res := [.tmp 0], live := [(0, []), (1, [0])], nl := [], rn := [] }
noncomputable def fi80 : FnI := { code := (Try.f80.body.getD .skip), nt := 7, res := [.tmp 2], live := [(0, [0]), (1, [2])], nl := [], rn := [] }
noncomputable def fi81 : FnI := { code := (Try.f81.body.getD .skip), nt := 7, res := [.tmp 2], live := [(0, [0]), (1, [2]), (2, [2])], nl := [], rn := [] }
noncomputable def fi82 : FnI := { code := (Try.f82.body.getD .skip), nt := 13, res := [.tmp 4], live := [(0, [0, 1]), (1, [4])], nl := [], rn := [] }
noncomputable def fi85 : FnI := { code := (Try.f85.body.getD .skip), nt := 26, res := [.tmp 2], live := [(0, [0]), (1, [0, 7]), (2, [2]), (3, [3]), (4, [3, 4]), (5, [3, 4, 17]), (6, [3]), (7, [2])], nl := [], rn := [] }
noncomputable def fnTab : List (Nat × FnI) := [(4, fi4), (5, fi5), (6, fi6), (9, fi9), (10, fi10), (13, fi13), (14, fi14), (19, fi19), (20, fi20), (21, fi21), (22, fi22), (23, fi23), (24, fi24), (25, fi25), (26, fi26), (27, fi27), (28, fi28), (29, fi29), (30, fi30), (31, fi31), (32, fi32), (33, fi33), (34, fi34), (36, fi36), (37, fi37), (38, fi38), (39, fi39), (40, fi40), (41, fi41), (42, fi42), (43, fi43), (44, fi44), (45, fi45), (46, fi46), (47, fi47), (48, fi48), (49, fi49), (50, fi50), (51, fi51), (52, fi52), (53, fi53), (54, fi54), (55, fi55), (56, fi56), (57, fi57), (58, fi58), (59, fi59), (60, fi60), (61, fi61), (63, fi63), (64, fi64), (65, fi65), (66, fi66), (67, fi67), (69, fi69), (70, fi70), (71, fi71), (72, fi72), (73, fi73), (74, fi74), (75, fi75), (76, fi76), (78, fi78), (79, fi79), (80, fi80), (81, fi81), (82, fi82), (85, fi85)]
theorem fi4_ok : FnOk Try.prog 4 fi4 := ⟨⟨Try.f4, Try.func4, by kernel_rfl, by kernel_rfl, by kernel_rfl, by kernel_rfl⟩, by kernel_rfl⟩
theorem fi5_ok : FnOk Try.prog 5 fi5 := ⟨⟨Try.f5, Try.func5, by kernel_rfl, by kernel_rfl, by kernel_rfl, by kernel_rfl⟩, by kernel_rfl⟩
theorem fi6_ok : FnOk Try.prog 6 fi6 := ⟨⟨Try.f6, Try.func6, by kernel_rfl, by kernel_rfl, by kernel_rfl, by kernel_rfl⟩, by kernel_rfl⟩
theorem fi9_ok : FnOk Try.prog 9 fi9 := ⟨⟨Try.f9, Try.func9, by kernel_rfl, by kernel_rfl, by kernel_rfl, by kernel_rfl⟩, by kernel_rfl⟩
theorem fi10_ok : FnOk Try.prog 10 fi10 := ⟨⟨Try.f10, Try.func10, by kernel_rfl, by kernel_rfl, by kernel_rfl, by kernel_rfl⟩, by kernel_rfl⟩
theorem fi13_ok : FnOk Try.prog 13 fi13 := ⟨⟨Try.f13, Try.func13, by kernel_rfl, by kernel_rfl, by kernel_rfl, by kernel_rfl⟩, by kernel_rfl⟩
theorem fi14_ok : FnOk Try.prog 14 fi14 := ⟨⟨Try.f14, Try.func14, by kernel_rfl, by kernel_rfl, by kernel_rfl, by kernel_rfl⟩, by kernel_rfl⟩
theorem fi19_ok : FnOk Try.prog 19 fi19 := ⟨⟨Try.f19, Try.func19, by kernel_rfl, by kernel_rfl, by kernel_rfl, by kernel_rfl⟩, by kernel_rfl⟩
theorem fi20_ok : FnOk Try.prog 20 fi20 := ⟨⟨Try.f20, Try.func20, by kernel_rfl, by kernel_rfl, by kernel_rfl, by kernel_rfl⟩, by kernel_rfl⟩
theorem fi21_ok : FnOk Try.prog 21 fi21 := ⟨⟨Try.f21, Try.func21, by kernel_rfl, by kernel_rfl, by kernel_rfl, by kernel_rfl⟩, by kernel_rfl⟩
theorem fi22_ok : FnOk Try.prog 22 fi22 := ⟨⟨Try.f22, Try.func22, by kernel_rfl, by kernel_rfl, by kernel_rfl, by kernel_rfl⟩, by kernel_rfl⟩
theorem fi23_ok : FnOk Try.prog 23 fi23 := ⟨⟨Try.f23, Try.func23, by kernel_rfl, by kernel_rfl, by kernel_rfl, by kernel_rfl⟩, by kernel_rfl⟩
theorem fi24_ok : FnOk Try.prog 24 fi24 := ⟨⟨Try.f24, Try.func24, by kernel_rfl, by kernel_rfl, by kernel_rfl, by kernel_rfl⟩, by kernel_rfl⟩
theorem fi25_ok : FnOk Try.prog 25 fi25 := ⟨⟨Try.f25, Try.func25, by kernel_rfl, by kernel_rfl, by kernel_rfl, by kernel_rfl⟩, by kernel_rfl⟩
theorem fi26_ok : FnOk Try.prog 26 fi26 := ⟨⟨Try.f26, Try.func26, by kernel_rfl, by kernel_rfl, by kernel_rfl, by kernel_rfl⟩, by kernel_rfl⟩
theorem fi27_ok : FnOk Try.prog 27 fi27 := ⟨⟨Try.f27, Try.func27, by kernel_rfl, by kernel_rfl, by kernel_rfl, by kernel_rfl⟩, by kernel_rfl⟩
theorem fi28_ok : FnOk Try.prog 28 fi28 := ⟨⟨Try.f28, Try.func28, by kernel_rfl, by kernel_rfl, by kernel_rfl, by kernel_rfl⟩, by kernel_rfl⟩
theorem fi29_ok : FnOk Try.prog 29 fi29 := ⟨⟨Try.f29, Try.func29, by kernel_rfl, by kernel_rfl, by kernel_rfl, by kernel_rfl⟩, by kernel_rfl⟩
theorem fi30_ok : FnOk Try.prog 30 fi30 := ⟨⟨Try.f30, Try.func30, by kernel_rfl, by kernel_rfl, by kernel_rfl, by kernel_rfl⟩, by kernel_rfl⟩
theorem fi31_ok : FnOk Try.prog 31 fi31 := ⟨⟨Try.f31, Try.func31, by kernel_rfl, by kernel_rfl, by kernel_rfl, by kernel_rfl⟩, by kernel_rfl⟩
theorem fi32_ok : FnOk Try.prog 32 fi32 := ⟨⟨Try.f32, Try.func32, by kernel_rfl, by kernel_rfl, by kernel_rfl, by kernel_rfl⟩, by kernel_rfl⟩
theorem fi33_ok : FnOk Try.prog 33 fi33 := ⟨⟨Try.f33, Try.func33, by kernel_rfl, by kernel_rfl, by kernel_rfl, by kernel_rfl⟩, by kernel_rfl⟩
theorem fi34_ok : FnOk Try.prog 34 fi34 := ⟨⟨Try.f34, Try.func34, by kernel_rfl, by kernel_rfl, by kernel_rfl, by kernel_rfl⟩, by kernel_rfl⟩
theorem fi36_ok : FnOk Try.prog 36 fi36 := ⟨⟨Try.f36, Try.func36, by kernel_rfl, by kernel_rfl, by kernel_rfl, by kernel_rfl⟩, by kernel_rfl⟩
theorem fi37_ok : FnOk Try.prog 37 fi37 := ⟨⟨Try.f37, Try.func37, by kernel_rfl, by kernel_rfl, by kernel_rfl, by kernel_rfl⟩, by kernel_rfl⟩
theorem fi38_ok : FnOk Try.prog 38 fi38 := ⟨⟨Try.f38, Try.func38, by kernel_rfl, by kernel_rfl, by kernel_rfl, by kernel_rfl⟩, by kernel_rfl⟩
theorem fi39_ok : FnOk Try.prog 39 fi39 := ⟨⟨Try.f39, Try.func39, by kernel_rfl, by kernel_rfl, by kernel_rfl, by kernel_rfl⟩, by kernel_rfl⟩
theorem fi40_ok : FnOk Try.prog 40 fi40 := ⟨⟨Try.f40, Try.func40, by kernel_rfl, by kernel_rfl, by kernel_rfl, by kernel_rfl⟩, by kernel_rfl⟩
theorem fi41_ok : FnOk Try.prog 41 fi41 := ⟨⟨Try.f41, Try.func41, by kernel_rfl, by kernel_rfl, by kernel_rfl, by kernel_rfl⟩, by kernel_rfl⟩
theorem fi42_ok : FnOk Try.prog 42 fi42 := ⟨⟨Try.f42, Try.func42, by kernel_rfl, by kernel_rfl, by kernel_rfl, by kernel_rfl⟩, by kernel_rfl⟩
theorem fi43_ok : FnOk Try.prog 43 fi43 := ⟨⟨Try.f43, Try.func43, by kernel_rfl, by kernel_rfl, by kernel_rfl, by kernel_rfl⟩, by kernel_rfl⟩
theorem fi44_ok : FnOk Try.prog 44 fi44 := ⟨⟨Try.f44, Try.func44, by kernel_rfl, by kernel_rfl, by kernel_rfl, by kernel_rfl⟩, by kernel_rfl⟩
theorem fi45_ok : FnOk Try.prog 45 fi45 := ⟨⟨Try.f45, Try.func45, by kernel_rfl, by kernel_rfl, by kernel_rfl, by kernel_rfl⟩, by kernel_rfl⟩
theorem fi46_ok : FnOk Try.prog 46 fi46 := ⟨⟨Try.f46, Try.func46, by kernel_rfl, by kernel_rfl, by kernel_rfl, by kernel_rfl⟩, by kernel_rfl⟩
theorem fi47_ok : FnOk Try.prog 47 fi47 := ⟨⟨Try.f47, Try.func47, by kernel_rfl, by kernel_rfl, by kernel_rfl, by kernel_rfl⟩, by kernel_rfl⟩
theorem fi48_ok : FnOk Try.prog 48 fi48 := ⟨⟨Try.f48, Try.func48, by kernel_rfl, by kernel_rfl, by kernel_rfl, by kernel_rfl⟩, by kernel_rfl⟩
theorem fi49_ok : FnOk Try.prog 49 fi49 := ⟨⟨Try.f49, Try.func49, by kernel_rfl, by kernel_rfl, by kernel_rfl, by kernel_rfl⟩, by kernel_rfl⟩
theorem fi50_ok : FnOk Try.prog 50 fi50 := ⟨⟨Try.f50, Try.func50, by kernel_rfl, by kernel_rfl, by kernel_rfl, by kernel_rfl⟩, by kernel_rfl⟩
theorem fi51_ok : FnOk Try.prog 51 fi51 := ⟨⟨Try.f51, Try.func51, by kernel_rfl, by kernel_rfl, by kernel_rfl, by kernel_rfl⟩, by kernel_rfl⟩
theorem fi52_ok : FnOk Try.prog 52 fi52 := ⟨⟨Try.f52, Try.func52, by kernel_rfl, by kernel_rfl, by kernel_rfl, by kernel_rfl⟩, by kernel_rfl⟩
theorem fi53_ok : FnOk Try.prog 53 fi53 := ⟨⟨Try.f53, Try.func53, by kernel_rfl, by kernel_rfl, by kernel_rfl, by kernel_rfl⟩, by kernel_rfl⟩
theorem fi54_ok : FnOk Try.prog 54 fi54 := ⟨⟨Try.f54, Try.func54, by kernel_rfl, by kernel_rfl, by kernel_rfl, by kernel_rfl⟩, by kernel_rfl⟩
theorem fi55_ok : FnOk Try.prog 55 fi55 := ⟨⟨Try.f55, Try.func55, by kernel_rfl, by kernel_rfl, by kernel_rfl, by kernel_rfl⟩, by kernel_rfl⟩
theorem fi56_ok : FnOk Try.prog 56 fi56 := ⟨⟨Try.f56, Try.func56, by kernel_rfl, by kernel_rfl, by kernel_rfl, by kernel_rfl⟩, by kernel_rfl⟩
theorem fi57_ok : FnOk Try.prog 57 fi57 := ⟨⟨Try.f57, Try.func57, by kernel_rfl, by kernel_rfl, by kernel_rfl, by kernel_rfl⟩, by kernel_rfl⟩
theorem fi58_ok : FnOk Try.prog 58 fi58 := ⟨⟨Try.f58, Try.func58, by kernel_rfl, by kernel_rfl, by kernel_rfl, by kernel_rfl⟩, by kernel_rfl⟩
theorem fi59_ok : FnOk Try.prog 59 fi59 := ⟨⟨Try.f59, Try.func59, by kernel_rfl, by kernel_rfl, by kernel_rfl, by kernel_rfl⟩, by kernel_rfl⟩
theorem fi60_ok : FnOk Try.prog 60 fi60 := ⟨⟨Try.f60, Try.func60, by kernel_rfl, by kernel_rfl, by kernel_rfl, by kernel_rfl⟩, by kernel_rfl⟩
theorem fi61_ok : FnOk Try.prog 61 fi61 := ⟨⟨Try.f61, Try.func61, by kernel_rfl, by kernel_rfl, by kernel_rfl, by kernel_rfl⟩, by kernel_rfl⟩
theorem fi63_ok : FnOk Try.prog 63 fi63 := ⟨⟨Try.f63, Try.func63, by kernel_rfl, by kernel_rfl, by kernel_rfl, by kernel_rfl⟩, by kernel_rfl⟩
theorem fi64_ok : FnOk Try.prog 64 fi64 := ⟨⟨Try.f64, Try.func64, by kernel_rfl, by kernel_rfl, by kernel_rfl, by kernel_rfl⟩, by kernel_rfl⟩
theorem fi65_ok : FnOk Try.prog 65 fi65 := ⟨⟨Try.f65, Try.func65, by kernel_rfl, by kernel_rfl, by kernel_rfl, by kernel_rfl⟩, by kernel_rfl⟩
theorem fi66_ok : FnOk Try.prog 66 fi66 := ⟨⟨Try.f66, Try.func66, by kernel_rfl, by kernel_rfl, by kernel_rfl, by kernel_rfl⟩, by kernel_rfl⟩
theorem fi67_ok : FnOk Try.prog 67 fi67 := ⟨⟨Try.f67, Try.func67, by kernel_rfl, by kernel_rfl, by kernel_rfl, by kernel_rfl⟩, by kernel_rfl⟩
theorem fi69_ok : FnOk Try.prog 69 fi69 := ⟨⟨Try.f69, Try.func69, by kernel_rfl, by kernel_rfl, by kernel_rfl, by kernel_rfl⟩, by kernel_rfl⟩
theorem fi70_ok : FnOk Try.prog 70 fi70 := ⟨⟨Try.f70, Try.func70, by kernel_rfl, by kernel_rfl, by kernel_rfl, by kernel_rfl⟩, by kernel_rfl⟩
theorem fi71_ok : FnOk Try.prog 71 fi71 := ⟨⟨Try.f71, Try.func71, by kernel_rfl, by kernel_rfl, by kernel_rfl, by kernel_rfl⟩, by kernel_rfl⟩
theorem fi72_ok : FnOk Try.prog 72 fi72 := ⟨⟨Try.f72, Try.func72, by kernel_rfl, by kernel_rfl, by kernel_rfl, by kernel_rfl⟩, by kernel_rfl⟩
theorem fi73_ok : FnOk Try.prog 73 fi73 := ⟨⟨Try.f73, Try.func73, by kernel_rfl, by kernel_rfl, by kernel_rfl, by kernel_rfl⟩, by kernel_rfl⟩
theorem fi74_ok : FnOk Try.prog 74 fi74 := ⟨⟨Try.f74, Try.func74, by kernel_rfl, by kernel_rfl, by kernel_rfl, by kernel_rfl⟩, by kernel_rfl⟩
theorem fi75_ok : FnOk Try.prog 75 fi75 := ⟨⟨Try.f75, Try.func75, by kernel_rfl, by kernel_rfl, by kernel_rfl, by kernel_rfl⟩, by kernel_rfl⟩
theorem fi76_ok : FnOk Try.prog 76 fi76 := ⟨⟨Try.f76, Try.func76, by kernel_rfl, by kernel_rfl, by kernel_rfl, by kernel_rfl⟩, by kernel_rfl⟩
theorem fi78_ok : FnOk Try.prog 78 fi78 := ⟨⟨Try.f78, Try.func78, by kernel_rfl, by kernel_rfl, by kernel_rfl, by kernel_rfl⟩, by kernel_rfl⟩
theorem fi79_ok : FnOk Try.prog 79 fi79 := ⟨⟨Try.f79, Try.func79, by kernel_rfl, by kernel_rfl, by kernel_rfl, by kernel_rfl⟩, by kernel_rfl⟩
theorem fi80_ok : FnOk Try.prog 80 fi80 := ⟨⟨Try.f80, Try.func80, by kernel_rfl, by kernel_rfl, by kernel_rfl, by kernel_rfl⟩, by kernel_rfl⟩
theorem fi81_ok : FnOk Try.prog 81 fi81 := ⟨⟨Try.f81, Try.func81, by kernel_rfl, by kernel_rfl, by kernel_rfl, by kernel_rfl⟩, by kernel_rfl⟩
theorem fi82_ok : FnOk Try.prog 82 fi82 := ⟨⟨Try.f82, Try.func82, by kernel_rfl, by kernel_rfl, by kernel_rfl, by kernel_rfl⟩, by kernel_rfl⟩
theorem fi85_ok : FnOk Try.prog 85 fi85 := ⟨⟨Try.f85, Try.func85, by kernel_rfl, by kernel_rfl, by kernel_rfl, by kernel_rfl⟩, by kernel_rfl⟩
theorem fnTab_ok : FnL Try.prog fnTab := FnL.cons fi4_ok (FnL.cons fi5_ok (FnL.cons fi6_ok (FnL.cons fi9_ok (FnL.cons fi10_ok (FnL.cons fi13_ok (FnL.cons fi14_ok (FnL.cons fi19_ok (FnL.cons fi20_ok (FnL.cons fi21_ok (FnL.cons fi22_ok (FnL.cons fi23_ok (FnL.cons fi24_ok (FnL.cons fi25_ok (FnL.cons fi26_ok (FnL.cons fi27_ok (FnL.cons fi28_ok (FnL.cons fi29_ok (FnL.cons fi30_ok (FnL.cons fi31_ok (FnL.cons fi32_ok (FnL.cons fi33_ok (FnL.cons fi34_ok (FnL.cons fi36_ok (FnL.cons fi37_ok (FnL.cons fi38_ok (FnL.cons fi39_ok (FnL.cons fi40_ok (FnL.cons fi41_ok (FnL.cons fi42_ok (FnL.cons fi43_ok (FnL.cons fi44_ok (FnL.cons fi45_ok (FnL.cons fi46_ok (FnL.cons fi47_ok (FnL.cons fi48_ok (FnL.cons fi49_ok (FnL.cons fi50_ok (FnL.cons fi51_ok (FnL.cons fi52_ok (FnL.cons fi53_ok (FnL.cons fi54_ok (FnL.cons fi55_ok (FnL.cons fi56_ok (FnL.cons fi57_ok (FnL.cons fi58_ok (FnL.cons fi59_ok (FnL.cons fi60_ok (FnL.cons fi61_ok (FnL.cons fi63_ok (FnL.cons fi64_ok (FnL.cons fi65_ok (FnL.cons fi66_ok (FnL.cons fi67_ok (FnL.cons fi69_ok (FnL.cons fi70_ok (FnL.cons fi71_ok (FnL.cons fi72_ok (FnL.cons fi73_ok (FnL.cons fi74_ok (FnL.cons fi75_ok (FnL.cons fi76_ok (FnL.cons fi78_ok (FnL.cons fi79_ok (FnL.cons fi80_ok (FnL.cons fi81_ok (FnL.cons fi82_ok (FnL.cons fi85_ok (FnL.nil))))))))))))))))))))))))))))))))))))))))))))))))))))))))))))))))))))
theorem mixed : Try.prog.follows .mixedOrders = true := by kernel_rfl
end Go.Proofs.Ythaiinndikpmcaa
