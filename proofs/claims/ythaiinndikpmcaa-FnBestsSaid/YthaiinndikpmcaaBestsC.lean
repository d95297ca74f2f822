/-
  What the evaluator knows of the program: the types, the functions with their live slots. Printed by a program.
-/
import Derived.Test.YthaiinndikpmcaaChecked
import Derived.Test.YthaiinndikpmcaaBestsP
import Derived.KernelRfl
set_option linter.unusedVariables false
set_option linter.unusedSimpArgs false
namespace Go.Proofs.Ythaiinndikpmcaa
open Go Go.Rf

def tyTab : List (Nat × TI) := [
  (2, { desc := .int .i64, agg := false, size := 1, bytes := 8, zero := [.int .i64 0], row := .il .i64, cts := [2] }),
  (3, { desc := .int .i64, agg := false, size := 1, bytes := 8, zero := [.int .i64 0], row := .il .i64, cts := [3] }),
  (4, { desc := .bool, agg := false, size := 1, bytes := 1, zero := [.bool false], row := .bl, cts := [4] }),
  (5, { desc := .int .u8, agg := false, size := 1, bytes := 1, zero := [.int .u8 0], row := .il .u8, cts := [5] }),
  (22, { desc := .sl 5, agg := false, size := 1, bytes := 24, zero := [.nilsl], row := .gen, cts := [22] }),
  (24, { desc := .sl 28, agg := false, size := 1, bytes := 24, zero := [.nilsl], row := .gen, cts := [24] }),
  (26, { desc := .struct [(0, 24), (1, 24), (2, 24)], agg := true, size := 3, bytes := 72, zero := [.nilsl, .nilsl, .nilsl], row := .gen, cts := [24, 24, 24] }),
  (28, { desc := .flt .f32, agg := false, size := 1, bytes := 4, zero := [.flt .f32 0], row := .fl .f32, cts := [28] }),
  (35, { desc := .flt .f64, agg := false, size := 1, bytes := 8, zero := [.flt .f64 0], row := .fl .f64, cts := [35] }),
  (39, { desc := .sl 4, agg := false, size := 1, bytes := 24, zero := [.nilsl], row := .gen, cts := [39] }),
  (47, { desc := .other, agg := false, size := 1, bytes := 8, zero := [.any], row := .gen, cts := [47] }),
  (54, { desc := .ptr 73, agg := false, size := 1, bytes := 8, zero := [.any], row := .gen, cts := [54] }),
  (58, { desc := .other, agg := false, size := 1, bytes := 8, zero := [.any], row := .gen, cts := [58] }),
  (71, { desc := .int .u64, agg := false, size := 1, bytes := 8, zero := [.int .u64 0], row := .il .u64, cts := [71] }),
  (73, { desc := .struct [(0, 22), (1, 3), (2, 71)], agg := true, size := 3, bytes := 40, zero := [.nilsl, .int .i64 0, .int .u64 0], row := .gen, cts := [22, 3, 71] }),
  (79, { desc := .ptr 26, agg := false, size := 1, bytes := 8, zero := [.any], row := .gen, cts := [79] }),
  (80, { desc := .other, agg := false, size := 1, bytes := 8, zero := [.any], row := .gen, cts := [80] }),
  (94, { desc := .int .u64, agg := false, size := 1, bytes := 8, zero := [.int .u64 0], row := .il .u64, cts := [94] })]
theorem tyTab_ok : chkTab Try.prog tyTab = true := by kernel_rfl

noncomputable def fi3 : FnI := { code := (Try.f3.body.getD .skip), nt := 356, res := [.tmp 4], live := [(0, [0, 1]), (1, [0, 1, 44]), (2, [4]), (3, [1, 5]), (4, [1, 5, 6]), (5, [1, 5, 6, 7, 8, 9]), (6, [1, 5, 6, 7, 8, 9, 10, 11]), (7, [1, 5, 6, 7, 8, 9, 10, 11, 12, 13]), (8, [1, 5, 6, 7, 8, 9, 10, 11, 13, 14, 15]), (9, [1, 5, 6, 7, 111]), (10, [4]), (11, [1, 5, 6, 7, 16]), (12, [1, 5, 6, 7, 16, 114]), (13, [1, 5, 6, 7, 16]), (14, [1, 5, 6, 7, 16, 127]), (15, [4]), (16, [1, 5, 6, 17, 18, 19]), (17, [1, 5, 6, 17, 18, 134]), (18, [1, 5, 6, 18, 156]), (19, [4]), (20, [1, 5, 6, 18, 20]), (21, [1, 5, 6, 18, 20, 159]), (22, [1, 5, 6, 18, 20]), (23, [1, 5, 6, 18, 20, 174]), (24, [4]), (25, [1, 5, 6, 21, 22]), (26, [1, 5, 6, 21, 22, 23]), (27, [1, 5, 6, 21, 22, 23, 24]), (28, [1, 5, 6, 21, 22, 23, 24, 182]), (29, [1, 5, 6, 21, 22, 23, 24]), (30, [1, 5, 6, 21, 22, 23, 24]), (31, [1, 5, 6, 21, 22, 205]), (32, [4]), (33, [1, 5, 6, 21, 206]), (34, [1, 5, 6, 21, 25, 26]), (35, [1, 5, 241]), (36, [4]), (37, [1, 5, 27]), (38, [1, 5, 27, 28]), (39, [1, 5, 27, 28, 244]), (40, [1, 5, 27, 28]), (41, [1, 5, 27, 28]), (42, [5, 27, 29, 30]), (43, [5, 27, 29, 30, 31]), (44, [5, 27, 29, 31, 266]), (45, [4]), (46, [5, 27, 29, 31, 32]), (47, [5, 27, 29, 31, 32, 268]), (48, [5, 27, 29, 31, 32]), (49, [5, 27, 29, 32, 33, 34]), (50, [5, 27, 29, 32, 33, 310]), (51, [4]), (52, [5, 27, 29, 31, 32]), (53, [5, 27, 35, 36]), (54, [5, 35, 36, 37, 38]), (55, [35, 36, 37, 38, 39, 40, 41]), (56, [4])], nl := [(39, (.fl .f32, 1))], rn := [] }
noncomputable def fi5 : FnI := { code := (Try.f5.body.getD .skip), nt := 13, res := [.tmp 4], live := [(0, [0, 1]), (1, [4])], nl := [], rn := [] }
noncomputable def fi6 : FnI := { code := (Try.f6.body.getD .skip), nt := 8, res := [.cell 2 26], live := [(0, [0, 2]), (1, [2, 3]), (2, [2])], nl := [], rn := [(.fl .f32, 1), (.fl .f32, 1), (.fl .f32, 1)] }
noncomputable def fi7 : FnI := { code := (Try.f7.body.getD .skip), nt := 34, res := [.tmp 2, .tmp 3, .tmp 4], live := [(0, [1]), (1, [1, 10]), (2, [2, 3, 4]), (3, [1, 5]), (4, [1, 5, 12, 13, 14]), (5, [1, 5, 12, 13, 14, 15]), (6, [1, 5, 6, 7, 12, 13, 14]), (7, [1, 5, 6, 12, 13, 14, 25]), (8, [1, 5, 12, 13, 14]), (9, [1, 5, 12, 13, 14]), (10, [2, 3, 4])], nl := [], rn := [] }
noncomputable def fi8 : FnI := { code := (Try.f8.body.getD .skip), nt := 50, res := [.tmp 2, .tmp 3], live := [(0, [1]), (1, [1, 9]), (2, [2, 3]), (3, [1, 4]), (4, [1, 4, 5]), (5, [1, 4, 5, 14]), (6, [1, 4, 5]), (7, [1, 4, 5, 6]), (8, [1, 4, 5]), (9, [2, 3])], nl := [], rn := [] }
noncomputable def fi9 : FnI := { code := (Try.f9.body.getD .skip), nt := 46, res := [.cell 2 26, .tmp 3], live := [(0, [1, 2]), (1, [1, 2, 9]), (2, [2, 3]), (3, [1, 2, 4]), (4, [2, 4]), (9, [2, 3])], nl := [], rn := [(.fl .f32, 1), (.fl .f32, 1), (.fl .f32, 1), (.gen, 1)] }
noncomputable def fi10 : FnI := { code := (Try.f10.body.getD .skip), nt := 12, res := [.tmp 4], live := [(0, [0, 1]), (1, [4])], nl := [], rn := [] }
noncomputable def fi11 : FnI := { code := (Try.f11.body.getD .skip), nt := 52, res := [.tmp 2, .tmp 3, .tmp 4], live := [(0, [1]), (1, [1, 12]), (2, [2, 3, 4]), (3, [1, 5, 6]), (4, [1, 5, 6, 14, 15, 16]), (5, [1, 5, 6, 14, 15, 16, 17]), (6, [1, 5, 6, 7, 8, 14, 15, 16]), (7, [1, 5, 6, 7, 9, 14, 15, 16]), (8, [1, 5, 6, 7, 9, 14, 15, 16, 39]), (9, [1, 5, 6, 14, 15, 16]), (10, [1, 5, 6, 14, 15, 16]), (11, [5, 6, 49]), (12, [2, 3, 4]), (13, [2, 3, 4])], nl := [], rn := [] }
noncomputable def fi12 : FnI := { code := (Try.f12.body.getD .skip), nt := 64, res := [.tmp 2, .tmp 3], live := [(0, [1]), (1, [1, 10]), (2, [2, 3]), (3, [1, 4]), (4, [1, 4, 15]), (5, [1, 4]), (6, [1, 4, 5, 6]), (7, [1, 4, 5, 6, 34]), (8, [1, 4, 5, 6, 7]), (9, [2, 3]), (10, [2, 3])], nl := [], rn := [] }
noncomputable def fi13 : FnI := { code := (Try.f13.body.getD .skip), nt := 22, res := [.tmp 4, .tmp 5], live := [(0, [1, 2]), (1, [1, 2, 13]), (2, [4, 5]), (3, [4, 5])], nl := [], rn := [] }
noncomputable def fi14 : FnI := { code := (Try.f14.body.getD .skip), nt := 22, res := [.tmp 6], live := [(0, [0, 1, 2]), (1, [0, 1, 2, 14]), (2, [6]), (3, [6])], nl := [], rn := [] }
noncomputable def fi15 : FnI := { code := (Try.f15.body.getD .skip), nt := 53, res := [.tmp 6, .tmp 7], live := [(0, [0, 1, 2]), (1, [0, 1, 2, 28]), (2, [6, 7]), (3, [0, 1, 2, 8, 9]), (4, [1, 2, 8, 9, 30, 31, 32]), (5, [1, 2, 8, 9, 30, 31, 32, 33]), (6, [1, 2, 8, 9, 11, 30, 31, 32]), (7, [1, 2, 8, 12, 13, 30, 31, 32]), (8, [1, 2, 8, 12, 30, 31, 32, 45]), (9, [6, 7]), (10, [1, 2, 8, 9, 30, 31, 32]), (11, [1, 2, 8, 9, 30, 31, 32]), (12, [1, 2, 8, 9, 30, 31, 32]), (13, [6, 7])], nl := [(5, (.bl, 1))], rn := [(.bl, 1), (.gen, 1)] }
noncomputable def fi16 : FnI := { code := (Try.f16.body.getD .skip), nt := 31, res := [.tmp 8, .tmp 9], live := [(0, [0, 1, 2, 3]), (1, [0, 1, 2, 3, 20]), (2, [8, 9]), (3, [0, 1, 3, 23]), (4, [8, 9]), (5, [8, 9])], nl := [], rn := [] }
noncomputable def fi17 : FnI := { code := (Try.f17.body.getD .skip), nt := 33, res := [.tmp 8, .tmp 9], live := [(0, [1, 2, 3, 4]), (1, [2, 3, 10, 11]), (2, [2, 3, 10, 24]), (3, [8, 9]), (4, [2, 10, 25]), (5, [10]), (6, [8, 9])], nl := [], rn := [] }
noncomputable def fi18 : FnI := { code := (Try.f18.body.getD .skip), nt := 101, res := [.tmp 6, .tmp 7, .tmp 8], live := [(0, [1, 2, 3]), (1, [1, 2, 3, 23]), (2, [6, 7, 8]), (3, [9]), (4, [9, 10, 11, 12, 13, 14]), (5, [9, 10, 11, 12, 13, 14, 33, 34, 35]), (6, [9, 10, 11, 12, 13, 14, 33, 34, 35, 36]), (7, [9, 10, 11, 12, 13, 14, 15, 16, 33, 34, 35]), (8, [9, 10, 11, 12, 13, 14, 17, 18, 33, 34, 35]), (9, [9, 10, 11, 12, 13, 14, 17, 18, 33, 34, 35]), (10, [9, 10, 11, 12, 13, 14, 17, 18, 33, 34, 35]), (11, [9, 10, 11, 12, 13, 14, 17, 18, 33, 34, 35]), (12, [9, 10, 11, 12, 13, 14, 33, 34, 35]), (13, [9, 10, 11, 12, 13, 14, 33, 34, 35]), (14, [10, 11, 12, 14, 19]), (15, [10, 11, 12, 14, 19, 77]), (16, [6, 7, 8]), (17, [10, 11, 12, 20]), (18, [6, 7, 8])], nl := [], rn := [] }
noncomputable def fi19 : FnI := { code := (Try.f19.body.getD .skip), nt := 7, res := [.tmp 2], live := [(0, [0]), (1, [2])], nl := [], rn := [] }
noncomputable def fi21 : FnI := { code := (Try.f21.body.getD .skip), nt := 67, res := [.tmp 2], live := [(0, [1]), (1, [1, 3]), (2, [1, 40]), (3, [2]), (4, [1, 42, 43, 44]), (5, [1, 42, 43, 44, 45]), (6, [1, 4, 5, 42, 43, 44]), (7, [1, 42, 43, 44, 65]), (8, [2]), (9, [1, 42, 43, 44]), (10, [2])], nl := [], rn := [] }
noncomputable def fi28 : FnI := { code := (Try.f28.body.getD .skip), nt := 6, res := [.tmp 2], live := [(0, [0]), (1, [2])], nl := [], rn := [] }
noncomputable def fi29 : FnI := { code := (Try.f29.body.getD .skip), nt := 46, res := [.cell 2 26], live := [(0, [0, 2]), (1, [0, 2, 8]), (2, [2]), (3, [0, 2, 3]), (4, [0, 2, 3, 4]), (5, [0, 2, 3, 4, 5]), (6, [0, 2, 3, 4, 5, 23]), (7, [0, 2, 3, 4, 5]), (8, [0, 2, 3, 4, 5, 6]), (9, [0, 2, 3, 4, 5]), (10, [0, 2, 3, 4, 5]), (11, [2])], nl := [], rn := [(.fl .f32, 1), (.fl .f32, 1), (.fl .f32, 1)] }
noncomputable def fi30 : FnI := { code := (Try.f30.body.getD .skip), nt := 8, res := [.tmp 2, .tmp 3], live := [(0, [0]), (1, [0, 6]), (2, [2, 3]), (3, [2, 3])], nl := [], rn := [] }
noncomputable def fi31 : FnI := { code := (Try.f31.body.getD .skip), nt := 4, res := [.tmp 2], live := [(0, [1]), (1, [2])], nl := [], rn := [] }
noncomputable def fi32 : FnI := { code := (Try.f32.body.getD .skip), nt := 42, res := [.tmp 6], live := [(0, [1, 2, 3]), (1, [1, 7, 8, 9, 10, 11]), (2, [1, 7, 8, 9, 10, 11, 12]), (3, [1, 7, 8, 9, 10, 11, 12, 24]), (4, [1, 7, 8, 12]), (5, [6])], nl := [], rn := [] }
noncomputable def fi33 : FnI := { code := (Try.f33.body.getD .skip), nt := 6, res := [.tmp 2], live := [(0, [0]), (1, [2])], nl := [], rn := [] }
noncomputable def fi34 : FnI := { code := (Try.f34.body.getD .skip), nt := 51, res := [.cell 6 26], live := [(0, [1, 2, 3, 6]), (1, [1, 2, 3, 6, 7]), (2, [1, 2, 3, 6, 7, 12, 13, 14]), (3, [1, 2, 3, 6, 7, 12, 13, 14, 15]), (4, [1, 2, 3, 6, 7, 8, 9, 12, 13, 14]), (5, [1, 2, 3, 6, 7, 8, 9, 12, 13, 14, 22]), (6, [1, 2, 3, 6, 7, 8, 12, 13, 14]), (7, [1, 2, 3, 6, 7, 12, 13, 14]), (8, [1, 2, 3, 6, 7, 12, 13, 14]), (9, [6])], nl := [(3, (.fl .f32, 1))], rn := [(.fl .f32, 1), (.fl .f32, 1), (.fl .f32, 1)] }
noncomputable def fi35 : FnI := { code := (Try.f35.body.getD .skip), nt := 14, res := [.tmp 4, .tmp 5, .tmp 6], live := [(0, [0, 1]), (1, [0, 1, 11]), (2, [4, 5, 6]), (3, [4, 5, 6])], nl := [], rn := [] }
noncomputable def fi36 : FnI := { code := (Try.f36.body.getD .skip), nt := 6, res := [.tmp 2], live := [(0, [0]), (1, [2])], nl := [], rn := [] }
noncomputable def fi37 : FnI := { code := (Try.f37.body.getD .skip), nt := 15, res := [.tmp 6], live := [(0, [0, 1, 2]), (1, [6])], nl := [], rn := [] }
noncomputable def fi38 : FnI := { code := (Try.f38.body.getD .skip), nt := 16, res := [.tmp 2], live := [(0, [0]), (1, [3]), (2, [4]), (3, [4, 14]), (4, [2]), (5, [2])], nl := [], rn := [] }
noncomputable def fi41 : FnI := { code := (Try.f41.body.getD .skip), nt := 14, res := [.tmp 6], live := [(0, [0, 1, 2]), (1, [6])], nl := [], rn := [] }
noncomputable def fi46 : FnI := { code := (Try.f46.body.getD .skip), nt := 9, res := [.tmp 4], live := [(0, [0, 1]), (1, [4])], nl := [], rn := [] }
noncomputable def fi47 : FnI := { code := (Try.f47.body.getD .skip), nt := 37, res := [.cell 2 26], live := [(0, [0, 2]), (1, [0, 2, 3]), (2, [0, 2, 3, 4]), (3, [0, 2, 3, 4, 11]), (4, [0, 2, 3, 4]), (5, [0, 2, 3, 4, 5]), (6, [0, 2, 3, 4, 5, 6]), (7, [0, 2, 3, 4, 5, 6, 7]), (8, [0, 2, 3, 4]), (9, [2])], nl := [], rn := [(.fl .f32, 1), (.fl .f32, 1), (.fl .f32, 1)] }
noncomputable def fi48 : FnI := { code := (Try.f48.body.getD .skip), nt := 20, res := [.tmp 4], live := [(0, [0, 1]), (1, [0, 1, 7]), (2, [4]), (3, [0, 1, 5]), (4, [0, 1, 5, 11]), (5, [1, 5]), (6, [4])], nl := [], rn := [] }
noncomputable def fi49 : FnI := { code := (Try.f49.body.getD .skip), nt := 5, res := [.cell 0 26], live := [(0, [0]), (1, [0])], nl := [], rn := [(.fl .f32, 1), (.fl .f32, 1), (.fl .f32, 1)] }
noncomputable def fi50 : FnI := { code := (Try.f50.body.getD .skip), nt := 38, res := [], live := [(0, [0, 2, 3]), (1, [0, 3]), (2, [])], nl := [], rn := [] }
noncomputable def fi51 : FnI := { code := (Try.f51.body.getD .skip), nt := 19, res := [], live := [(0, [0, 1, 3]), (1, [0, 1, 3, 8]), (2, [0, 1, 3]), (3, [0, 1, 3, 18])], nl := [], rn := [] }
noncomputable def fi52 : FnI := { code := (Try.f52.body.getD .skip), nt := 67, res := [.tmp 4, .tmp 5, .tmp 6, .tmp 7, .tmp 8], live := [(0, [1, 2]), (1, [2, 9, 10]), (2, [2, 9, 10, 11]), (3, [2, 9, 10, 11, 22]), (4, [4, 5, 6, 7, 8]), (5, [2, 9, 10, 11, 37]), (6, [4, 5, 6, 7, 8]), (7, [4, 5, 6, 7, 8])], nl := [], rn := [] }
noncomputable def fi53 : FnI := { code := (Try.f53.body.getD .skip), nt := 9, res := [.tmp 4], live := [(0, [0, 1]), (1, [4])], nl := [], rn := [] }
noncomputable def fi54 : FnI := { code := (Try.f54.body.getD .skip), nt := 6, res := [.tmp 2], live := [(0, [0]), (1, [2])], nl := [], rn := [] }
noncomputable def fi55 : FnI := { code := (Try.f55.body.getD .skip), nt := 6, res := [.tmp 2], live := [(0, [0]), (1, [2])], nl := [], rn := [] }
noncomputable def fi56 : FnI := { code := (Try.f56.body.getD .skip), nt := 9, res := [.tmp 2], live := [(0, [0]), (1, [2])], nl := [], rn := [] }
noncomputable def fi57 : FnI := { code := (Try.f57.body.getD .skip), nt := 7, res := [.tmp 2], live := [(0, [0]), (1, [2]), (2, [2])], nl := [], rn := [] }
noncomputable def fi64 : FnI := { code := (Try.f64.body.getD .skip), nt := 7, res := [.tmp 2], live := [(0, [0]), (1, [2])], nl := [], rn := [] }
noncomputable def fi65 : FnI := { code := (Try.f65.body.getD .skip), nt := 62, res := [.tmp 2], live := [(0, [0]), (1, [0, 3]), (2, [0, 3, 13]), (3, [0, 3]), (4, [0, 3]), (5, [0, 3]), (6, [0, 3, 53]), (7, [2]), (8, [2])], nl := [], rn := [], mg := true }
noncomputable def fi66 : FnI := { code := (Try.f66.body.getD .skip), nt := 19, res := [.tmp 4], live := [(0, [0, 1]), (1, [0, 1, 7, 8]), (2, [0, 1, 7, 8, 9]), (3, [0, 1, 5, 7, 8]), (4, [0, 1, 5, 7, 8, 16]), (5, [4]), (6, [0, 1, 7, 8]), (7, [4])], nl := [], rn := [] }
noncomputable def fi67 : FnI := { code := (Try.f67.body.getD .skip), nt := 7, res := [.tmp 3], live := [(0, [0, 1]), (1, [3])], nl := [], rn := [] }
noncomputable def fi69 : FnI := { code := (Try.f69.body.getD .skip), nt := 38, res := [.tmp 2], live := [(0, [0]), (1, [0, 16]), (2, [2]), (3, [0, 19]), (4, [3, 4]), (5, [3, 27]), (6, [3]), (7, [2]), (8, [5]), (9, [2])], nl := [], rn := [] }
noncomputable def fi72 : FnI := { code := (Try.f72.body.getD .skip), nt := 5, res := [.tmp 2], live := [(0, [0]), (1, [2])], nl := [], rn := [] }
noncomputable def fi73 : FnI := { code := (Try.f73.body.getD .skip), nt := 67, res := [.tmp 2], live := [(0, [0]), (1, [0, 12]), (2, [2]), (3, [0, 19]), (4, [2]), (5, [3]), (6, [3, 26]), (7, [3]), (8, [3, 4]), (9, [3, 4, 31]), (10, [3, 4]), (11, [3, 4, 35]), (12, [3, 4]), (13, [4, 5]), (14, [4, 5, 6]), (15, [4, 5, 6, 7]), (16, [4, 5, 6, 7, 8]), (17, [4, 5, 6, 7, 8, 44]), (18, [4, 5, 6, 7, 8]), (19, [4, 5, 6, 7, 8]), (20, [5, 7, 59]), (21, [2]), (22, [2])], nl := [], rn := [] }
noncomputable def fi74 : FnI := { code := (Try.f74.body.getD .skip), nt := 6, res := [.tmp 2], live := [(0, [0]), (1, [2])], nl := [], rn := [] }
noncomputable def fi75 : FnI := { code := (Try.f75.body.getD .skip), nt := 15, res := [.tmp 4], live := [(0, [0, 1]), (1, [0, 1, 6]), (2, [0]), (3, [0, 10]), (4, [0]), (5, [4])], nl := [], rn := [] }
noncomputable def fi76 : FnI := { code := (Try.f76.body.getD .skip), nt := 11, res := [.tmp 2, .tmp 3], live := [(0, [0]), (1, [0, 2]), (2, [2, 3])], nl := [], rn := [] }
noncomputable def fi79 : FnI := { code := (Try.f79.body.getD .skip), nt := 2, res := [.tmp 0], live := [(0, []), (1, [0])], nl := [], rn := [] }
noncomputable def fi80 : FnI := { code := (Try.f80.body.getD .skip), nt := 7, res := [.tmp 2], live := [(0, [0]), (1, [2])], nl := [], rn := [] }
noncomputable def fi81 : FnI := { code := (Try.f81.body.getD .skip), nt := 7, res := [.tmp 2], live := [(0, [0]), (1, [2]), (2, [2])], nl := [], rn := [] }
noncomputable def fi82 : FnI := { code := (Try.f82.body.getD .skip), nt := 13, res := [.tmp 4], live := [(0, [0, 1]), (1, [4])], nl := [], rn := [] }
noncomputable def fi85 : FnI := { code := (Try.f85.body.getD .skip), nt := 26, res := [.tmp 2], live := [(0, [0]), (1, [0, 7]), (2, [2]), (3, [3]), (4, [3, 4]), (5, [3, 4, 17]), (6, [3]), (7, [2])], nl := [], rn := [] }
noncomputable def fnTab : List (Nat × FnI) := [(3, fi3), (5, fi5), (6, fi6), (7, fi7), (8, fi8), (9, fi9), (10, fi10), (11, fi11), (12, fi12), (13, fi13), (14, fi14), (15, fi15), (16, fi16), (17, fi17), (18, fi18), (19, fi19), (21, fi21), (28, fi28), (29, fi29), (30, fi30), (31, fi31), (32, fi32), (33, fi33), (34, fi34), (35, fi35), (36, fi36), (37, fi37), (38, fi38), (41, fi41), (46, fi46), (47, fi47), (48, fi48), (49, fi49), (50, fi50), (51, fi51), (52, fi52), (53, fi53), (54, fi54), (55, fi55), (56, fi56), (57, fi57), (64, fi64), (65, fi65), (66, fi66), (67, fi67), (69, fi69), (72, fi72), (73, fi73), (74, fi74), (75, fi75), (76, fi76), (79, fi79), (80, fi80), (81, fi81), (82, fi82), (85, fi85)]
theorem fi3_ok : FnOk Try.prog 3 fi3 := ⟨⟨Try.f3, Try.func3, by kernel_rfl, by kernel_rfl, by kernel_rfl, by kernel_rfl⟩, by kernel_rfl⟩
theorem fi5_ok : FnOk Try.prog 5 fi5 := ⟨⟨Try.f5, Try.func5, by kernel_rfl, by kernel_rfl, by kernel_rfl, by kernel_rfl⟩, by kernel_rfl⟩
theorem fi6_ok : FnOk Try.prog 6 fi6 := ⟨⟨Try.f6, Try.func6, by kernel_rfl, by kernel_rfl, by kernel_rfl, by kernel_rfl⟩, by kernel_rfl⟩
theorem fi7_ok : FnOk Try.prog 7 fi7 := ⟨⟨Try.f7, Try.func7, by kernel_rfl, by kernel_rfl, by kernel_rfl, by kernel_rfl⟩, by kernel_rfl⟩
theorem fi8_ok : FnOk Try.prog 8 fi8 := ⟨⟨Try.f8, Try.func8, by kernel_rfl, by kernel_rfl, by kernel_rfl, by kernel_rfl⟩, by kernel_rfl⟩
theorem fi9_ok : FnOk Try.prog 9 fi9 := ⟨⟨Try.f9, Try.func9, by kernel_rfl, by kernel_rfl, by kernel_rfl, by kernel_rfl⟩, by kernel_rfl⟩
theorem fi10_ok : FnOk Try.prog 10 fi10 := ⟨⟨Try.f10, Try.func10, by kernel_rfl, by kernel_rfl, by kernel_rfl, by kernel_rfl⟩, by kernel_rfl⟩
theorem fi11_ok : FnOk Try.prog 11 fi11 := ⟨⟨Try.f11, Try.func11, by kernel_rfl, by kernel_rfl, by kernel_rfl, by kernel_rfl⟩, by kernel_rfl⟩
theorem fi12_ok : FnOk Try.prog 12 fi12 := ⟨⟨Try.f12, Try.func12, by kernel_rfl, by kernel_rfl, by kernel_rfl, by kernel_rfl⟩, by kernel_rfl⟩
theorem fi13_ok : FnOk Try.prog 13 fi13 := ⟨⟨Try.f13, Try.func13, by kernel_rfl, by kernel_rfl, by kernel_rfl, by kernel_rfl⟩, by kernel_rfl⟩
theorem fi14_ok : FnOk Try.prog 14 fi14 := ⟨⟨Try.f14, Try.func14, by kernel_rfl, by kernel_rfl, by kernel_rfl, by kernel_rfl⟩, by kernel_rfl⟩
theorem fi15_ok : FnOk Try.prog 15 fi15 := ⟨⟨Try.f15, Try.func15, by kernel_rfl, by kernel_rfl, by kernel_rfl, by kernel_rfl⟩, by kernel_rfl⟩
theorem fi16_ok : FnOk Try.prog 16 fi16 := ⟨⟨Try.f16, Try.func16, by kernel_rfl, by kernel_rfl, by kernel_rfl, by kernel_rfl⟩, by kernel_rfl⟩
theorem fi17_ok : FnOk Try.prog 17 fi17 := ⟨⟨Try.f17, Try.func17, by kernel_rfl, by kernel_rfl, by kernel_rfl, by kernel_rfl⟩, by kernel_rfl⟩
theorem fi18_ok : FnOk Try.prog 18 fi18 := ⟨⟨Try.f18, Try.func18, by kernel_rfl, by kernel_rfl, by kernel_rfl, by kernel_rfl⟩, by kernel_rfl⟩
theorem fi19_ok : FnOk Try.prog 19 fi19 := ⟨⟨Try.f19, Try.func19, by kernel_rfl, by kernel_rfl, by kernel_rfl, by kernel_rfl⟩, by kernel_rfl⟩
theorem fi21_ok : FnOk Try.prog 21 fi21 := ⟨⟨Try.f21, Try.func21, by kernel_rfl, by kernel_rfl, by kernel_rfl, by kernel_rfl⟩, by kernel_rfl⟩
theorem fi28_ok : FnOk Try.prog 28 fi28 := ⟨⟨Try.f28, Try.func28, by kernel_rfl, by kernel_rfl, by kernel_rfl, by kernel_rfl⟩, by kernel_rfl⟩
theorem fi29_ok : FnOk Try.prog 29 fi29 := ⟨⟨Try.f29, Try.func29, by kernel_rfl, by kernel_rfl, by kernel_rfl, by kernel_rfl⟩, by kernel_rfl⟩
theorem fi30_ok : FnOk Try.prog 30 fi30 := ⟨⟨Try.f30, Try.func30, by kernel_rfl, by kernel_rfl, by kernel_rfl, by kernel_rfl⟩, by kernel_rfl⟩
theorem fi31_ok : FnOk Try.prog 31 fi31 := ⟨⟨Try.f31, Try.func31, by kernel_rfl, by kernel_rfl, by kernel_rfl, by kernel_rfl⟩, by kernel_rfl⟩
theorem fi32_ok : FnOk Try.prog 32 fi32 := ⟨⟨Try.f32, Try.func32, by kernel_rfl, by kernel_rfl, by kernel_rfl, by kernel_rfl⟩, by kernel_rfl⟩
theorem fi33_ok : FnOk Try.prog 33 fi33 := ⟨⟨Try.f33, Try.func33, by kernel_rfl, by kernel_rfl, by kernel_rfl, by kernel_rfl⟩, by kernel_rfl⟩
theorem fi34_ok : FnOk Try.prog 34 fi34 := ⟨⟨Try.f34, Try.func34, by kernel_rfl, by kernel_rfl, by kernel_rfl, by kernel_rfl⟩, by kernel_rfl⟩
theorem fi35_ok : FnOk Try.prog 35 fi35 := ⟨⟨Try.f35, Try.func35, by kernel_rfl, by kernel_rfl, by kernel_rfl, by kernel_rfl⟩, by kernel_rfl⟩
theorem fi36_ok : FnOk Try.prog 36 fi36 := ⟨⟨Try.f36, Try.func36, by kernel_rfl, by kernel_rfl, by kernel_rfl, by kernel_rfl⟩, by kernel_rfl⟩
theorem fi37_ok : FnOk Try.prog 37 fi37 := ⟨⟨Try.f37, Try.func37, by kernel_rfl, by kernel_rfl, by kernel_rfl, by kernel_rfl⟩, by kernel_rfl⟩
theorem fi38_ok : FnOk Try.prog 38 fi38 := ⟨⟨Try.f38, Try.func38, by kernel_rfl, by kernel_rfl, by kernel_rfl, by kernel_rfl⟩, by kernel_rfl⟩
theorem fi41_ok : FnOk Try.prog 41 fi41 := ⟨⟨Try.f41, Try.func41, by kernel_rfl, by kernel_rfl, by kernel_rfl, by kernel_rfl⟩, by kernel_rfl⟩
theorem fi46_ok : FnOk Try.prog 46 fi46 := ⟨⟨Try.f46, Try.func46, by kernel_rfl, by kernel_rfl, by kernel_rfl, by kernel_rfl⟩, by kernel_rfl⟩
theorem fi47_ok : FnOk Try.prog 47 fi47 := ⟨⟨Try.f47, Try.func47, by kernel_rfl, by kernel_rfl, by kernel_rfl, by kernel_rfl⟩, by kernel_rfl⟩
theorem fi48_ok : FnOk Try.prog 48 fi48 := ⟨⟨Try.f48, Try.func48, by kernel_rfl, by kernel_rfl, by kernel_rfl, by kernel_rfl⟩, by kernel_rfl⟩
theorem fi49_ok : FnOk Try.prog 49 fi49 := ⟨⟨Try.f49, Try.func49, by kernel_rfl, by kernel_rfl, by kernel_rfl, by kernel_rfl⟩, by kernel_rfl⟩
theorem fi50_ok : FnOk Try.prog 50 fi50 := ⟨⟨Try.f50, Try.func50, by kernel_rfl, by kernel_rfl, by kernel_rfl, by kernel_rfl⟩, by kernel_rfl⟩
theorem fi51_ok : FnOk Try.prog 51 fi51 := ⟨⟨Try.f51, Try.func51, by kernel_rfl, by kernel_rfl, by kernel_rfl, by kernel_rfl⟩, by kernel_rfl⟩
theorem fi52_ok : FnOk Try.prog 52 fi52 := ⟨⟨Try.f52, Try.func52, by kernel_rfl, by kernel_rfl, by kernel_rfl, by kernel_rfl⟩, by kernel_rfl⟩
theorem fi53_ok : FnOk Try.prog 53 fi53 := ⟨⟨Try.f53, Try.func53, by kernel_rfl, by kernel_rfl, by kernel_rfl, by kernel_rfl⟩, by kernel_rfl⟩
theorem fi54_ok : FnOk Try.prog 54 fi54 := ⟨⟨Try.f54, Try.func54, by kernel_rfl, by kernel_rfl, by kernel_rfl, by kernel_rfl⟩, by kernel_rfl⟩
theorem fi55_ok : FnOk Try.prog 55 fi55 := ⟨⟨Try.f55, Try.func55, by kernel_rfl, by kernel_rfl, by kernel_rfl, by kernel_rfl⟩, by kernel_rfl⟩
theorem fi56_ok : FnOk Try.prog 56 fi56 := ⟨⟨Try.f56, Try.func56, by kernel_rfl, by kernel_rfl, by kernel_rfl, by kernel_rfl⟩, by kernel_rfl⟩
theorem fi57_ok : FnOk Try.prog 57 fi57 := ⟨⟨Try.f57, Try.func57, by kernel_rfl, by kernel_rfl, by kernel_rfl, by kernel_rfl⟩, by kernel_rfl⟩
theorem fi64_ok : FnOk Try.prog 64 fi64 := ⟨⟨Try.f64, Try.func64, by kernel_rfl, by kernel_rfl, by kernel_rfl, by kernel_rfl⟩, by kernel_rfl⟩
theorem fi65_ok : FnOk Try.prog 65 fi65 := ⟨⟨Try.f65, Try.func65, by kernel_rfl, by kernel_rfl, by kernel_rfl, by kernel_rfl⟩, by kernel_rfl⟩
theorem fi66_ok : FnOk Try.prog 66 fi66 := ⟨⟨Try.f66, Try.func66, by kernel_rfl, by kernel_rfl, by kernel_rfl, by kernel_rfl⟩, by kernel_rfl⟩
theorem fi67_ok : FnOk Try.prog 67 fi67 := ⟨⟨Try.f67, Try.func67, by kernel_rfl, by kernel_rfl, by kernel_rfl, by kernel_rfl⟩, by kernel_rfl⟩
theorem fi69_ok : FnOk Try.prog 69 fi69 := ⟨⟨Try.f69, Try.func69, by kernel_rfl, by kernel_rfl, by kernel_rfl, by kernel_rfl⟩, by kernel_rfl⟩
theorem fi72_ok : FnOk Try.prog 72 fi72 := ⟨⟨Try.f72, Try.func72, by kernel_rfl, by kernel_rfl, by kernel_rfl, by kernel_rfl⟩, by kernel_rfl⟩
theorem fi73_ok : FnOk Try.prog 73 fi73 := ⟨⟨Try.f73, Try.func73, by kernel_rfl, by kernel_rfl, by kernel_rfl, by kernel_rfl⟩, by kernel_rfl⟩
theorem fi74_ok : FnOk Try.prog 74 fi74 := ⟨⟨Try.f74, Try.func74, by kernel_rfl, by kernel_rfl, by kernel_rfl, by kernel_rfl⟩, by kernel_rfl⟩
theorem fi75_ok : FnOk Try.prog 75 fi75 := ⟨⟨Try.f75, Try.func75, by kernel_rfl, by kernel_rfl, by kernel_rfl, by kernel_rfl⟩, by kernel_rfl⟩
theorem fi76_ok : FnOk Try.prog 76 fi76 := ⟨⟨Try.f76, Try.func76, by kernel_rfl, by kernel_rfl, by kernel_rfl, by kernel_rfl⟩, by kernel_rfl⟩
theorem fi79_ok : FnOk Try.prog 79 fi79 := ⟨⟨Try.f79, Try.func79, by kernel_rfl, by kernel_rfl, by kernel_rfl, by kernel_rfl⟩, by kernel_rfl⟩
theorem fi80_ok : FnOk Try.prog 80 fi80 := ⟨⟨Try.f80, Try.func80, by kernel_rfl, by kernel_rfl, by kernel_rfl, by kernel_rfl⟩, by kernel_rfl⟩
theorem fi81_ok : FnOk Try.prog 81 fi81 := ⟨⟨Try.f81, Try.func81, by kernel_rfl, by kernel_rfl, by kernel_rfl, by kernel_rfl⟩, by kernel_rfl⟩
theorem fi82_ok : FnOk Try.prog 82 fi82 := ⟨⟨Try.f82, Try.func82, by kernel_rfl, by kernel_rfl, by kernel_rfl, by kernel_rfl⟩, by kernel_rfl⟩
theorem fi85_ok : FnOk Try.prog 85 fi85 := ⟨⟨Try.f85, Try.func85, by kernel_rfl, by kernel_rfl, by kernel_rfl, by kernel_rfl⟩, by kernel_rfl⟩
theorem fnTab_ok : FnL Try.prog fnTab := FnL.cons fi3_ok (FnL.cons fi5_ok (FnL.cons fi6_ok (FnL.cons fi7_ok (FnL.cons fi8_ok (FnL.cons fi9_ok (FnL.cons fi10_ok (FnL.cons fi11_ok (FnL.cons fi12_ok (FnL.cons fi13_ok (FnL.cons fi14_ok (FnL.cons fi15_ok (FnL.cons fi16_ok (FnL.cons fi17_ok (FnL.cons fi18_ok (FnL.cons fi19_ok (FnL.cons fi21_ok (FnL.cons fi28_ok (FnL.cons fi29_ok (FnL.cons fi30_ok (FnL.cons fi31_ok (FnL.cons fi32_ok (FnL.cons fi33_ok (FnL.cons fi34_ok (FnL.cons fi35_ok (FnL.cons fi36_ok (FnL.cons fi37_ok (FnL.cons fi38_ok (FnL.cons fi41_ok (FnL.cons fi46_ok (FnL.cons fi47_ok (FnL.cons fi48_ok (FnL.cons fi49_ok (FnL.cons fi50_ok (FnL.cons fi51_ok (FnL.cons fi52_ok (FnL.cons fi53_ok (FnL.cons fi54_ok (FnL.cons fi55_ok (FnL.cons fi56_ok (FnL.cons fi57_ok (FnL.cons fi64_ok (FnL.cons fi65_ok (FnL.cons fi66_ok (FnL.cons fi67_ok (FnL.cons fi69_ok (FnL.cons fi72_ok (FnL.cons fi73_ok (FnL.cons fi74_ok (FnL.cons fi75_ok (FnL.cons fi76_ok (FnL.cons fi79_ok (FnL.cons fi80_ok (FnL.cons fi81_ok (FnL.cons fi82_ok (FnL.cons fi85_ok (FnL.nil))))))))))))))))))))))))))))))))))))))))))))))))))))))))
theorem mixed : Try.prog.follows .mixedOrders = true := by kernel_rfl
end Go.Proofs.Ythaiinndikpmcaa
