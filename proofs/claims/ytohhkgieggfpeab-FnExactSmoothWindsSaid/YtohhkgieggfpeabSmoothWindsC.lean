/-
  What the evaluator knows of the program: the types, the functions with their live slots. Printed by a program.
-/
import Derived.Test.YtohhkgieggfpeabChecked
import Derived.Test.YtohhkgieggfpeabSmoothWindsP
import Derived.KernelRfl
set_option linter.unusedVariables false
namespace Go.Proofs.Ytohhkgieggfpeab
open Go Go.Rf

def tyTab : List (Nat × TI) := [
  (2, { desc := .int .i64, agg := false, size := 1, bytes := 8, zero := [.int .i64 0], row := .il .i64, cts := [2] }),
  (3, { desc := .int .i64, agg := false, size := 1, bytes := 8, zero := [.int .i64 0], row := .il .i64, cts := [3] }),
  (4, { desc := .bool, agg := false, size := 1, bytes := 1, zero := [.bool false], row := .bl, cts := [4] }),
  (5, { desc := .int .u8, agg := false, size := 1, bytes := 1, zero := [.int .u8 0], row := .il .u8, cts := [5] }),
  (22, { desc := .sl 5, agg := false, size := 1, bytes := 24, zero := [.nilsl], row := .gen, cts := [22] }),
  (24, { desc := .sl 28, agg := false, size := 1, bytes := 24, zero := [.nilsl], row := .gen, cts := [24] }),
  (26, { desc := .struct [(0, 24), (1, 24), (2, 24)], agg := true, size := 3, bytes := 72, zero := [.nilsl, .nilsl, .nilsl], row := .gen, cts := [24, 24, 24] }),
  (27, { desc := .sl 47, agg := false, size := 1, bytes := 24, zero := [.nilsl], row := .gen, cts := [27] }),
  (28, { desc := .flt .f32, agg := false, size := 1, bytes := 4, zero := [.flt .f32 0], row := .fl .f32, cts := [28] }),
  (30, { desc := .struct [(0, 26), (3, 27), (4, 2), (5, 28), (6, 28)], agg := true, size := 7, bytes := 112, zero := [.nilsl, .nilsl, .nilsl, .nilsl, .int .i64 0, .flt .f32 0, .flt .f32 0], row := .gen, cts := [24, 24, 24, 27, 2, 28, 28] }),
  (35, { desc := .other, agg := false, size := 1, bytes := 8, zero := [.any], row := .gen, cts := [35] }),
  (41, { desc := .flt .f64, agg := false, size := 1, bytes := 8, zero := [.flt .f64 0], row := .fl .f64, cts := [41] }),
  (47, { desc := .struct [(0, 28), (1, 28), (2, 28)], agg := true, size := 3, bytes := 12, zero := [.flt .f32 0, .flt .f32 0, .flt .f32 0], row := .fl .f32, cts := [28, 28, 28] }),
  (60, { desc := .struct [(0, 24), (1, 24)], agg := true, size := 2, bytes := 48, zero := [.nilsl, .nilsl], row := .gen, cts := [24, 24] }),
  (63, { desc := .struct [(0, 24), (1, 24)], agg := true, size := 2, bytes := 48, zero := [.nilsl, .nilsl], row := .gen, cts := [24, 24] }),
  (70, { desc := .ptr 95, agg := false, size := 1, bytes := 8, zero := [.any], row := .gen, cts := [70] }),
  (74, { desc := .ptr 30, agg := false, size := 1, bytes := 8, zero := [.any], row := .gen, cts := [74] }),
  (77, { desc := .other, agg := false, size := 1, bytes := 8, zero := [.any], row := .gen, cts := [77] }),
  (93, { desc := .int .u64, agg := false, size := 1, bytes := 8, zero := [.int .u64 0], row := .il .u64, cts := [93] }),
  (95, { desc := .struct [(0, 22), (1, 3), (2, 93)], agg := true, size := 3, bytes := 40, zero := [.nilsl, .int .i64 0, .int .u64 0], row := .gen, cts := [22, 3, 93] }),
  (112, { desc := .ptr 26, agg := false, size := 1, bytes := 8, zero := [.any], row := .gen, cts := [112] }),
  (117, { desc := .int .u32, agg := false, size := 1, bytes := 4, zero := [.int .u32 0], row := .il .u32, cts := [117] }),
  (125, { desc := .int .u64, agg := false, size := 1, bytes := 8, zero := [.int .u64 0], row := .il .u64, cts := [125] })]
theorem tyTab_ok : chkTab Try.prog tyTab = true := by kernel_rfl

noncomputable def fi3 : FnI := { code := (Try.f3.body.getD .skip), nt := 308, res := [.tmp 4], live := [(0, [0, 1]), (1, [0, 1, 38]), (2, [4]), (3, [1, 5]), (4, [1, 5, 6]), (5, [1, 5, 6, 7]), (6, [1, 5, 6, 7, 8]), (7, [5, 6, 7, 8, 9]), (8, [5, 6, 7, 8, 9, 10, 11]), (9, [5, 6, 7, 8, 9, 10, 11, 12, 13]), (10, [5, 6, 7, 8, 9, 12, 13, 98]), (11, [4]), (12, [5, 6, 7, 8, 9, 12, 100]), (13, [4]), (14, [5, 6, 7, 8, 9, 12, 14, 15]), (15, [5, 6, 7, 8, 9, 12, 120]), (16, [4]), (17, [5, 6, 7, 8, 9, 12, 16, 17, 18]), (18, [5, 6, 7, 8, 9, 12, 16, 17, 18, 19, 20]), (19, [5, 6, 7, 8, 9, 12, 16, 17, 18, 19, 20, 21, 22]), (20, [5, 6, 7, 8, 9, 12, 16, 17, 19, 21, 152]), (21, [4]), (22, [5, 6, 7, 8, 9, 12, 16, 17, 19, 21, 23]), (23, [5, 6, 7, 8, 9, 16, 17, 19, 21, 23, 24]), (24, [5, 6, 7, 8, 9, 16, 17, 19, 21, 23, 24, 25]), (25, [5, 6, 7, 8, 9, 16, 17, 25, 26]), (26, [5, 6, 7, 8, 9, 16, 17, 25, 26, 27, 28, 29]), (27, [5, 6, 7, 8, 9, 16, 17, 25, 26, 27, 28, 29, 213]), (28, [4]), (29, [5, 6, 7, 8, 16, 17, 25, 26, 27, 28, 29, 30, 31, 32]), (30, [5, 6, 7, 8, 16, 17, 25, 26, 30, 31, 249]), (31, [4]), (32, [5, 6, 8, 16, 17, 26, 30, 31, 33]), (33, [5, 6, 16, 17, 30, 31, 33, 34]), (34, [16, 17, 30, 31, 35]), (35, [4])], nl := [], rn := [] }
noncomputable def fi4 : FnI := { code := (Try.f4.body.getD .skip), nt := 40, res := [.tmp 2], live := [(0, [0]), (1, [0, 10]), (2, [2]), (3, [0, 3, 4]), (4, [0, 3, 4, 5]), (5, [0, 3, 4, 5, 6, 7]), (6, [0, 5, 34]), (7, [2]), (8, [39]), (9, [2]), (10, [2])], nl := [], rn := [] }
noncomputable def fi5 : FnI := { code := (Try.f5.body.getD .skip), nt := 29, res := [.tmp 4], live := [(0, [0, 1]), (1, [0, 1, 5, 6]), (2, [5, 6, 7, 8]), (3, [28]), (4, [4]), (5, [4])], nl := [], rn := [] }
noncomputable def fi6 : FnI := { code := (Try.f6.body.getD .skip), nt := 50, res := [.tmp 4], live := [(0, [0, 1]), (1, [0, 1, 14]), (2, [4]), (3, [0, 1, 5, 6, 7]), (4, [0, 1, 5, 6, 7, 8]), (5, [0, 5, 6, 7, 8, 9, 10, 11]), (6, [0, 8, 44]), (7, [4]), (8, [49]), (9, [4]), (10, [4])], nl := [], rn := [] }
noncomputable def fi7 : FnI := { code := (Try.f7.body.getD .skip), nt := 45, res := [.tmp 4], live := [(0, [2, 3]), (1, [2, 3, 5]), (2, [2, 3, 5]), (3, [2, 3, 5, 14]), (4, [4]), (5, [2, 3, 5]), (6, [2, 3, 19]), (7, [4]), (8, [2, 3, 6]), (9, [2, 3, 6, 7]), (10, [2, 3, 6, 7, 8]), (11, [2, 3, 6, 7, 8, 9]), (12, [2, 3, 7, 8, 34]), (13, [4]), (14, [3, 8, 39]), (15, [4]), (16, [44]), (17, [4]), (18, [4])], nl := [], rn := [] }
noncomputable def fi8 : FnI := { code := (Try.f8.body.getD .skip), nt := 98, res := [.tmp 4], live := [(0, [0, 1]), (1, [0, 1, 17]), (2, [4]), (3, [0, 1, 5, 6]), (4, [0, 1, 5, 6, 7]), (5, [0, 1, 5, 6, 7, 8, 9]), (6, [0, 1, 5, 6, 7, 8, 9, 41]), (7, [4]), (8, [0, 1, 5, 6, 7, 8, 9, 46]), (9, [4]), (10, [0, 1, 5, 6, 7, 8, 9, 10]), (11, [0, 1, 5, 6, 8, 9, 10]), (12, [0, 1, 5, 6, 8, 62]), (13, [4]), (14, [0, 1, 5, 6, 8, 11]), (15, [0, 1, 5, 6, 8, 11]), (16, [0, 1, 5, 6, 8, 11, 12]), (17, [0, 1, 5, 6, 8, 11, 12]), (18, [0, 1, 5, 6, 8, 11, 12, 70]), (19, [4]), (20, [0, 1, 5, 6, 8, 11, 73]), (21, [4]), (22, [5, 6, 8, 11, 13, 14]), (23, [8, 11, 89]), (24, [4]), (25, [8, 11, 12]), (26, [11, 12]), (27, [11, 12, 94]), (28, [4]), (29, [97]), (30, [4]), (31, [4])], nl := [], rn := [] }
noncomputable def fi9 : FnI := { code := (Try.f9.body.getD .skip), nt := 13, res := [.tmp 4], live := [(0, [0, 1]), (1, [4])], nl := [], rn := [] }
noncomputable def fi10 : FnI := { code := (Try.f10.body.getD .skip), nt := 8, res := [.cell 2 30], live := [(0, [0, 2]), (1, [2, 3]), (2, [2])], nl := [], rn := [(.fl .f32, 1), (.fl .f32, 1), (.fl .f32, 1), (.fl .f32, 3), (.gen, 1), (.gen, 1), (.gen, 1)] }
noncomputable def fi11 : FnI := { code := (Try.f11.body.getD .skip), nt := 25, res := [.tmp 6], live := [(0, [0, 1, 2]), (1, [0, 1, 2, 8]), (2, [6]), (3, [0, 1, 2, 12]), (4, [6]), (5, [6])], nl := [], rn := [] }
noncomputable def fi12 : FnI := { code := (Try.f12.body.getD .skip), nt := 25, res := [.tmp 10, .tmp 11], live := [(0, [1, 2, 3, 4, 5]), (1, [1, 2, 3, 4, 5, 17]), (2, [10, 11]), (3, [10, 11])], nl := [], rn := [] }
noncomputable def fi13 : FnI := { code := (Try.f13.body.getD .skip), nt := 48, res := [.tmp 10, .tmp 11], live := [(0, [1, 2, 3, 4, 5]), (1, [1, 2, 3, 4, 5, 23]), (2, [10, 11]), (3, [1, 2, 3, 4, 5, 12, 13]), (4, [1, 2, 3, 4, 5, 12, 13, 24]), (5, [1, 2, 3, 4, 5, 12, 13, 24, 25]), (6, [1, 2, 3, 4, 5, 12, 13, 14, 24]), (7, [1, 2, 3, 4, 5, 12, 13, 14, 15, 16, 24]), (8, [1, 2, 3, 4, 5, 12, 13, 14, 15, 24, 41]), (9, [10, 11]), (10, [1, 2, 3, 4, 5, 12, 13, 14, 24, 43]), (11, [1, 2, 3, 4, 5, 12, 13, 24]), (12, [1, 2, 3, 4, 5, 12, 13, 24]), (13, [1, 2, 3, 4, 5, 12, 13, 24]), (14, [10, 11])], nl := [], rn := [] }
noncomputable def fi14 : FnI := { code := (Try.f14.body.getD .skip), nt := 8, res := [.tmp 4], live := [(0, [0, 1]), (1, [4])], nl := [], rn := [] }
noncomputable def fi15 : FnI := { code := (Try.f15.body.getD .skip), nt := 36, res := [.tmp 12, .tmp 13], live := [(0, [1, 2, 3, 4, 5, 6]), (1, [1, 2, 3, 4, 5, 6, 25]), (2, [12, 13]), (3, [12, 13])], nl := [], rn := [] }
noncomputable def fi16 : FnI := { code := (Try.f16.body.getD .skip), nt := 55, res := [.tmp 8, .tmp 9, .tmp 10], live := [(0, [1, 2, 3, 4]), (1, [1, 2, 3, 4, 43]), (2, [8, 9, 10]), (3, [8, 9, 10])], nl := [], rn := [] }
noncomputable def fi17 : FnI := { code := (Try.f17.body.getD .skip), nt := 21, res := [.tmp 4, .tmp 5], live := [(0, [1, 2]), (1, [1, 2, 14]), (2, [4, 5]), (3, [4, 5])], nl := [], rn := [] }
noncomputable def fi18 : FnI := { code := (Try.f18.body.getD .skip), nt := 29, res := [.tmp 6, .tmp 7], live := [(0, [1, 2, 3]), (1, [1, 2, 3, 21]), (2, [6, 7]), (3, [6, 7])], nl := [], rn := [] }
noncomputable def fi19 : FnI := { code := (Try.f19.body.getD .skip), nt := 5, res := [.tmp 2], live := [(0, [0]), (1, [2])], nl := [], rn := [] }
noncomputable def fi20 : FnI := { code := (Try.f20.body.getD .skip), nt := 48, res := [.tmp 10, .tmp 11, .tmp 12], live := [(0, [1, 2, 3, 4, 5]), (1, [1, 4, 5, 13, 14]), (2, [1, 4, 5, 13, 27]), (3, [10, 11, 12]), (4, [15, 16]), (5, [10, 11, 12])], nl := [], rn := [] }
noncomputable def fi21 : FnI := { code := (Try.f21.body.getD .skip), nt := 14, res := [.tmp 4], live := [(0, [0, 1]), (1, [0, 1, 7]), (2, [4]), (3, [4])], nl := [], rn := [] }
noncomputable def fi22 : FnI := { code := (Try.f22.body.getD .skip), nt := 99, res := [.tmp 12, .tmp 13, .tmp 14], live := [(0, [1, 2, 3, 4, 5, 6]), (1, [1, 2, 3, 4, 5, 6, 15, 16]), (2, [1, 2, 3, 4, 5, 6, 15, 40]), (3, [12, 13, 14]), (4, [1, 2, 3, 4, 5, 6, 15, 17, 18]), (5, [1, 2, 3, 5, 6, 17, 18, 19, 20]), (6, [1, 5, 6, 19, 20, 21, 22]), (7, [19, 20, 23]), (8, [12, 13, 14])], nl := [], rn := [] }
noncomputable def fi23 : FnI := { code := (Try.f23.body.getD .skip), nt := 12, res := [.tmp 2, .tmp 3], live := [(0, [0]), (1, [0, 6]), (2, [2, 3]), (3, [2, 3])], nl := [], rn := [] }
noncomputable def fi24 : FnI := { code := (Try.f24.body.getD .skip), nt := 22, res := [.tmp 2], live := [(0, [0]), (1, [0, 3]), (2, [0, 3, 4]), (3, [0, 3, 4, 11]), (4, [0, 3, 4]), (5, [0, 3, 4]), (6, [2])], nl := [], rn := [(.fl .f32, 1)] }
noncomputable def fi25 : FnI := { code := (Try.f25.body.getD .skip), nt := 12, res := [.tmp 2, .tmp 3], live := [(0, [0]), (1, [0, 6]), (2, [2, 3]), (3, [2, 3])], nl := [], rn := [] }
noncomputable def fi26 : FnI := { code := (Try.f26.body.getD .skip), nt := 37, res := [.tmp 4], live := [(0, [0, 1]), (1, [0, 1, 12]), (2, [4]), (3, [0, 1, 26]), (4, [4]), (5, [4])], nl := [], rn := [] }
noncomputable def fi27 : FnI := { code := (Try.f27.body.getD .skip), nt := 29, res := [.tmp 4], live := [(0, [0, 1]), (1, [0, 1, 10]), (2, [4]), (3, [0, 1, 5]), (4, [0, 1, 5, 14]), (5, [0, 1, 5]), (6, [0, 1, 5, 28]), (7, [4]), (8, [4])], nl := [], rn := [] }
noncomputable def fi28 : FnI := { code := (Try.f28.body.getD .skip), nt := 17, res := [.tmp 4, .tmp 5], live := [(0, [0, 1]), (1, [0, 1, 13]), (2, [4, 5]), (3, [4, 5])], nl := [], rn := [] }
noncomputable def fi29 : FnI := { code := (Try.f29.body.getD .skip), nt := 17, res := [.tmp 4, .tmp 5], live := [(0, [0, 1]), (1, [0, 1, 13]), (2, [4, 5]), (3, [4, 5])], nl := [], rn := [] }
noncomputable def fi30 : FnI := { code := (Try.f30.body.getD .skip), nt := 38, res := [.tmp 4, .tmp 5, .tmp 6], live := [(0, [0, 1]), (1, [0, 1, 13]), (2, [4, 5, 6]), (3, [0, 1, 7]), (4, [0, 1, 7, 8]), (5, [0, 1, 7, 8, 9]), (6, [0, 1, 7, 8, 9, 10]), (7, [0, 1, 7, 8, 9, 10, 17]), (8, [0, 1, 7, 8, 9, 10]), (9, [0, 1, 7, 8, 9, 10, 26]), (10, [0, 1, 7, 8, 9, 10]), (11, [0, 1, 7, 8, 9, 10, 28]), (12, [0, 1, 7, 8, 9, 10]), (13, [0, 1, 7, 8, 9, 10]), (14, [0, 1, 7, 8, 9, 10]), (15, [4, 5, 6])], nl := [], rn := [] }
noncomputable def fi31 : FnI := { code := (Try.f31.body.getD .skip), nt := 37, res := [.tmp 4, .tmp 5, .tmp 6], live := [(0, [0, 1]), (1, [0, 1, 14]), (2, [4, 5, 6]), (3, [0, 1, 7, 8, 9]), (4, [1, 7, 8, 9, 15, 16, 17]), (5, [1, 7, 8, 9, 15, 16, 17, 18]), (6, [1, 7, 8, 9, 11, 15, 16, 17]), (7, [1, 7, 8, 9, 15, 16, 17, 24]), (8, [1, 7, 8, 9, 15, 16, 17]), (9, [1, 7, 8, 9, 15, 16, 17, 26]), (10, [1, 7, 8, 9, 15, 16, 17]), (11, [1, 7, 8, 9, 15, 16, 17]), (12, [1, 7, 8, 9, 15, 16, 17]), (13, [1, 7, 8, 9, 15, 16, 17]), (14, [4, 5, 6])], nl := [], rn := [] }
noncomputable def fi32 : FnI := { code := (Try.f32.body.getD .skip), nt := 18, res := [.tmp 4], live := [(0, [1, 2]), (1, [1, 2]), (2, [1, 2, 10]), (3, [4]), (4, [1]), (5, [1, 16]), (6, [4]), (7, [4])], nl := [], rn := [] }
noncomputable def fi33 : FnI := { code := (Try.f33.body.getD .skip), nt := 17, res := [.tmp 4], live := [(0, [2, 3]), (1, [4])], nl := [], rn := [] }
noncomputable def fi34 : FnI := { code := (Try.f34.body.getD .skip), nt := 13, res := [.cell 2 63], live := [(0, [1, 2]), (1, [1, 2, 3]), (2, [1, 2, 3]), (3, [2, 3]), (4, [2])], nl := [], rn := [(.fl .f32, 1), (.fl .f32, 1)] }
noncomputable def fi35 : FnI := { code := (Try.f35.body.getD .skip), nt := 17, res := [.tmp 4], live := [(0, [2, 3]), (1, [4])], nl := [], rn := [] }
noncomputable def fi36 : FnI := { code := (Try.f36.body.getD .skip), nt := 17, res := [.tmp 4], live := [(0, [2, 3]), (1, [2, 3, 10]), (2, [4]), (3, [16]), (4, [4]), (5, [4])], nl := [], rn := [] }
noncomputable def fi37 : FnI := { code := (Try.f37.body.getD .skip), nt := 21, res := [.tmp 4, .tmp 5], live := [(0, [0, 1]), (1, [0, 1, 15]), (2, [4, 5]), (3, [4, 5])], nl := [], rn := [(.fl .f32, 1), (.gen, 1)] }
noncomputable def fi38 : FnI := { code := (Try.f38.body.getD .skip), nt := 42, res := [.tmp 4, .tmp 5], live := [(0, [0, 1]), (1, [0, 1, 17]), (2, [4, 5]), (3, [0, 1, 6]), (4, [0, 1, 6, 23, 24]), (5, [0, 1, 6, 23, 24, 25]), (6, [0, 1, 6, 7, 23, 24]), (7, [0, 1, 6, 23, 24]), (8, [0, 1, 6, 23, 24]), (9, [4, 5])], nl := [(5, (.fl .f32, 1))], rn := [(.fl .f32, 1), (.gen, 1)] }
noncomputable def fi39 : FnI := { code := (Try.f39.body.getD .skip), nt := 20, res := [.tmp 4], live := [(0, [0, 1]), (1, [0, 1, 5]), (2, [0, 1, 5, 9]), (3, [0, 1, 5]), (4, [0, 1, 5]), (5, [0, 1, 5]), (6, [4])], nl := [], rn := [] }
noncomputable def fi40 : FnI := { code := (Try.f40.body.getD .skip), nt := 22, res := [.tmp 4], live := [(0, [0, 1]), (1, [0, 1, 5]), (2, [0, 1, 5, 9]), (3, [0, 1, 5]), (4, [0, 1, 5, 18]), (5, [4]), (6, [0, 1, 5]), (7, [4])], nl := [], rn := [] }
noncomputable def fi41 : FnI := { code := (Try.f41.body.getD .skip), nt := 6, res := [.tmp 2], live := [(0, [0]), (1, [2])], nl := [], rn := [] }
noncomputable def fi42 : FnI := { code := (Try.f42.body.getD .skip), nt := 61, res := [.cell 2 30], live := [(0, [0, 2]), (1, [0, 2, 3]), (2, [0, 2, 3, 4]), (3, [0, 2, 3, 4, 5]), (4, [0, 2, 3, 4, 5, 23]), (5, [0, 2, 3, 4, 5]), (6, [0, 2, 3, 4, 5]), (7, [0, 2, 3, 4, 5, 6]), (8, [0, 2, 3, 4, 5, 6]), (9, [0, 2, 3, 4, 5]), (10, [2, 3]), (11, [2])], nl := [(4, (.fl .f32, 3))], rn := [(.fl .f32, 1), (.fl .f32, 1), (.fl .f32, 1), (.fl .f32, 3), (.gen, 1), (.gen, 1), (.gen, 1)] }
noncomputable def fi43 : FnI := { code := (Try.f43.body.getD .skip), nt := 32, res := [.tmp 10], live := [(0, [0, 1, 2, 3, 4]), (1, [10])], nl := [], rn := [] }
noncomputable def fi44 : FnI := { code := (Try.f44.body.getD .skip), nt := 40, res := [.tmp 10, .tmp 11], live := [(0, [0, 1, 2, 3, 4]), (1, [0, 1, 2, 3, 4, 12]), (2, [0, 1, 2, 3, 4, 12, 13]), (3, [0, 1, 2, 3, 4, 12, 13, 14]), (4, [0, 1, 2, 3, 4, 12, 13, 14, 18]), (5, [0, 1, 2, 3, 4, 12, 13, 14]), (6, [0, 1, 2, 3, 4, 12, 13, 14, 15]), (7, [0, 1, 2, 3, 4, 12, 13, 14, 15, 16]), (8, [0, 1, 2, 3, 4, 12, 13, 14, 15, 16, 34]), (9, [10, 11]), (10, [0, 1, 2, 3, 4, 12, 13, 14, 15, 36]), (11, [0, 1, 2, 3, 4, 12, 13, 14]), (12, [0, 1, 2, 3, 4, 12, 13, 14]), (13, [10, 11])], nl := [], rn := [] }
noncomputable def fi45 : FnI := { code := (Try.f45.body.getD .skip), nt := 40, res := [.tmp 10], live := [(0, [1, 2, 3, 4, 5]), (1, [10])], nl := [], rn := [] }
noncomputable def fi46 : FnI := { code := (Try.f46.body.getD .skip), nt := 10, res := [.tmp 4], live := [(0, [0, 1]), (1, [4])], nl := [], rn := [] }
noncomputable def fi47 : FnI := { code := (Try.f47.body.getD .skip), nt := 5, res := [.tmp 2], live := [(0, [0]), (1, [2])], nl := [], rn := [] }
noncomputable def fi48 : FnI := { code := (Try.f48.body.getD .skip), nt := 8, res := [.tmp 2, .tmp 3], live := [(0, [0]), (1, [0, 6]), (2, [2, 3]), (3, [2, 3])], nl := [], rn := [] }
noncomputable def fi49 : FnI := { code := (Try.f49.body.getD .skip), nt := 52, res := [.tmp 12], live := [(0, [1, 2, 3, 4, 5, 6]), (1, [1, 2, 3, 4, 6, 13, 14]), (2, [1, 3, 4, 6, 13, 14, 15, 16]), (3, [13, 14, 15, 16, 17]), (4, [12])], nl := [], rn := [] }
noncomputable def fi50 : FnI := { code := (Try.f50.body.getD .skip), nt := 77, res := [.tmp 2], live := [(0, [1]), (1, [1, 3]), (2, [1, 39]), (3, [2]), (4, [1, 4]), (5, [1, 4, 43, 44, 45]), (6, [1, 4, 43, 44, 45, 46]), (7, [1, 4, 6, 43, 44, 45]), (8, [1, 6, 43, 44, 45, 73]), (9, [2]), (10, [1, 4, 43, 44, 45]), (11, [1, 4, 43, 44, 45]), (12, [2])], nl := [], rn := [] }
noncomputable def fi51 : FnI := { code := (Try.f51.body.getD .skip), nt := 11, res := [.tmp 4], live := [(0, [1, 2]), (1, [4])], nl := [], rn := [] }
noncomputable def fi52 : FnI := { code := (Try.f52.body.getD .skip), nt := 7, res := [.tmp 2], live := [(0, [0]), (1, [2])], nl := [], rn := [] }
noncomputable def fi53 : FnI := { code := (Try.f53.body.getD .skip), nt := 14, res := [.tmp 4, .tmp 5, .tmp 6], live := [(0, [0, 1]), (1, [0, 1, 11]), (2, [4, 5, 6]), (3, [4, 5, 6])], nl := [], rn := [] }
noncomputable def fi54 : FnI := { code := (Try.f54.body.getD .skip), nt := 58, res := [.tmp 8, .tmp 9], live := [(0, [1, 2, 3, 4]), (1, [2, 4, 10]), (2, [2, 11, 12]), (3, [11, 12, 13, 14]), (4, [8, 9])], nl := [], rn := [] }
noncomputable def fi55 : FnI := { code := (Try.f55.body.getD .skip), nt := 23, res := [.tmp 4], live := [(0, [1, 2]), (1, [4])], nl := [], rn := [] }
noncomputable def fi56 : FnI := { code := (Try.f56.body.getD .skip), nt := 32, res := [.tmp 6], live := [(0, [1, 2, 3]), (1, [2, 3, 7]), (2, [2, 8]), (3, [6])], nl := [], rn := [] }
noncomputable def fi57 : FnI := { code := (Try.f57.body.getD .skip), nt := 7, res := [.tmp 2], live := [(0, [0]), (1, [2])], nl := [], rn := [] }
noncomputable def fi58 : FnI := { code := (Try.f58.body.getD .skip), nt := 53, res := [.tmp 8, .tmp 9], live := [(0, [1, 2, 3, 4]), (1, [1, 2, 4, 10, 11]), (2, [1, 2, 4, 10, 11, 12, 13, 14]), (3, [10, 11, 12, 13, 14, 15]), (4, [8, 9])], nl := [], rn := [] }
noncomputable def fi59 : FnI := { code := (Try.f59.body.getD .skip), nt := 6, res := [.tmp 2], live := [(0, [0]), (1, [2])], nl := [], rn := [] }
noncomputable def fi60 : FnI := { code := (Try.f60.body.getD .skip), nt := 29, res := [.tmp 2], live := [(0, [0]), (1, [0, 3]), (2, [0, 3, 12]), (3, [0, 3]), (4, [0, 3, 20]), (5, [2]), (6, [2])], nl := [], rn := [] }
noncomputable def fi61 : FnI := { code := (Try.f61.body.getD .skip), nt := 8, res := [.tmp 2, .tmp 3], live := [(0, [0]), (1, [0, 6]), (2, [2, 3]), (3, [2, 3])], nl := [], rn := [] }
noncomputable def fi62 : FnI := { code := (Try.f62.body.getD .skip), nt := 22, res := [.tmp 2], live := [(0, [0]), (1, [0, 3]), (2, [0, 3, 4]), (3, [0, 3, 4, 8]), (4, [0, 3, 4]), (5, [0, 3, 4]), (6, [2])], nl := [], rn := [] }
noncomputable def fi63 : FnI := { code := (Try.f63.body.getD .skip), nt := 15, res := [.tmp 2], live := [(0, [0]), (1, [2])], nl := [], rn := [] }
noncomputable def fi64 : FnI := { code := (Try.f64.body.getD .skip), nt := 9, res := [.tmp 2], live := [(0, [0]), (1, [2])], nl := [], rn := [] }
noncomputable def fi65 : FnI := { code := (Try.f65.body.getD .skip), nt := 9, res := [.tmp 2], live := [(0, [0]), (1, [2])], nl := [], rn := [] }
noncomputable def fi66 : FnI := { code := (Try.f66.body.getD .skip), nt := 15, res := [.tmp 6], live := [(0, [0, 1, 2]), (1, [6])], nl := [], rn := [] }
noncomputable def fi67 : FnI := { code := (Try.f67.body.getD .skip), nt := 21, res := [.tmp 4], live := [(0, [0, 1]), (1, [1, 5]), (2, [4])], nl := [], rn := [] }
noncomputable def fi68 : FnI := { code := (Try.f68.body.getD .skip), nt := 5, res := [.tmp 2], live := [(0, [0]), (1, [2])], nl := [], rn := [] }
noncomputable def fi69 : FnI := { code := (Try.f69.body.getD .skip), nt := 5, res := [.tmp 2], live := [(0, [0]), (1, [2])], nl := [], rn := [] }
noncomputable def fi70 : FnI := { code := (Try.f70.body.getD .skip), nt := 21, res := [.tmp 4], live := [(0, [0, 1]), (1, [1, 5]), (2, [4])], nl := [], rn := [] }
noncomputable def fi71 : FnI := { code := (Try.f71.body.getD .skip), nt := 10, res := [.tmp 4], live := [(0, [0, 1]), (1, [0, 1, 7]), (2, [4]), (3, [4])], nl := [], rn := [] }
noncomputable def fi72 : FnI := { code := (Try.f72.body.getD .skip), nt := 12, res := [.tmp 4], live := [(0, [0, 1]), (1, [1]), (2, [1, 10]), (3, [4]), (4, [4])], nl := [], rn := [] }
noncomputable def fi73 : FnI := { code := (Try.f73.body.getD .skip), nt := 27, res := [.tmp 4], live := [(0, [0, 1]), (1, [0, 1, 10]), (2, [4]), (3, [0, 1, 5]), (4, [0, 1, 5, 14]), (5, [0, 1, 5]), (6, [0, 1, 5, 26]), (7, [4]), (8, [4])], nl := [], rn := [] }
noncomputable def fi74 : FnI := { code := (Try.f74.body.getD .skip), nt := 8, res := [.tmp 4], live := [(0, [0, 1]), (1, [4])], nl := [], rn := [] }
noncomputable def fi75 : FnI := { code := (Try.f75.body.getD .skip), nt := 33, res := [.tmp 4, .tmp 5], live := [(0, [0, 1]), (1, [0, 1, 6]), (2, [0, 1, 6, 7]), (3, [0, 1, 6, 7, 15]), (4, [0, 1, 6, 7]), (5, [0, 1, 6, 7, 8]), (6, [0, 1, 6, 7, 8, 27]), (7, [4, 5]), (8, [0, 1, 6, 7]), (9, [4, 5])], nl := [(3, (.fl .f32, 1))], rn := [(.fl .f32, 1), (.gen, 1)] }
noncomputable def fi76 : FnI := { code := (Try.f76.body.getD .skip), nt := 15, res := [.tmp 6], live := [(0, [0, 1, 2]), (1, [6])], nl := [], rn := [] }
noncomputable def fi77 : FnI := { code := (Try.f77.body.getD .skip), nt := 8, res := [.tmp 2, .tmp 3], live := [(0, [0]), (1, [0, 6]), (2, [2, 3]), (3, [2, 3])], nl := [], rn := [(.fl .f32, 1), (.gen, 1)] }
noncomputable def fi78 : FnI := { code := (Try.f78.body.getD .skip), nt := 46, res := [.cell 2 26], live := [(0, [0, 2]), (1, [0, 2, 8]), (2, [2]), (3, [0, 2, 3]), (4, [0, 2, 3, 4]), (5, [0, 2, 3, 4, 5]), (6, [0, 2, 3, 4, 5, 23]), (7, [0, 2, 3, 4, 5]), (8, [0, 2, 3, 4, 5, 6]), (9, [0, 2, 3, 4, 5]), (10, [0, 2, 3, 4, 5]), (11, [2])], nl := [], rn := [(.fl .f32, 1), (.fl .f32, 1), (.fl .f32, 1)] }
noncomputable def fi79 : FnI := { code := (Try.f79.body.getD .skip), nt := 20, res := [.tmp 4], live := [(0, [0, 1]), (1, [0, 1, 7]), (2, [4]), (3, [0, 1, 5]), (4, [0, 1, 5, 11]), (5, [1, 5]), (6, [4])], nl := [], rn := [] }
noncomputable def fi80 : FnI := { code := (Try.f80.body.getD .skip), nt := 17, res := [.tmp 4], live := [(0, [0, 1]), (1, [4])], nl := [], rn := [] }
noncomputable def fi81 : FnI := { code := (Try.f81.body.getD .skip), nt := 9, res := [.tmp 2], live := [(0, [0]), (1, [2])], nl := [], rn := [] }
noncomputable def fi82 : FnI := { code := (Try.f82.body.getD .skip), nt := 7, res := [.tmp 2], live := [(0, [0]), (1, [2])], nl := [], rn := [] }
noncomputable def fi83 : FnI := { code := (Try.f83.body.getD .skip), nt := 33, res := [.tmp 6], live := [(0, [0, 1, 2]), (1, [6])], nl := [], rn := [] }
noncomputable def fi84 : FnI := { code := (Try.f84.body.getD .skip), nt := 58, res := [.tmp 12], live := [(0, [0, 1, 2, 3, 4, 5]), (1, [0, 1, 2, 3, 4, 13, 14]), (2, [0, 1, 2, 3, 4, 13, 14, 17]), (3, [0, 1, 3, 4, 13, 14, 17, 18]), (4, [13, 14, 17, 18, 19]), (5, [12])], nl := [], rn := [] }
noncomputable def fi85 : FnI := { code := (Try.f85.body.getD .skip), nt := 9, res := [.tmp 2], live := [(0, [0]), (1, [0, 5]), (2, [2]), (3, [2])], nl := [], rn := [] }
noncomputable def fi86 : FnI := { code := (Try.f86.body.getD .skip), nt := 15, res := [.tmp 6], live := [(0, [0, 1, 2]), (1, [6])], nl := [], rn := [] }
noncomputable def fi87 : FnI := { code := (Try.f87.body.getD .skip), nt := 17, res := [.tmp 2], live := [(0, [0]), (1, [0, 3]), (2, [2]), (3, [0, 9]), (4, [2]), (5, [2])], nl := [], rn := [] }
noncomputable def fi88 : FnI := { code := (Try.f88.body.getD .skip), nt := 67, res := [.tmp 2], live := [(0, [1]), (1, [1, 3]), (2, [1, 40]), (3, [2]), (4, [1, 42, 43, 44]), (5, [1, 42, 43, 44, 45]), (6, [1, 4, 5, 42, 43, 44]), (7, [1, 42, 43, 44, 65]), (8, [2]), (9, [1, 42, 43, 44]), (10, [2])], nl := [], rn := [] }
noncomputable def fi89 : FnI := { code := (Try.f89.body.getD .skip), nt := 9, res := [.tmp 2], live := [(0, [0]), (1, [2])], nl := [], rn := [] }
noncomputable def fi90 : FnI := { code := (Try.f90.body.getD .skip), nt := 6, res := [.tmp 2], live := [(0, [0]), (1, [2])], nl := [], rn := [] }
noncomputable def fi91 : FnI := { code := (Try.f91.body.getD .skip), nt := 42, res := [.tmp 6], live := [(0, [1, 2, 3]), (1, [1, 7, 8, 9, 10, 11]), (2, [1, 7, 8, 9, 10, 11, 12]), (3, [1, 7, 8, 9, 10, 11, 12, 24]), (4, [1, 7, 8, 12]), (5, [6])], nl := [], rn := [] }
noncomputable def fi92 : FnI := { code := (Try.f92.body.getD .skip), nt := 5, res := [.tmp 2], live := [(0, [0]), (1, [2])], nl := [], rn := [] }
noncomputable def fi93 : FnI := { code := (Try.f93.body.getD .skip), nt := 67, res := [.tmp 2], live := [(0, [0]), (1, [0, 12]), (2, [2]), (3, [0, 19]), (4, [2]), (5, [3]), (6, [3, 26]), (7, [3]), (8, [3, 4]), (9, [3, 4, 31]), (10, [3, 4]), (11, [3, 4, 35]), (12, [3, 4]), (13, [4, 5]), (14, [4, 5, 6]), (15, [4, 5, 6, 7]), (16, [4, 5, 6, 7, 8]), (17, [4, 5, 6, 7, 8, 44]), (18, [4, 5, 6, 7, 8]), (19, [4, 5, 6, 7, 8]), (20, [5, 7, 59]), (21, [2]), (22, [2])], nl := [], rn := [] }
noncomputable def fi94 : FnI := { code := (Try.f94.body.getD .skip), nt := 9, res := [.tmp 4], live := [(0, [0, 1]), (1, [4])], nl := [], rn := [] }
noncomputable def fi95 : FnI := { code := (Try.f95.body.getD .skip), nt := 10, res := [.tmp 2], live := [(0, [0]), (1, [2])], nl := [], rn := [] }
noncomputable def fi96 : FnI := { code := (Try.f96.body.getD .skip), nt := 9, res := [.tmp 2], live := [(0, [0]), (1, [2])], nl := [], rn := [] }
noncomputable def fi97 : FnI := { code := (Try.f97.body.getD .skip), nt := 6, res := [.tmp 2], live := [(0, [0]), (1, [2])], nl := [], rn := [] }
noncomputable def fi98 : FnI := { code := (Try.f98.body.getD .skip), nt := 17, res := [.tmp 2], live := [(0, [0]), (1, [0, 3]), (2, [3, 6, 7, 8]), (3, [3, 6, 7, 8, 9]), (4, [3, 5, 6, 7, 8]), (5, [3, 6, 7, 8]), (6, [3, 6, 7, 8]), (7, [2])], nl := [], rn := [] }
noncomputable def fi99 : FnI := { code := (Try.f99.body.getD .skip), nt := 7, res := [.tmp 2], live := [(0, [0]), (1, [2]), (2, [2])], nl := [], rn := [] }
noncomputable def fi100 : FnI := { code := (Try.f100.body.getD .skip), nt := 32, res := [.tmp 6], live := [(0, [0, 1, 2]), (1, [0, 1, 2, 14]), (2, [6]), (3, [1, 2, 15, 16, 17]), (4, [1, 2, 15, 16, 17, 18]), (5, [1, 2, 7, 8, 15, 16, 17]), (6, [1, 2, 8, 9, 15, 16, 17]), (7, [1, 2, 15, 16, 17, 30]), (8, [6]), (9, [1, 2, 15, 16, 17]), (10, [6])], nl := [], rn := [] }
noncomputable def fi101 : FnI := { code := (Try.f101.body.getD .skip), nt := 33, res := [.tmp 4], live := [(0, [0, 1]), (1, [0, 1, 12]), (2, [4]), (3, [4])], nl := [], rn := [] }
noncomputable def fi102 : FnI := { code := (Try.f102.body.getD .skip), nt := 9, res := [.tmp 4], live := [(0, [0, 1]), (1, [4])], nl := [], rn := [] }
noncomputable def fi103 : FnI := { code := (Try.f103.body.getD .skip), nt := 37, res := [.cell 2 26], live := [(0, [0, 2]), (1, [0, 2, 3]), (2, [0, 2, 3, 4]), (3, [0, 2, 3, 4, 11]), (4, [0, 2, 3, 4]), (5, [0, 2, 3, 4, 5]), (6, [0, 2, 3, 4, 5, 6]), (7, [0, 2, 3, 4, 5, 6, 7]), (8, [0, 2, 3, 4]), (9, [2])], nl := [], rn := [(.fl .f32, 1), (.fl .f32, 1), (.fl .f32, 1)] }
noncomputable def fi104 : FnI := { code := (Try.f104.body.getD .skip), nt := 5, res := [.cell 0 26], live := [(0, [0]), (1, [0])], nl := [], rn := [(.fl .f32, 1), (.fl .f32, 1), (.fl .f32, 1)] }
noncomputable def fi105 : FnI := { code := (Try.f105.body.getD .skip), nt := 38, res := [], live := [(0, [0, 2, 3]), (1, [0, 3]), (2, [])], nl := [], rn := [] }
noncomputable def fi106 : FnI := { code := (Try.f106.body.getD .skip), nt := 62, res := [.tmp 2], live := [(0, [0]), (1, [0, 3]), (2, [0, 3, 13]), (3, [0, 3]), (4, [0, 3]), (5, [0, 3]), (6, [0, 3, 53]), (7, [2]), (8, [2])], nl := [], rn := [] }
noncomputable def fi107 : FnI := { code := (Try.f107.body.getD .skip), nt := 98, res := [.tmp 2], live := [(0, [0]), (1, [0, 3]), (2, [0, 48]), (3, [2]), (4, [0, 4]), (5, [0, 4, 57, 58]), (6, [0, 4, 57, 58, 59]), (7, [0, 4, 5, 57, 58]), (8, [0, 4, 6, 57, 58]), (9, [0, 6, 57, 58, 94]), (10, [2]), (11, [0, 4, 57, 58]), (12, [0, 4, 57, 58]), (13, [2])], nl := [], rn := [] }
noncomputable def fi108 : FnI := { code := (Try.f108.body.getD .skip), nt := 64, res := [.tmp 8, .tmp 9, .tmp 10, .tmp 11], live := [(0, [0, 1, 2, 3]), (1, [0, 1, 2, 12, 13]), (2, [0, 1, 2, 12, 13, 14]), (3, [0, 1, 12, 13, 14, 15]), (4, [0, 1, 12, 13, 14, 15, 16]), (5, [12, 13, 14, 15, 16, 17]), (6, [12, 13, 14, 15, 16, 17, 18]), (7, [12, 13, 18, 19]), (8, [8, 9, 10, 11])], nl := [], rn := [] }
noncomputable def fi110 : FnI := { code := (Try.f110.body.getD .skip), nt := 2, res := [.tmp 0], live := [(0, []), (1, [0])], nl := [], rn := [] }
noncomputable def fi111 : FnI := { code := (Try.f111.body.getD .skip), nt := 6, res := [.tmp 2], live := [(0, [0]), (1, [2])], nl := [], rn := [] }
noncomputable def fi112 : FnI := { code := (Try.f112.body.getD .skip), nt := 47, res := [.tmp 2], live := [(0, [0]), (1, [3, 4]), (2, [3, 4, 12]), (3, [3, 4]), (4, [3, 4, 16]), (5, [3, 4]), (6, [4, 5]), (7, [4, 5, 6, 7]), (8, [4, 5, 6, 7, 8]), (9, [4, 5, 6, 7, 8, 25]), (10, [4, 5, 6, 7, 8]), (11, [4, 5, 6, 7, 8]), (12, [5, 7, 39]), (13, [2]), (14, [2])], nl := [], rn := [] }
noncomputable def fi113 : FnI := { code := (Try.f113.body.getD .skip), nt := 6, res := [.tmp 2], live := [(0, [0]), (1, [2])], nl := [], rn := [] }
noncomputable def fi114 : FnI := { code := (Try.f114.body.getD .skip), nt := 67, res := [.tmp 4, .tmp 5, .tmp 6, .tmp 7, .tmp 8], live := [(0, [1, 2]), (1, [2, 9, 10]), (2, [2, 9, 10, 11]), (3, [2, 9, 10, 11, 22]), (4, [4, 5, 6, 7, 8]), (5, [2, 9, 10, 11, 37]), (6, [4, 5, 6, 7, 8]), (7, [4, 5, 6, 7, 8])], nl := [], rn := [] }
noncomputable def fi115 : FnI := { code := (Try.f115.body.getD .skip), nt := 14, res := [.tmp 6], live := [(0, [0, 1, 2]), (1, [6])], nl := [], rn := [] }
noncomputable def fi116 : FnI := { code := (Try.f116.body.getD .skip), nt := 19, res := [.tmp 4], live := [(0, [0, 1]), (1, [0, 1, 7, 8]), (2, [0, 1, 7, 8, 9]), (3, [0, 1, 5, 7, 8]), (4, [0, 1, 5, 7, 8, 16]), (5, [4]), (6, [0, 1, 7, 8]), (7, [4])], nl := [], rn := [] }
noncomputable def fi117 : FnI := { code := (Try.f117.body.getD .skip), nt := 6, res := [.tmp 2], live := [(0, [0]), (1, [2])], nl := [], rn := [] }
noncomputable def fi119 : FnI := { code := (Try.f119.body.getD .skip), nt := 38, res := [.tmp 2], live := [(0, [0]), (1, [0, 16]), (2, [2]), (3, [0, 19]), (4, [3, 4]), (5, [3, 27]), (6, [3]), (7, [2]), (8, [5]), (9, [2])], nl := [], rn := [] }
noncomputable def fi120 : FnI := { code := (Try.f120.body.getD .skip), nt := 7, res := [.tmp 2], live := [(0, [0]), (1, [2])], nl := [], rn := [] }
noncomputable def fi121 : FnI := { code := (Try.f121.body.getD .skip), nt := 100, res := [.tmp 2], live := [(0, [0]), (1, [0, 3]), (2, [0, 3, 33]), (3, [2]), (4, [0, 3, 4]), (5, [0, 3, 4, 36]), (6, [0, 3, 4]), (7, [0, 3, 4, 79]), (8, [2]), (9, [0, 3, 4, 99]), (10, [2]), (11, [2])], nl := [], rn := [] }
noncomputable def fi122 : FnI := { code := (Try.f122.body.getD .skip), nt := 56, res := [.tmp 8, .tmp 9], live := [(0, [0, 1, 2, 3]), (1, [0, 2, 10]), (2, [0, 2, 10, 11]), (3, [2, 11, 12]), (4, [2, 11, 12, 13]), (5, [11, 12, 13, 14]), (6, [8, 9])], nl := [], rn := [] }
noncomputable def fi123 : FnI := { code := (Try.f123.body.getD .skip), nt := 38, res := [.tmp 6], live := [(0, [0, 1, 2]), (1, [0, 2, 7]), (2, [2, 8]), (3, [6])], nl := [], rn := [] }
noncomputable def fi124 : FnI := { code := (Try.f124.body.getD .skip), nt := 25, res := [.tmp 4], live := [(0, [0, 1]), (1, [0, 5]), (2, [4])], nl := [], rn := [] }
noncomputable def fi126 : FnI := { code := (Try.f126.body.getD .skip), nt := 7, res := [.tmp 2], live := [(0, [0]), (1, [2])], nl := [], rn := [] }
noncomputable def fi127 : FnI := { code := (Try.f127.body.getD .skip), nt := 17, res := [.tmp 2], live := [(0, [0]), (1, [0, 3]), (2, [0, 3, 8]), (3, [0, 3]), (4, [4]), (5, [4, 13]), (6, [4]), (7, [2])], nl := [], rn := [] }
noncomputable def fi128 : FnI := { code := (Try.f128.body.getD .skip), nt := 16, res := [.tmp 2], live := [(0, [0]), (1, [3]), (2, [4]), (3, [4, 14]), (4, [2]), (5, [2])], nl := [], rn := [] }
noncomputable def fi130 : FnI := { code := (Try.f130.body.getD .skip), nt := 6, res := [.tmp 2], live := [(0, [0]), (1, [2])], nl := [], rn := [] }
noncomputable def fi131 : FnI := { code := (Try.f131.body.getD .skip), nt := 15, res := [.tmp 4], live := [(0, [0, 1]), (1, [0, 1, 6]), (2, [0]), (3, [0, 10]), (4, [0]), (5, [4])], nl := [], rn := [] }
noncomputable def fi132 : FnI := { code := (Try.f132.body.getD .skip), nt := 11, res := [.tmp 2, .tmp 3], live := [(0, [0]), (1, [0, 2]), (2, [2, 3])], nl := [], rn := [] }
noncomputable def fi134 : FnI := { code := (Try.f134.body.getD .skip), nt := 12, res := [.tmp 4], live := [(0, [0, 1]), (1, [4])], nl := [], rn := [] }
noncomputable def fi135 : FnI := { code := (Try.f135.body.getD .skip), nt := 12, res := [.tmp 4], live := [(0, [0, 1]), (1, [4])], nl := [], rn := [] }
noncomputable def fi136 : FnI := { code := (Try.f136.body.getD .skip), nt := 7, res := [.tmp 2], live := [(0, [0]), (1, [2]), (2, [2])], nl := [], rn := [] }
noncomputable def fi137 : FnI := { code := (Try.f137.body.getD .skip), nt := 13, res := [.tmp 4], live := [(0, [0, 1]), (1, [4])], nl := [], rn := [] }
noncomputable def fi138 : FnI := { code := (Try.f138.body.getD .skip), nt := 35, res := [.tmp 6], live := [(0, [0, 1, 2]), (1, [1, 7, 8, 9]), (2, [6])], nl := [], rn := [] }
noncomputable def fi140 : FnI := { code := (Try.f140.body.getD .skip), nt := 26, res := [.tmp 2], live := [(0, [0]), (1, [0, 7]), (2, [2]), (3, [3]), (4, [3, 4]), (5, [3, 4, 17]), (6, [3]), (7, [2])], nl := [], rn := [] }
noncomputable def fi141 : FnI := { code := (Try.f141.body.getD .skip), nt := 91, res := [.tmp 4, .tmp 5, .tmp 6, .tmp 7], live := [(0, [0, 1]), (1, [0, 8]), (2, [0, 8, 9]), (3, [0, 8, 9, 10]), (4, [0, 8, 9, 10, 36]), (5, [0, 8, 9, 10]), (6, [0, 8, 9, 10, 11]), (7, [0, 8, 9, 10, 11, 42]), (8, [0, 8, 10]), (9, [0, 8, 10, 11]), (10, [0, 8, 10, 11, 47]), (11, [0, 8, 10, 11]), (12, [0, 8, 10, 11, 12]), (13, [8, 10, 11, 12, 13]), (14, [8, 10, 11, 12, 13, 68]), (15, [8, 10, 11, 12, 13]), (16, [8, 10, 11, 12, 13, 72]), (17, [8, 10, 11, 12, 13]), (18, [8, 10, 11, 12, 14]), (19, [8, 10, 11, 12, 14, 79]), (20, [4, 5, 6, 7]), (21, [4, 5, 6, 7])], nl := [], rn := [] }
noncomputable def fi142 : FnI := { code := (Try.f142.body.getD .skip), nt := 16, res := [.tmp 2], live := [(0, [0]), (1, [3]), (2, [4]), (3, [4, 14]), (4, [2]), (5, [2])], nl := [], rn := [] }
noncomputable def fnTab : List (Nat × FnI) := [(3, fi3), (4, fi4), (5, fi5), (6, fi6), (7, fi7), (8, fi8), (9, fi9), (10, fi10), (11, fi11), (12, fi12), (13, fi13), (14, fi14), (15, fi15), (16, fi16), (17, fi17), (18, fi18), (19, fi19), (20, fi20), (21, fi21), (22, fi22), (23, fi23), (24, fi24), (25, fi25), (26, fi26), (27, fi27), (28, fi28), (29, fi29), (30, fi30), (31, fi31), (32, fi32), (33, fi33), (34, fi34), (35, fi35), (36, fi36), (37, fi37), (38, fi38), (39, fi39), (40, fi40), (41, fi41), (42, fi42), (43, fi43), (44, fi44), (45, fi45), (46, fi46), (47, fi47), (48, fi48), (49, fi49), (50, fi50), (51, fi51), (52, fi52), (53, fi53), (54, fi54), (55, fi55), (56, fi56), (57, fi57), (58, fi58), (59, fi59), (60, fi60), (61, fi61), (62, fi62), (63, fi63), (64, fi64), (65, fi65), (66, fi66), (67, fi67), (68, fi68), (69, fi69), (70, fi70), (71, fi71), (72, fi72), (73, fi73), (74, fi74), (75, fi75), (76, fi76), (77, fi77), (78, fi78), (79, fi79), (80, fi80), (81, fi81), (82, fi82), (83, fi83), (84, fi84), (85, fi85), (86, fi86), (87, fi87), (88, fi88), (89, fi89), (90, fi90), (91, fi91), (92, fi92), (93, fi93), (94, fi94), (95, fi95), (96, fi96), (97, fi97), (98, fi98), (99, fi99), (100, fi100), (101, fi101), (102, fi102), (103, fi103), (104, fi104), (105, fi105), (106, fi106), (107, fi107), (108, fi108), (110, fi110), (111, fi111), (112, fi112), (113, fi113), (114, fi114), (115, fi115), (116, fi116), (117, fi117), (119, fi119), (120, fi120), (121, fi121), (122, fi122), (123, fi123), (124, fi124), (126, fi126), (127, fi127), (128, fi128), (130, fi130), (131, fi131), (132, fi132), (134, fi134), (135, fi135), (136, fi136), (137, fi137), (138, fi138), (140, fi140), (141, fi141), (142, fi142)]
theorem fi3_ok : FnOk Try.prog 3 fi3 := ⟨⟨Try.f3, Try.func3, by kernel_rfl, by kernel_rfl, by kernel_rfl, by kernel_rfl⟩, by kernel_rfl⟩
theorem fi4_ok : FnOk Try.prog 4 fi4 := ⟨⟨Try.f4, Try.func4, by kernel_rfl, by kernel_rfl, by kernel_rfl, by kernel_rfl⟩, by kernel_rfl⟩
theorem fi5_ok : FnOk Try.prog 5 fi5 := ⟨⟨Try.f5, Try.func5, by kernel_rfl, by kernel_rfl, by kernel_rfl, by kernel_rfl⟩, by kernel_rfl⟩
theorem fi6_ok : FnOk Try.prog 6 fi6 := ⟨⟨Try.f6, Try.func6, by kernel_rfl, by kernel_rfl, by kernel_rfl, by kernel_rfl⟩, by kernel_rfl⟩
theorem fi7_ok : FnOk Try.prog 7 fi7 := ⟨⟨Try.f7, Try.func7, by kernel_rfl, by kernel_rfl, by kernel_rfl, by kernel_rfl⟩, by kernel_rfl⟩
theorem fi8_ok : FnOk Try.prog 8 fi8 := ⟨⟨Try.f8, Try.func8, by kernel_rfl, by kernel_rfl, by kernel_rfl, by kernel_rfl⟩, by kernel_rfl⟩
theorem fi9_ok : FnOk Try.prog 9 fi9 := ⟨⟨Try.f9, Try.func9, by kernel_rfl, by kernel_rfl, by kernel_rfl, by kernel_rfl⟩, by kernel_rfl⟩
theorem fi10_ok : FnOk Try.prog 10 fi10 := ⟨⟨Try.f10, Try.func10, by kernel_rfl, by kernel_rfl, by kernel_rfl, by kernel_rfl⟩, by kernel_rfl⟩
theorem fi11_ok : FnOk Try.prog 11 fi11 := ⟨⟨Try.f11, Try.func11, by kernel_rfl, by kernel_rfl, by kernel_rfl, by kernel_rfl⟩, by kernel_rfl⟩
theorem fi12_ok : FnOk Try.prog 12 fi12 := ⟨⟨Try.f12, Try.func12, by kernel_rfl, by kernel_rfl, by kernel_rfl, by kernel_rfl⟩, by kernel_rfl⟩
theorem fi13_ok : FnOk Try.prog 13 fi13 := ⟨⟨Try.f13, Try.func13, by kernel_rfl, by kernel_rfl, by kernel_rfl, by kernel_rfl⟩, by kernel_rfl⟩
theorem fi14_ok : FnOk Try.prog 14 fi14 := ⟨⟨Try.f14, Try.func14, by kernel_rfl, by kernel_rfl, by kernel_rfl, by kernel_rfl⟩, by kernel_rfl⟩
theorem fi15_ok : FnOk Try.prog 15 fi15 := ⟨⟨Try.f15, Try.func15, by kernel_rfl, by kernel_rfl, by kernel_rfl, by kernel_rfl⟩, by kernel_rfl⟩
theorem fi16_ok : FnOk Try.prog 16 fi16 := ⟨⟨Try.f16, Try.func16, by kernel_rfl, by kernel_rfl, by kernel_rfl, by kernel_rfl⟩, by kernel_rfl⟩
theorem fi17_ok : FnOk Try.prog 17 fi17 := ⟨⟨Try.f17, Try.func17, by kernel_rfl, by kernel_rfl, by kernel_rfl, by kernel_rfl⟩, by kernel_rfl⟩
theorem fi18_ok : FnOk Try.prog 18 fi18 := ⟨⟨Try.f18, Try.func18, by kernel_rfl, by kernel_rfl, by kernel_rfl, by kernel_rfl⟩, by kernel_rfl⟩
theorem fi19_ok : FnOk Try.prog 19 fi19 := ⟨⟨Try.f19, Try.func19, by kernel_rfl, by kernel_rfl, by kernel_rfl, by kernel_rfl⟩, by kernel_rfl⟩
theorem fi20_ok : FnOk Try.prog 20 fi20 := ⟨⟨Try.f20, Try.func20, by kernel_rfl, by kernel_rfl, by kernel_rfl, by kernel_rfl⟩, by kernel_rfl⟩
theorem fi21_ok : FnOk Try.prog 21 fi21 := ⟨⟨Try.f21, Try.func21, by kernel_rfl, by kernel_rfl, by kernel_rfl, by kernel_rfl⟩, by kernel_rfl⟩
theorem fi22_ok : FnOk Try.prog 22 fi22 := ⟨⟨Try.f22, Try.func22, by kernel_rfl, by kernel_rfl, by kernel_rfl, by kernel_rfl⟩, by kernel_rfl⟩
theorem fi23_ok : FnOk Try.prog 23 fi23 := ⟨⟨Try.f23, Try.func23, by kernel_rfl, by kernel_rfl, by kernel_rfl, by kernel_rfl⟩, by kernel_rfl⟩
theorem fi24_ok : FnOk Try.prog 24 fi24 := ⟨⟨Try.f24, Try.func24, by kernel_rfl, by kernel_rfl, by kernel_rfl, by kernel_rfl⟩, by kernel_rfl⟩
theorem fi25_ok : FnOk Try.prog 25 fi25 := ⟨⟨Try.f25, Try.func25, by kernel_rfl, by kernel_rfl, by kernel_rfl, by kernel_rfl⟩, by kernel_rfl⟩
theorem fi26_ok : FnOk Try.prog 26 fi26 := ⟨⟨Try.f26, Try.func26, by kernel_rfl, by kernel_rfl, by kernel_rfl, by kernel_rfl⟩, by kernel_rfl⟩
theorem fi27_ok : FnOk Try.prog 27 fi27 := ⟨⟨Try.f27, Try.func27, by kernel_rfl, by kernel_rfl, by kernel_rfl, by kernel_rfl⟩, by kernel_rfl⟩
theorem fi28_ok : FnOk Try.prog 28 fi28 := ⟨⟨Try.f28, Try.func28, by kernel_rfl, by kernel_rfl, by kernel_rfl, by kernel_rfl⟩, by kernel_rfl⟩
theorem fi29_ok : FnOk Try.prog 29 fi29 := ⟨⟨Try.f29, Try.func29, by kernel_rfl, by kernel_rfl, by kernel_rfl, by kernel_rfl⟩, by kernel_rfl⟩
theorem fi30_ok : FnOk Try.prog 30 fi30 := ⟨⟨Try.f30, Try.func30, by kernel_rfl, by kernel_rfl, by kernel_rfl, by kernel_rfl⟩, by kernel_rfl⟩
theorem fi31_ok : FnOk Try.prog 31 fi31 := ⟨⟨Try.f31, Try.func31, by kernel_rfl, by kernel_rfl, by kernel_rfl, by kernel_rfl⟩, by kernel_rfl⟩
theorem fi32_ok : FnOk Try.prog 32 fi32 := ⟨⟨Try.f32, Try.func32, by kernel_rfl, by kernel_rfl, by kernel_rfl, by kernel_rfl⟩, by kernel_rfl⟩
theorem fi33_ok : FnOk Try.prog 33 fi33 := ⟨⟨Try.f33, Try.func33, by kernel_rfl, by kernel_rfl, by kernel_rfl, by kernel_rfl⟩, by kernel_rfl⟩
theorem fi34_ok : FnOk Try.prog 34 fi34 := ⟨⟨Try.f34, Try.func34, by kernel_rfl, by kernel_rfl, by kernel_rfl, by kernel_rfl⟩, by kernel_rfl⟩
theorem fi35_ok : FnOk Try.prog 35 fi35 := ⟨⟨Try.f35, Try.func35, by kernel_rfl, by kernel_rfl, by kernel_rfl, by kernel_rfl⟩, by kernel_rfl⟩
theorem fi36_ok : FnOk Try.prog 36 fi36 := ⟨⟨Try.f36, Try.func36, by kernel_rfl, by kernel_rfl, by kernel_rfl, by kernel_rfl⟩, by kernel_rfl⟩
theorem fi37_ok : FnOk Try.prog 37 fi37 := ⟨⟨Try.f37, Try.func37, by kernel_rfl, by kernel_rfl, by kernel_rfl, by kernel_rfl⟩, by kernel_rfl⟩
theorem fi38_ok : FnOk Try.prog 38 fi38 := ⟨⟨Try.f38, Try.func38, by kernel_rfl, by kernel_rfl, by kernel_rfl, by kernel_rfl⟩, by kernel_rfl⟩
theorem fi39_ok : FnOk Try.prog 39 fi39 := ⟨⟨Try.f39, Try.func39, by kernel_rfl, by kernel_rfl, by kernel_rfl, by kernel_rfl⟩, by kernel_rfl⟩
theorem fi40_ok : FnOk Try.prog 40 fi40 := ⟨⟨Try.f40, Try.func40, by kernel_rfl, by kernel_rfl, by kernel_rfl, by kernel_rfl⟩, by kernel_rfl⟩
theorem fi41_ok : FnOk Try.prog 41 fi41 := ⟨⟨Try.f41, Try.func41, by kernel_rfl, by kernel_rfl, by kernel_rfl, by kernel_rfl⟩, by kernel_rfl⟩
theorem fi42_ok : FnOk Try.prog 42 fi42 := ⟨⟨Try.f42, Try.func42, by kernel_rfl, by kernel_rfl, by kernel_rfl, by kernel_rfl⟩, by kernel_rfl⟩
theorem fi43_ok : FnOk Try.prog 43 fi43 := ⟨⟨Try.f43, Try.func43, by kernel_rfl, by kernel_rfl, by kernel_rfl, by kernel_rfl⟩, by kernel_rfl⟩
theorem fi44_ok : FnOk Try.prog 44 fi44 := ⟨⟨Try.f44, Try.func44, by kernel_rfl, by kernel_rfl, by kernel_rfl, by kernel_rfl⟩, by kernel_rfl⟩
theorem fi45_ok : FnOk Try.prog 45 fi45 := ⟨⟨Try.f45, Try.func45, by kernel_rfl, by kernel_rfl, by kernel_rfl, by kernel_rfl⟩, by kernel_rfl⟩
theorem fi46_ok : FnOk Try.prog 46 fi46 := ⟨⟨Try.f46, Try.func46, by kernel_rfl, by kernel_rfl, by kernel_rfl, by kernel_rfl⟩, by kernel_rfl⟩
theorem fi47_ok : FnOk Try.prog 47 fi47 := ⟨⟨Try.f47, Try.func47, by kernel_rfl, by kernel_rfl, by kernel_rfl, by kernel_rfl⟩, by kernel_rfl⟩
theorem fi48_ok : FnOk Try.prog 48 fi48 := ⟨⟨Try.f48, Try.func48, by kernel_rfl, by kernel_rfl, by kernel_rfl, by kernel_rfl⟩, by kernel_rfl⟩
theorem fi49_ok : FnOk Try.prog 49 fi49 := ⟨⟨Try.f49, Try.func49, by kernel_rfl, by kernel_rfl, by kernel_rfl, by kernel_rfl⟩, by kernel_rfl⟩
theorem fi50_ok : FnOk Try.prog 50 fi50 := ⟨⟨Try.f50, Try.func50, by kernel_rfl, by kernel_rfl, by kernel_rfl, by kernel_rfl⟩, by kernel_rfl⟩
theorem fi51_ok : FnOk Try.prog 51 fi51 := ⟨⟨Try.f51, Try.func51, by kernel_rfl, by kernel_rfl, by kernel_rfl, by kernel_rfl⟩, by kernel_rfl⟩
theorem fi52_ok : FnOk Try.prog 52 fi52 := ⟨⟨Try.f52, Try.func52, by kernel_rfl, by kernel_rfl, by kernel_rfl, by kernel_rfl⟩, by kernel_rfl⟩
theorem fi53_ok : FnOk Try.prog 53 fi53 := ⟨⟨Try.f53, Try.func53, by kernel_rfl, by kernel_rfl, by kernel_rfl, by kernel_rfl⟩, by kernel_rfl⟩
theorem fi54_ok : FnOk Try.prog 54 fi54 := ⟨⟨Try.f54, Try.func54, by kernel_rfl, by kernel_rfl, by kernel_rfl, by kernel_rfl⟩, by kernel_rfl⟩
theorem fi55_ok : FnOk Try.prog 55 fi55 := ⟨⟨Try.f55, Try.func55, by kernel_rfl, by kernel_rfl, by kernel_rfl, by kernel_rfl⟩, by kernel_rfl⟩
theorem fi56_ok : FnOk Try.prog 56 fi56 := ⟨⟨Try.f56, Try.func56, by kernel_rfl, by kernel_rfl, by kernel_rfl, by kernel_rfl⟩, by kernel_rfl⟩
theorem fi57_ok : FnOk Try.prog 57 fi57 := ⟨⟨Try.f57, Try.func57, by kernel_rfl, by kernel_rfl, by kernel_rfl, by kernel_rfl⟩, by kernel_rfl⟩
theorem fi58_ok : FnOk Try.prog 58 fi58 := ⟨⟨Try.f58, Try.func58, by kernel_rfl, by kernel_rfl, by kernel_rfl, by kernel_rfl⟩, by kernel_rfl⟩
theorem fi59_ok : FnOk Try.prog 59 fi59 := ⟨⟨Try.f59, Try.func59, by kernel_rfl, by kernel_rfl, by kernel_rfl, by kernel_rfl⟩, by kernel_rfl⟩
theorem fi60_ok : FnOk Try.prog 60 fi60 := ⟨⟨Try.f60, Try.func60, by kernel_rfl, by kernel_rfl, by kernel_rfl, by kernel_rfl⟩, by kernel_rfl⟩
theorem fi61_ok : FnOk Try.prog 61 fi61 := ⟨⟨Try.f61, Try.func61, by kernel_rfl, by kernel_rfl, by kernel_rfl, by kernel_rfl⟩, by kernel_rfl⟩
theorem fi62_ok : FnOk Try.prog 62 fi62 := ⟨⟨Try.f62, Try.func62, by kernel_rfl, by kernel_rfl, by kernel_rfl, by kernel_rfl⟩, by kernel_rfl⟩
theorem fi63_ok : FnOk Try.prog 63 fi63 := ⟨⟨Try.f63, Try.func63, by kernel_rfl, by kernel_rfl, by kernel_rfl, by kernel_rfl⟩, by kernel_rfl⟩
theorem fi64_ok : FnOk Try.prog 64 fi64 := ⟨⟨Try.f64, Try.func64, by kernel_rfl, by kernel_rfl, by kernel_rfl, by kernel_rfl⟩, by kernel_rfl⟩
theorem fi65_ok : FnOk Try.prog 65 fi65 := ⟨⟨Try.f65, Try.func65, by kernel_rfl, by kernel_rfl, by kernel_rfl, by kernel_rfl⟩, by kernel_rfl⟩
theorem fi66_ok : FnOk Try.prog 66 fi66 := ⟨⟨Try.f66, Try.func66, by kernel_rfl, by kernel_rfl, by kernel_rfl, by kernel_rfl⟩, by kernel_rfl⟩
theorem fi67_ok : FnOk Try.prog 67 fi67 := ⟨⟨Try.f67, Try.func67, by kernel_rfl, by kernel_rfl, by kernel_rfl, by kernel_rfl⟩, by kernel_rfl⟩
theorem fi68_ok : FnOk Try.prog 68 fi68 := ⟨⟨Try.f68, Try.func68, by kernel_rfl, by kernel_rfl, by kernel_rfl, by kernel_rfl⟩, by kernel_rfl⟩
theorem fi69_ok : FnOk Try.prog 69 fi69 := ⟨⟨Try.f69, Try.func69, by kernel_rfl, by kernel_rfl, by kernel_rfl, by kernel_rfl⟩, by kernel_rfl⟩
theorem fi70_ok : FnOk Try.prog 70 fi70 := ⟨⟨Try.f70, Try.func70, by kernel_rfl, by kernel_rfl, by kernel_rfl, by kernel_rfl⟩, by kernel_rfl⟩
theorem fi71_ok : FnOk Try.prog 71 fi71 := ⟨⟨Try.f71, Try.func71, by kernel_rfl, by kernel_rfl, by kernel_rfl, by kernel_rfl⟩, by kernel_rfl⟩
theorem fi72_ok : FnOk Try.prog 72 fi72 := ⟨⟨Try.f72, Try.func72, by kernel_rfl, by kernel_rfl, by kernel_rfl, by kernel_rfl⟩, by kernel_rfl⟩
theorem fi73_ok : FnOk Try.prog 73 fi73 := ⟨⟨Try.f73, Try.func73, by kernel_rfl, by kernel_rfl, by kernel_rfl, by kernel_rfl⟩, by kernel_rfl⟩
theorem fi74_ok : FnOk Try.prog 74 fi74 := ⟨⟨Try.f74, Try.func74, by kernel_rfl, by kernel_rfl, by kernel_rfl, by kernel_rfl⟩, by kernel_rfl⟩
theorem fi75_ok : FnOk Try.prog 75 fi75 := ⟨⟨Try.f75, Try.func75, by kernel_rfl, by kernel_rfl, by kernel_rfl, by kernel_rfl⟩, by kernel_rfl⟩
theorem fi76_ok : FnOk Try.prog 76 fi76 := ⟨⟨Try.f76, Try.func76, by kernel_rfl, by kernel_rfl, by kernel_rfl, by kernel_rfl⟩, by kernel_rfl⟩
theorem fi77_ok : FnOk Try.prog 77 fi77 := ⟨⟨Try.f77, Try.func77, by kernel_rfl, by kernel_rfl, by kernel_rfl, by kernel_rfl⟩, by kernel_rfl⟩
theorem fi78_ok : FnOk Try.prog 78 fi78 := ⟨⟨Try.f78, Try.func78, by kernel_rfl, by kernel_rfl, by kernel_rfl, by kernel_rfl⟩, by kernel_rfl⟩
theorem fi79_ok : FnOk Try.prog 79 fi79 := ⟨⟨Try.f79, Try.func79, by kernel_rfl, by kernel_rfl, by kernel_rfl, by kernel_rfl⟩, by kernel_rfl⟩
theorem fi80_ok : FnOk Try.prog 80 fi80 := ⟨⟨Try.f80, Try.func80, by kernel_rfl, by kernel_rfl, by kernel_rfl, by kernel_rfl⟩, by kernel_rfl⟩
theorem fi81_ok : FnOk Try.prog 81 fi81 := ⟨⟨Try.f81, Try.func81, by kernel_rfl, by kernel_rfl, by kernel_rfl, by kernel_rfl⟩, by kernel_rfl⟩
theorem fi82_ok : FnOk Try.prog 82 fi82 := ⟨⟨Try.f82, Try.func82, by kernel_rfl, by kernel_rfl, by kernel_rfl, by kernel_rfl⟩, by kernel_rfl⟩
theorem fi83_ok : FnOk Try.prog 83 fi83 := ⟨⟨Try.f83, Try.func83, by kernel_rfl, by kernel_rfl, by kernel_rfl, by kernel_rfl⟩, by kernel_rfl⟩
theorem fi84_ok : FnOk Try.prog 84 fi84 := ⟨⟨Try.f84, Try.func84, by kernel_rfl, by kernel_rfl, by kernel_rfl, by kernel_rfl⟩, by kernel_rfl⟩
theorem fi85_ok : FnOk Try.prog 85 fi85 := ⟨⟨Try.f85, Try.func85, by kernel_rfl, by kernel_rfl, by kernel_rfl, by kernel_rfl⟩, by kernel_rfl⟩
theorem fi86_ok : FnOk Try.prog 86 fi86 := ⟨⟨Try.f86, Try.func86, by kernel_rfl, by kernel_rfl, by kernel_rfl, by kernel_rfl⟩, by kernel_rfl⟩
theorem fi87_ok : FnOk Try.prog 87 fi87 := ⟨⟨Try.f87, Try.func87, by kernel_rfl, by kernel_rfl, by kernel_rfl, by kernel_rfl⟩, by kernel_rfl⟩
theorem fi88_ok : FnOk Try.prog 88 fi88 := ⟨⟨Try.f88, Try.func88, by kernel_rfl, by kernel_rfl, by kernel_rfl, by kernel_rfl⟩, by kernel_rfl⟩
theorem fi89_ok : FnOk Try.prog 89 fi89 := ⟨⟨Try.f89, Try.func89, by kernel_rfl, by kernel_rfl, by kernel_rfl, by kernel_rfl⟩, by kernel_rfl⟩
theorem fi90_ok : FnOk Try.prog 90 fi90 := ⟨⟨Try.f90, Try.func90, by kernel_rfl, by kernel_rfl, by kernel_rfl, by kernel_rfl⟩, by kernel_rfl⟩
theorem fi91_ok : FnOk Try.prog 91 fi91 := ⟨⟨Try.f91, Try.func91, by kernel_rfl, by kernel_rfl, by kernel_rfl, by kernel_rfl⟩, by kernel_rfl⟩
theorem fi92_ok : FnOk Try.prog 92 fi92 := ⟨⟨Try.f92, Try.func92, by kernel_rfl, by kernel_rfl, by kernel_rfl, by kernel_rfl⟩, by kernel_rfl⟩
theorem fi93_ok : FnOk Try.prog 93 fi93 := ⟨⟨Try.f93, Try.func93, by kernel_rfl, by kernel_rfl, by kernel_rfl, by kernel_rfl⟩, by kernel_rfl⟩
theorem fi94_ok : FnOk Try.prog 94 fi94 := ⟨⟨Try.f94, Try.func94, by kernel_rfl, by kernel_rfl, by kernel_rfl, by kernel_rfl⟩, by kernel_rfl⟩
theorem fi95_ok : FnOk Try.prog 95 fi95 := ⟨⟨Try.f95, Try.func95, by kernel_rfl, by kernel_rfl, by kernel_rfl, by kernel_rfl⟩, by kernel_rfl⟩
theorem fi96_ok : FnOk Try.prog 96 fi96 := ⟨⟨Try.f96, Try.func96, by kernel_rfl, by kernel_rfl, by kernel_rfl, by kernel_rfl⟩, by kernel_rfl⟩
theorem fi97_ok : FnOk Try.prog 97 fi97 := ⟨⟨Try.f97, Try.func97, by kernel_rfl, by kernel_rfl, by kernel_rfl, by kernel_rfl⟩, by kernel_rfl⟩
theorem fi98_ok : FnOk Try.prog 98 fi98 := ⟨⟨Try.f98, Try.func98, by kernel_rfl, by kernel_rfl, by kernel_rfl, by kernel_rfl⟩, by kernel_rfl⟩
theorem fi99_ok : FnOk Try.prog 99 fi99 := ⟨⟨Try.f99, Try.func99, by kernel_rfl, by kernel_rfl, by kernel_rfl, by kernel_rfl⟩, by kernel_rfl⟩
theorem fi100_ok : FnOk Try.prog 100 fi100 := ⟨⟨Try.f100, Try.func100, by kernel_rfl, by kernel_rfl, by kernel_rfl, by kernel_rfl⟩, by kernel_rfl⟩
theorem fi101_ok : FnOk Try.prog 101 fi101 := ⟨⟨Try.f101, Try.func101, by kernel_rfl, by kernel_rfl, by kernel_rfl, by kernel_rfl⟩, by kernel_rfl⟩
theorem fi102_ok : FnOk Try.prog 102 fi102 := ⟨⟨Try.f102, Try.func102, by kernel_rfl, by kernel_rfl, by kernel_rfl, by kernel_rfl⟩, by kernel_rfl⟩
theorem fi103_ok : FnOk Try.prog 103 fi103 := ⟨⟨Try.f103, Try.func103, by kernel_rfl, by kernel_rfl, by kernel_rfl, by kernel_rfl⟩, by kernel_rfl⟩
theorem fi104_ok : FnOk Try.prog 104 fi104 := ⟨⟨Try.f104, Try.func104, by kernel_rfl, by kernel_rfl, by kernel_rfl, by kernel_rfl⟩, by kernel_rfl⟩
theorem fi105_ok : FnOk Try.prog 105 fi105 := ⟨⟨Try.f105, Try.func105, by kernel_rfl, by kernel_rfl, by kernel_rfl, by kernel_rfl⟩, by kernel_rfl⟩
theorem fi106_ok : FnOk Try.prog 106 fi106 := ⟨⟨Try.f106, Try.func106, by kernel_rfl, by kernel_rfl, by kernel_rfl, by kernel_rfl⟩, by kernel_rfl⟩
theorem fi107_ok : FnOk Try.prog 107 fi107 := ⟨⟨Try.f107, Try.func107, by kernel_rfl, by kernel_rfl, by kernel_rfl, by kernel_rfl⟩, by kernel_rfl⟩
theorem fi108_ok : FnOk Try.prog 108 fi108 := ⟨⟨Try.f108, Try.func108, by kernel_rfl, by kernel_rfl, by kernel_rfl, by kernel_rfl⟩, by kernel_rfl⟩
theorem fi110_ok : FnOk Try.prog 110 fi110 := ⟨⟨Try.f110, Try.func110, by kernel_rfl, by kernel_rfl, by kernel_rfl, by kernel_rfl⟩, by kernel_rfl⟩
theorem fi111_ok : FnOk Try.prog 111 fi111 := ⟨⟨Try.f111, Try.func111, by kernel_rfl, by kernel_rfl, by kernel_rfl, by kernel_rfl⟩, by kernel_rfl⟩
theorem fi112_ok : FnOk Try.prog 112 fi112 := ⟨⟨Try.f112, Try.func112, by kernel_rfl, by kernel_rfl, by kernel_rfl, by kernel_rfl⟩, by kernel_rfl⟩
theorem fi113_ok : FnOk Try.prog 113 fi113 := ⟨⟨Try.f113, Try.func113, by kernel_rfl, by kernel_rfl, by kernel_rfl, by kernel_rfl⟩, by kernel_rfl⟩
theorem fi114_ok : FnOk Try.prog 114 fi114 := ⟨⟨Try.f114, Try.func114, by kernel_rfl, by kernel_rfl, by kernel_rfl, by kernel_rfl⟩, by kernel_rfl⟩
theorem fi115_ok : FnOk Try.prog 115 fi115 := ⟨⟨Try.f115, Try.func115, by kernel_rfl, by kernel_rfl, by kernel_rfl, by kernel_rfl⟩, by kernel_rfl⟩
theorem fi116_ok : FnOk Try.prog 116 fi116 := ⟨⟨Try.f116, Try.func116, by kernel_rfl, by kernel_rfl, by kernel_rfl, by kernel_rfl⟩, by kernel_rfl⟩
theorem fi117_ok : FnOk Try.prog 117 fi117 := ⟨⟨Try.f117, Try.func117, by kernel_rfl, by kernel_rfl, by kernel_rfl, by kernel_rfl⟩, by kernel_rfl⟩
theorem fi119_ok : FnOk Try.prog 119 fi119 := ⟨⟨Try.f119, Try.func119, by kernel_rfl, by kernel_rfl, by kernel_rfl, by kernel_rfl⟩, by kernel_rfl⟩
theorem fi120_ok : FnOk Try.prog 120 fi120 := ⟨⟨Try.f120, Try.func120, by kernel_rfl, by kernel_rfl, by kernel_rfl, by kernel_rfl⟩, by kernel_rfl⟩
theorem fi121_ok : FnOk Try.prog 121 fi121 := ⟨⟨Try.f121, Try.func121, by kernel_rfl, by kernel_rfl, by kernel_rfl, by kernel_rfl⟩, by kernel_rfl⟩
theorem fi122_ok : FnOk Try.prog 122 fi122 := ⟨⟨Try.f122, Try.func122, by kernel_rfl, by kernel_rfl, by kernel_rfl, by kernel_rfl⟩, by kernel_rfl⟩
theorem fi123_ok : FnOk Try.prog 123 fi123 := ⟨⟨Try.f123, Try.func123, by kernel_rfl, by kernel_rfl, by kernel_rfl, by kernel_rfl⟩, by kernel_rfl⟩
theorem fi124_ok : FnOk Try.prog 124 fi124 := ⟨⟨Try.f124, Try.func124, by kernel_rfl, by kernel_rfl, by kernel_rfl, by kernel_rfl⟩, by kernel_rfl⟩
theorem fi126_ok : FnOk Try.prog 126 fi126 := ⟨⟨Try.f126, Try.func126, by kernel_rfl, by kernel_rfl, by kernel_rfl, by kernel_rfl⟩, by kernel_rfl⟩
theorem fi127_ok : FnOk Try.prog 127 fi127 := ⟨⟨Try.f127, Try.func127, by kernel_rfl, by kernel_rfl, by kernel_rfl, by kernel_rfl⟩, by kernel_rfl⟩
theorem fi128_ok : FnOk Try.prog 128 fi128 := ⟨⟨Try.f128, Try.func128, by kernel_rfl, by kernel_rfl, by kernel_rfl, by kernel_rfl⟩, by kernel_rfl⟩
theorem fi130_ok : FnOk Try.prog 130 fi130 := ⟨⟨Try.f130, Try.func130, by kernel_rfl, by kernel_rfl, by kernel_rfl, by kernel_rfl⟩, by kernel_rfl⟩
theorem fi131_ok : FnOk Try.prog 131 fi131 := ⟨⟨Try.f131, Try.func131, by kernel_rfl, by kernel_rfl, by kernel_rfl, by kernel_rfl⟩, by kernel_rfl⟩
theorem fi132_ok : FnOk Try.prog 132 fi132 := ⟨⟨Try.f132, Try.func132, by kernel_rfl, by kernel_rfl, by kernel_rfl, by kernel_rfl⟩, by kernel_rfl⟩
theorem fi134_ok : FnOk Try.prog 134 fi134 := ⟨⟨Try.f134, Try.func134, by kernel_rfl, by kernel_rfl, by kernel_rfl, by kernel_rfl⟩, by kernel_rfl⟩
theorem fi135_ok : FnOk Try.prog 135 fi135 := ⟨⟨Try.f135, Try.func135, by kernel_rfl, by kernel_rfl, by kernel_rfl, by kernel_rfl⟩, by kernel_rfl⟩
theorem fi136_ok : FnOk Try.prog 136 fi136 := ⟨⟨Try.f136, Try.func136, by kernel_rfl, by kernel_rfl, by kernel_rfl, by kernel_rfl⟩, by kernel_rfl⟩
theorem fi137_ok : FnOk Try.prog 137 fi137 := ⟨⟨Try.f137, Try.func137, by kernel_rfl, by kernel_rfl, by kernel_rfl, by kernel_rfl⟩, by kernel_rfl⟩
theorem fi138_ok : FnOk Try.prog 138 fi138 := ⟨⟨Try.f138, Try.func138, by kernel_rfl, by kernel_rfl, by kernel_rfl, by kernel_rfl⟩, by kernel_rfl⟩
theorem fi140_ok : FnOk Try.prog 140 fi140 := ⟨⟨Try.f140, Try.func140, by kernel_rfl, by kernel_rfl, by kernel_rfl, by kernel_rfl⟩, by kernel_rfl⟩
theorem fi141_ok : FnOk Try.prog 141 fi141 := ⟨⟨Try.f141, Try.func141, by kernel_rfl, by kernel_rfl, by kernel_rfl, by kernel_rfl⟩, by kernel_rfl⟩
theorem fi142_ok : FnOk Try.prog 142 fi142 := ⟨⟨Try.f142, Try.func142, by kernel_rfl, by kernel_rfl, by kernel_rfl, by kernel_rfl⟩, by kernel_rfl⟩
theorem fnTab_ok : FnL Try.prog fnTab := FnL.cons fi3_ok (FnL.cons fi4_ok (FnL.cons fi5_ok (FnL.cons fi6_ok (FnL.cons fi7_ok (FnL.cons fi8_ok (FnL.cons fi9_ok (FnL.cons fi10_ok (FnL.cons fi11_ok (FnL.cons fi12_ok (FnL.cons fi13_ok (FnL.cons fi14_ok (FnL.cons fi15_ok (FnL.cons fi16_ok (FnL.cons fi17_ok (FnL.cons fi18_ok (FnL.cons fi19_ok (FnL.cons fi20_ok (FnL.cons fi21_ok (FnL.cons fi22_ok (FnL.cons fi23_ok (FnL.cons fi24_ok (FnL.cons fi25_ok (FnL.cons fi26_ok (FnL.cons fi27_ok (FnL.cons fi28_ok (FnL.cons fi29_ok (FnL.cons fi30_ok (FnL.cons fi31_ok (FnL.cons fi32_ok (FnL.cons fi33_ok (FnL.cons fi34_ok (FnL.cons fi35_ok (FnL.cons fi36_ok (FnL.cons fi37_ok (FnL.cons fi38_ok (FnL.cons fi39_ok (FnL.cons fi40_ok (FnL.cons fi41_ok (FnL.cons fi42_ok (FnL.cons fi43_ok (FnL.cons fi44_ok (FnL.cons fi45_ok (FnL.cons fi46_ok (FnL.cons fi47_ok (FnL.cons fi48_ok (FnL.cons fi49_ok (FnL.cons fi50_ok (FnL.cons fi51_ok (FnL.cons fi52_ok (FnL.cons fi53_ok (FnL.cons fi54_ok (FnL.cons fi55_ok (FnL.cons fi56_ok (FnL.cons fi57_ok (FnL.cons fi58_ok (FnL.cons fi59_ok (FnL.cons fi60_ok (FnL.cons fi61_ok (FnL.cons fi62_ok (FnL.cons fi63_ok (FnL.cons fi64_ok (FnL.cons fi65_ok (FnL.cons fi66_ok (FnL.cons fi67_ok (FnL.cons fi68_ok (FnL.cons fi69_ok (FnL.cons fi70_ok (FnL.cons fi71_ok (FnL.cons fi72_ok (FnL.cons fi73_ok (FnL.cons fi74_ok (FnL.cons fi75_ok (FnL.cons fi76_ok (FnL.cons fi77_ok (FnL.cons fi78_ok (FnL.cons fi79_ok (FnL.cons fi80_ok (FnL.cons fi81_ok (FnL.cons fi82_ok (FnL.cons fi83_ok (FnL.cons fi84_ok (FnL.cons fi85_ok (FnL.cons fi86_ok (FnL.cons fi87_ok (FnL.cons fi88_ok (FnL.cons fi89_ok (FnL.cons fi90_ok (FnL.cons fi91_ok (FnL.cons fi92_ok (FnL.cons fi93_ok (FnL.cons fi94_ok (FnL.cons fi95_ok (FnL.cons fi96_ok (FnL.cons fi97_ok (FnL.cons fi98_ok (FnL.cons fi99_ok (FnL.cons fi100_ok (FnL.cons fi101_ok (FnL.cons fi102_ok (FnL.cons fi103_ok (FnL.cons fi104_ok (FnL.cons fi105_ok (FnL.cons fi106_ok (FnL.cons fi107_ok (FnL.cons fi108_ok (FnL.cons fi110_ok (FnL.cons fi111_ok (FnL.cons fi112_ok (FnL.cons fi113_ok (FnL.cons fi114_ok (FnL.cons fi115_ok (FnL.cons fi116_ok (FnL.cons fi117_ok (FnL.cons fi119_ok (FnL.cons fi120_ok (FnL.cons fi121_ok (FnL.cons fi122_ok (FnL.cons fi123_ok (FnL.cons fi124_ok (FnL.cons fi126_ok (FnL.cons fi127_ok (FnL.cons fi128_ok (FnL.cons fi130_ok (FnL.cons fi131_ok (FnL.cons fi132_ok (FnL.cons fi134_ok (FnL.cons fi135_ok (FnL.cons fi136_ok (FnL.cons fi137_ok (FnL.cons fi138_ok (FnL.cons fi140_ok (FnL.cons fi141_ok (FnL.cons fi142_ok (FnL.nil))))))))))))))))))))))))))))))))))))))))))))))))))))))))))))))))))))))))))))))))))))))))))))))))))))))))))))))))))))))))))))))))))))))
theorem mixed : Try.prog.follows .mixedOrders = true := by kernel_rfl
end Go.Proofs.Ytohhkgieggfpeab
