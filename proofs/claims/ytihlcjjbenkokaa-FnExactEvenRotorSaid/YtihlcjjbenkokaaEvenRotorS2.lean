/-
  What functions answer: that the evaluator answers so. Printed by a program.
-/
import Derived.Test.YtihlcjjbenkokaaEvenRotorS1
set_option linter.unusedVariables false
set_option linter.unusedSimpArgs false
set_option maxRecDepth 100000
set_option maxHeartbeats 4000000
namespace Go.Proofs.Ytihlcjjbenkokaa
open Go Go.Rf
noncomputable def tb35 : List (Nat × (List PT → Option (Bool × AV × List Blk))) := [(125, z25), (128, z0q), (134, z1c), (137, z24), (18, z2e), (48, z1x), (54, z2x), (61, z2c), (63, z3s), (64, z3l), (66, z3k), (97, z2w), (104, z0m), (14, z2j), (67, z1q), (103, z32), (105, z2i), (111, z3d), (114, z33), (118, z1p), (122, z13), (52, z28), (72, z1g), (79, z1i), (119, z29), (16, z30), (36, z20), (57, z2g), (19, z37), (33, z36), (62, z41), (69, z2r), (99, z0d), (99, z08), (30, z3q), (99, z0h), (117, z0c), (117, z0f), (117, z05), (91, z47), (95, z3i), (96, z3p), (112, z31), (53, z3a), (28, z3w), (87, z3x), (29, z4d), (8, z8d)]
noncomputable def lt35 : List ((Nat × Nat) × (Nat → St → Option (Bool × LO))) := [((52, 3), z18), ((72, 2), z0x), ((79, 2), z0v), ((57, 4), z1d), ((62, 5), z3f), ((69, 4), z1k), ((99, 2), z03), ((99, 2), z01), ((99, 2), z09), ((91, 6), z3o), ((53, 5), z26), ((28, 5), z3e), ((87, 6), z3h), ((29, 5), z44), ((70, 2), z19), ((70, 2), z1o), ((70, 2), z2k), ((70, 2), z3g), ((70, 2), z3y), ((70, 2), z4e), ((71, 2), z5j)]
noncomputable def Γ35 : Ctx := ⟨tyTab, fnTab, tblSum tb35, tblLp lt35⟩
theorem tb35_ok : SumL Try.prog tb35 := SumL.cons z1b (SumL.cons z0j (SumL.cons z0z (SumL.cons z1a (SumL.cons z1f (SumL.cons z17 (SumL.cons z1w (SumL.cons z1h (SumL.cons z39 (SumL.cons z2t (SumL.cons z2s (SumL.cons z1v (SumL.cons z0i (SumL.cons z1r (SumL.cons z15 (SumL.cons z22 (SumL.cons z1s (SumL.cons z2f (SumL.cons z21 (SumL.cons z14 (SumL.cons z0s (SumL.cons z1j (SumL.cons z11 (SumL.cons z12 (SumL.cons z1l (SumL.cons z23 (SumL.cons z1e (SumL.cons z1t (SumL.cons z2b (SumL.cons z2d (SumL.cons z3m (SumL.cons z1y (SumL.cons z0b (SumL.cons z06 (SumL.cons z3b (SumL.cons z0g (SumL.cons z0a (SumL.cons z0e (SumL.cons z04 (SumL.cons z3v (SumL.cons z35 (SumL.cons z3c (SumL.cons z2a (SumL.cons z2v (SumL.cons z3n (SumL.cons z3r (SumL.cons z48 (SumL.cons za1 (SumL.nil))))))))))))))))))))))))))))))))))))))))))))))))
theorem lt35_ok : LpL Try.prog fnTab lt35 := LpL.cons z0t (LpL.cons z0k (LpL.cons z0l (LpL.cons z0y (LpL.cons z2h (LpL.cons z10 (LpL.cons z02 (LpL.cons z00 (LpL.cons z07 (LpL.cons z38 (LpL.cons z1m (LpL.cons z2u (LpL.cons z34 (LpL.cons z3u (LpL.cons z16 (LpL.cons z1n (LpL.cons z2q (LpL.cons z3j (LpL.cons z42 (LpL.cons z4m (LpL.cons z62 (LpL.nil)))))))))))))))))))))
end Go.Proofs.Ytihlcjjbenkokaa
