/-
  What functions answer: that the evaluator answers so. Printed by a program.
-/
import Derived.Test.YtdmbbllcgpicbaaPlateProfileS0
set_option linter.unusedVariables false
set_option linter.unusedSimpArgs false
set_option maxRecDepth 100000
set_option maxHeartbeats 4000000
namespace Go.Proofs.Ytdmbbllcgpicbaa
open Go Go.Rf
theorem tb34_ok : SumL Try.prog tb34 := SumL.cons z0s (SumL.cons z0f (SumL.cons z0r (SumL.cons z0x (SumL.cons z12 (SumL.cons z2g (SumL.cons z13 (SumL.cons z21 (SumL.cons z1e (SumL.cons z1f (SumL.cons z22 (SumL.cons z33 (SumL.cons z15 (SumL.cons z34 (SumL.cons z1l (SumL.cons z1x (SumL.cons z0v (SumL.cons z29 (SumL.cons z0t (SumL.cons z16 (SumL.cons z2p (SumL.cons z1b (SumL.cons z11 (SumL.cons z10 (SumL.cons z1a (SumL.cons z1w (SumL.cons z2z (SumL.cons z2f (SumL.cons z06 (SumL.cons z0a (SumL.cons z04 (SumL.cons z08 (SumL.cons z3g (SumL.cons z2b (SumL.cons z2n (SumL.cons z2c (SumL.cons z2m (SumL.cons z1s (SumL.cons z27 (SumL.cons z30 (SumL.cons z3b (SumL.nil)))))))))))))))))))))))))))))))))))))))))
theorem lt34_ok : LpL Try.prog fnTab lt34 := LpL.cons z0i (LpL.cons z0q (LpL.cons z0k (LpL.cons z20 (LpL.cons z00 (LpL.cons z02 (LpL.cons z2j (LpL.cons z1o (LpL.cons z18 (LpL.cons z28 (LpL.cons z0g (LpL.cons z0l (LpL.cons z0u (LpL.nil)))))))))))))
end Go.Proofs.Ytdmbbllcgpicbaa
