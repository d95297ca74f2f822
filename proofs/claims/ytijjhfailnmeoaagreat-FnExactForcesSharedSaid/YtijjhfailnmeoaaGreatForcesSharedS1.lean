import Derived.Test.YtijjhfailnmeoaaGreatForcesSharedS0
set_option linter.unusedVariables false
set_option linter.unusedSimpArgs false
set_option linter.unusedSectionVars false
set_option maxRecDepth 100000
set_option maxHeartbeats 4000000
namespace Go.Proofs.YtijjhfailnmeoaaGreat
open Go Go.Rf
variable {J:Jd Tryz.prog}
noncomputable section
theorem zbg:LoopOne J fnTab 39 2 z6f:=lpK y83 y8c (fi:=fi39) (by kernel_rfl) (by kernel_rfl) (q:=fun hs=>(z1x (hN hs 0) (hI hs 1) (hI hs 2) (hLn hs 3) (hLn hs 4) (hLn hs 5) (hLn hs 6) (hN hs 7) (hN hs 8) (hN hs 9) (hN hs 10) (hI hs 11) (hN hs 12) (hN hs 13) (hLn hs 14) (hLn hs 15) (hN hs 16) (hN hs 17) (hN hs 18) (hN hs 19) (hI hs 20) (hN hs 21) (hN hs 22) (hLn hs 23) (hLn hs 24) (hLn hs 25) (hLn hs 26) (hLn hs 27) (hLn hs 28) (hN hs 29) (hN hs 30) (hN hs 31) (hN hs 32) (hI hs 33) (hN hs 34) (hN hs 35) (hN hs 36) (hN hs 37) (hN hs 38))) (fun hs=>by kernel_rfl) fun hs h1=>Eq.trans (zds (hN hs 0) (hLn hs 3) (hLn hs 4) (hLn hs 5) (hLn hs 6) (hN hs 7) (hN hs 8) (hN hs 9) (hN hs 10) (hI hs 11) (hN hs 12) (hN hs 13) (hLn hs 14) (hLn hs 15) (hN hs 16) (hN hs 17) (hN hs 18) (hN hs 19) (hI hs 20) (hN hs 21) (hN hs 22) (hLn hs 24) (hLn hs 25) (hLn hs 26) (hLn hs 27) (hLn hs 28) (hN hs 29) (hN hs 30) (hN hs 31) (hN hs 32) (hI hs 33) (hN hs 34) (hN hs 35) (hN hs 36) (hN hs 37) (hN hs 38) big (hI hs 1) (hI hs 2) (hLn hs 23)) (zdm (hN hs 0) (hLn hs 3) (hLn hs 4) (hLn hs 5) (hLn hs 6) (hN hs 7) (hN hs 8) (hN hs 9) (hN hs 10) (hI hs 11) (hN hs 12) (hN hs 13) (hLn hs 14) (hLn hs 15) (hN hs 16) (hN hs 17) (hN hs 18) (hN hs 19) (hI hs 20) (hN hs 21) (hN hs 22) (hLn hs 24) (hLn hs 25) (hLn hs 26) (hLn hs 27) (hLn hs 28) (hN hs 29) (hN hs 30) (hN hs 31) (hN hs 32) (hI hs 33) (hN hs 34) (hN hs 35) (hN hs 36) (hN hs 37) (hN hs 38) _ h1)
end
end Go.Proofs.YtijjhfailnmeoaaGreat
