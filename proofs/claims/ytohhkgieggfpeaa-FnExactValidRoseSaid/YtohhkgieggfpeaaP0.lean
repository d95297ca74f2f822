/-
  What functions answer, as plain functions. Printed by a program.
-/
import Derived.Test.YtohhkgieggfpeaaF2
set_option linter.unusedVariables false
set_option maxRecDepth 100000
set_option maxHeartbeats 4000000
namespace Go.Rf
open Go

end Go.Rf
