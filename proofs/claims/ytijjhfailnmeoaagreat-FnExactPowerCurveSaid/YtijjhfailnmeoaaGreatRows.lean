/-
  No cell of these rows narrows 'for every input' (looked for: loops, veiled, ifaces, maps, wideKeys, modest, calm, conditions, laid).
  DERIVED. THE GIVEN ROWS OF THIS SEAT. 11 by the template 'for every input the law returns true; each argument reads behind the call as it read before'; 0 by the template 'total and deterministic' (their statements: YtijjhfailnmeoaaGreatTotals.lean).
  GIVEN WITH THE SEED: the statements are not yours to turn. If you find one false, say at which input.
  Laid BY PROGRAM, IN A SANDBOX (cutbox-rows.mjs): the forced cells as the released guide's own fill.sh prints them over the translation c3313feeda881446… (all of the seat's roots in one cut). By AI agents, Wed Nov 11 2026. No macro, syntax, notation, axiom, sorry.
-/
import Derived.Test.YtijjhfailnmeoaaGreatChecked
import GoSem.Claim
import GoSem.ClaimJoined
import GoSem.ClaimMapViews
import Derived.JoinedTies
import Derived.KernelRfl
namespace Go.Proofs.YtijjhfailnmeoaaGreat
/- THE CELL 'sum', in the pinned program and in every row, IS THE sha256 OF THE DUMP (.gsa) THAT YtijjhfailnmeoaaGreatProg.lean LOADS. Nothing in Lean hashes anything: it is a label: what it is worth is what the hold of that sum in a sandbox is worth. -/
noncomputable def Tryz.pinned : Pinned := { name := "ytijjhfailnmeoaagreat", sum := "c3313feeda8814460d4b1adcd552afa97973fe12e89093139845fb4adb308ca6", checked := Tryz.checked }
namespace Rows
def none {H : Type} : Left H := { results := [], args := [] }

/-- 'laws.FnSummed': WHATEVER THE INPUT: true; the input reads as it did. -/
def fnSummedSpec : ChangeSpec := { name := "fnSummed", fn := fun _ => fun
  | [d1, d2] => { results := [.lit (.bool true)], args := [d1, d2] }
  | _ => none }
def fnSummedRow : OpenClaim := { program := "ytijjhfailnmeoaagreat", sum := "c3313feeda8814460d4b1adcd552afa97973fe12e89093139845fb4adb308ca6", func := "loop.example/g01256/laws.FnSummed", spec := "fnSummed", inPlace := ["math.Float64frombits", "math.archFloor", "math.Float64bits", "math.archTrunc", "(*sync.WaitGroup).Add", "internal/race.ReleaseMerge", "internal/race.Disable", "internal/race.Enable", "internal/synctest.IsInBubble", "internal/synctest.Associate[sync.WaitGroup]", "sync.fatal", "sync/atomic.OrUint64", "sync/atomic.AddUint64", "internal/race.Read", "sync/atomic.LoadUint64", "sync/atomic.StoreUint64", "internal/synctest.Disassociate[sync.WaitGroup]", "sync.runtime_Semrelease", "(*sync.WaitGroup).Done", "(*sync.WaitGroup).Wait", "internal/race.Acquire", "internal/synctest.IsAssociated[sync.WaitGroup]", "sync/atomic.CompareAndSwapUint64", "internal/race.Write", "sync.runtime_SemacquireWaitGroup", "math.Float32bits"], unfollowed := true, recurses := true, leaving := true, apart := false }
def FnSummedSaid : Prop := fnSummedRow.holds Tryz.pinned (OpenSpec.ofChange fnSummedSpec)

/-- ITS FALSE NEIGHBOUR: 'it returns false'. Refute it at one input. -/
def fnSummedWrong : ChangeSpec := { name := "fnSummed", fn := fun _ => fun
  | [d1, d2] => { results := [.lit (.bool false)], args := [d1, d2] }
  | _ => none }
def FnSummedWrongFalsely : Prop := fnSummedRow.holds Tryz.pinned (OpenSpec.ofChange fnSummedWrong)

/-- 'laws.FnForcesSharedOfAll': WHATEVER THE INPUT: true; the input reads as it did. -/
def fnForcesSharedOfAllSpec : ChangeSpec := { name := "fnForcesSharedOfAll", fn := fun _ => fun
  | [d1, d2, d3, d4, d5, d6, d7] => { results := [.lit (.bool true)], args := [d1, d2, d3, d4, d5, d6, d7] }
  | _ => none }
def fnForcesSharedOfAllRow : OpenClaim := { program := "ytijjhfailnmeoaagreat", sum := "c3313feeda8814460d4b1adcd552afa97973fe12e89093139845fb4adb308ca6", func := "loop.example/g01256/laws.FnForcesSharedOfAll", spec := "fnForcesSharedOfAll", inPlace := ["(*sync.WaitGroup).Add", "internal/race.ReleaseMerge", "internal/race.Disable", "internal/race.Enable", "internal/synctest.IsInBubble", "internal/synctest.Associate[sync.WaitGroup]", "sync.fatal", "sync/atomic.OrUint64", "sync/atomic.AddUint64", "internal/race.Read", "sync/atomic.LoadUint64", "sync/atomic.StoreUint64", "internal/synctest.Disassociate[sync.WaitGroup]", "sync.runtime_Semrelease", "(*sync.WaitGroup).Done", "math.archFloor", "math.Float64bits", "math.Float64frombits", "math.archTrunc", "(*sync.WaitGroup).Wait", "internal/race.Acquire", "internal/synctest.IsAssociated[sync.WaitGroup]", "sync/atomic.CompareAndSwapUint64", "internal/race.Write", "sync.runtime_SemacquireWaitGroup"], unfollowed := true, recurses := true, leaving := true, apart := false }
def FnForcesSharedOfAllSaid : Prop := fnForcesSharedOfAllRow.holds Tryz.pinned (OpenSpec.ofChange fnForcesSharedOfAllSpec)

/-- ITS FALSE NEIGHBOUR: 'it returns false'. Refute it at one input. -/
def fnForcesSharedOfAllWrong : ChangeSpec := { name := "fnForcesSharedOfAll", fn := fun _ => fun
  | [d1, d2, d3, d4, d5, d6, d7] => { results := [.lit (.bool false)], args := [d1, d2, d3, d4, d5, d6, d7] }
  | _ => none }
def FnForcesSharedOfAllWrongFalsely : Prop := fnForcesSharedOfAllRow.holds Tryz.pinned (OpenSpec.ofChange fnForcesSharedOfAllWrong)

/-- 'laws.FnExactThrustOf': WHATEVER THE INPUT: true; the input reads as it did. -/
def fnExactThrustOfSpec : ChangeSpec := { name := "fnExactThrustOf", fn := fun _ => fun
  | [d1, d2, d3, d4, d5] => { results := [.lit (.bool true)], args := [d1, d2, d3, d4, d5] }
  | _ => none }
def fnExactThrustOfRow : OpenClaim := { program := "ytijjhfailnmeoaagreat", sum := "c3313feeda8814460d4b1adcd552afa97973fe12e89093139845fb4adb308ca6", func := "loop.example/g01256/laws.FnExactThrustOf", spec := "fnExactThrustOf", inPlace := ["math.archFloor", "math.Float64bits", "math.Float64frombits", "math.archTrunc", "(*sync.WaitGroup).Add", "internal/race.ReleaseMerge", "internal/race.Disable", "internal/race.Enable", "internal/synctest.IsInBubble", "internal/synctest.Associate[sync.WaitGroup]", "sync.fatal", "sync/atomic.OrUint64", "sync/atomic.AddUint64", "internal/race.Read", "sync/atomic.LoadUint64", "sync/atomic.StoreUint64", "internal/synctest.Disassociate[sync.WaitGroup]", "sync.runtime_Semrelease", "(*sync.WaitGroup).Done", "(*sync.WaitGroup).Wait", "internal/race.Acquire", "internal/synctest.IsAssociated[sync.WaitGroup]", "sync/atomic.CompareAndSwapUint64", "internal/race.Write", "sync.runtime_SemacquireWaitGroup"], unfollowed := true, recurses := true, leaving := true, apart := false }
def FnExactThrustOfSaid : Prop := fnExactThrustOfRow.holds Tryz.pinned (OpenSpec.ofChange fnExactThrustOfSpec)

/-- ITS FALSE NEIGHBOUR: 'it returns false'. Refute it at one input. -/
def fnExactThrustOfWrong : ChangeSpec := { name := "fnExactThrustOf", fn := fun _ => fun
  | [d1, d2, d3, d4, d5] => { results := [.lit (.bool false)], args := [d1, d2, d3, d4, d5] }
  | _ => none }
def FnExactThrustOfWrongFalsely : Prop := fnExactThrustOfRow.holds Tryz.pinned (OpenSpec.ofChange fnExactThrustOfWrong)

/-- 'laws.FnExactForcesShared': WHATEVER THE INPUT: true; the input reads as it did. -/
def fnExactForcesSharedSpec : ChangeSpec := { name := "fnExactForcesShared", fn := fun _ => fun
  | [d1, d2, d3, d4, d5, d6] => { results := [.lit (.bool true)], args := [d1, d2, d3, d4, d5, d6] }
  | _ => none }
def fnExactForcesSharedRow : OpenClaim := { program := "ytijjhfailnmeoaagreat", sum := "c3313feeda8814460d4b1adcd552afa97973fe12e89093139845fb4adb308ca6", func := "loop.example/g01256/laws.FnExactForcesShared", spec := "fnExactForcesShared", inPlace := ["math.archFloor", "math.Float64bits", "math.Float64frombits", "math.archTrunc", "(*sync.WaitGroup).Add", "internal/race.ReleaseMerge", "internal/race.Disable", "internal/race.Enable", "internal/synctest.IsInBubble", "internal/synctest.Associate[sync.WaitGroup]", "sync.fatal", "sync/atomic.OrUint64", "sync/atomic.AddUint64", "internal/race.Read", "sync/atomic.LoadUint64", "sync/atomic.StoreUint64", "internal/synctest.Disassociate[sync.WaitGroup]", "sync.runtime_Semrelease", "(*sync.WaitGroup).Done", "(*sync.WaitGroup).Wait", "internal/race.Acquire", "internal/synctest.IsAssociated[sync.WaitGroup]", "sync/atomic.CompareAndSwapUint64", "internal/race.Write", "sync.runtime_SemacquireWaitGroup"], unfollowed := true, recurses := true, leaving := true, apart := false }
def FnExactForcesSharedSaid : Prop := fnExactForcesSharedRow.holds Tryz.pinned (OpenSpec.ofChange fnExactForcesSharedSpec)

/-- ITS FALSE NEIGHBOUR: 'it returns false'. Refute it at one input. -/
def fnExactForcesSharedWrong : ChangeSpec := { name := "fnExactForcesShared", fn := fun _ => fun
  | [d1, d2, d3, d4, d5, d6] => { results := [.lit (.bool false)], args := [d1, d2, d3, d4, d5, d6] }
  | _ => none }
def FnExactForcesSharedWrongFalsely : Prop := fnExactForcesSharedRow.holds Tryz.pinned (OpenSpec.ofChange fnExactForcesSharedWrong)

/-- 'laws.FnExactForcesOfRotor': WHATEVER THE INPUT: true; the input reads as it did. -/
def fnExactForcesOfRotorSpec : ChangeSpec := { name := "fnExactForcesOfRotor", fn := fun _ => fun
  | [d1, d2, d3, d4, d5] => { results := [.lit (.bool true)], args := [d1, d2, d3, d4, d5] }
  | _ => none }
def fnExactForcesOfRotorRow : OpenClaim := { program := "ytijjhfailnmeoaagreat", sum := "c3313feeda8814460d4b1adcd552afa97973fe12e89093139845fb4adb308ca6", func := "loop.example/g01256/laws.FnExactForcesOfRotor", spec := "fnExactForcesOfRotor", inPlace := ["math.archFloor", "math.Float64bits", "math.Float64frombits", "math.archTrunc", "(*sync.WaitGroup).Add", "internal/race.ReleaseMerge", "internal/race.Disable", "internal/race.Enable", "internal/synctest.IsInBubble", "internal/synctest.Associate[sync.WaitGroup]", "sync.fatal", "sync/atomic.OrUint64", "sync/atomic.AddUint64", "internal/race.Read", "sync/atomic.LoadUint64", "sync/atomic.StoreUint64", "internal/synctest.Disassociate[sync.WaitGroup]", "sync.runtime_Semrelease", "(*sync.WaitGroup).Done", "(*sync.WaitGroup).Wait", "internal/race.Acquire", "internal/synctest.IsAssociated[sync.WaitGroup]", "sync/atomic.CompareAndSwapUint64", "internal/race.Write", "sync.runtime_SemacquireWaitGroup"], unfollowed := true, recurses := true, leaving := true, apart := false }
def FnExactForcesOfRotorSaid : Prop := fnExactForcesOfRotorRow.holds Tryz.pinned (OpenSpec.ofChange fnExactForcesOfRotorSpec)

/-- ITS FALSE NEIGHBOUR: 'it returns false'. Refute it at one input. -/
def fnExactForcesOfRotorWrong : ChangeSpec := { name := "fnExactForcesOfRotor", fn := fun _ => fun
  | [d1, d2, d3, d4, d5] => { results := [.lit (.bool false)], args := [d1, d2, d3, d4, d5] }
  | _ => none }
def FnExactForcesOfRotorWrongFalsely : Prop := fnExactForcesOfRotorRow.holds Tryz.pinned (OpenSpec.ofChange fnExactForcesOfRotorWrong)

/-- 'laws.FnExactBendingOf': WHATEVER THE INPUT: true; the input reads as it did. -/
def fnExactBendingOfSpec : ChangeSpec := { name := "fnExactBendingOf", fn := fun _ => fun
  | [d1, d2, d3, d4, d5] => { results := [.lit (.bool true)], args := [d1, d2, d3, d4, d5] }
  | _ => none }
def fnExactBendingOfRow : OpenClaim := { program := "ytijjhfailnmeoaagreat", sum := "c3313feeda8814460d4b1adcd552afa97973fe12e89093139845fb4adb308ca6", func := "loop.example/g01256/laws.FnExactBendingOf", spec := "fnExactBendingOf", inPlace := ["math.archFloor", "math.Float64bits", "math.Float64frombits", "math.archTrunc", "(*sync.WaitGroup).Add", "internal/race.ReleaseMerge", "internal/race.Disable", "internal/race.Enable", "internal/synctest.IsInBubble", "internal/synctest.Associate[sync.WaitGroup]", "sync.fatal", "sync/atomic.OrUint64", "sync/atomic.AddUint64", "internal/race.Read", "sync/atomic.LoadUint64", "sync/atomic.StoreUint64", "internal/synctest.Disassociate[sync.WaitGroup]", "sync.runtime_Semrelease", "(*sync.WaitGroup).Done", "(*sync.WaitGroup).Wait", "internal/race.Acquire", "internal/synctest.IsAssociated[sync.WaitGroup]", "sync/atomic.CompareAndSwapUint64", "internal/race.Write", "sync.runtime_SemacquireWaitGroup"], unfollowed := true, recurses := true, leaving := true, apart := false }
def FnExactBendingOfSaid : Prop := fnExactBendingOfRow.holds Tryz.pinned (OpenSpec.ofChange fnExactBendingOfSpec)

/-- ITS FALSE NEIGHBOUR: 'it returns false'. Refute it at one input. -/
def fnExactBendingOfWrong : ChangeSpec := { name := "fnExactBendingOf", fn := fun _ => fun
  | [d1, d2, d3, d4, d5] => { results := [.lit (.bool false)], args := [d1, d2, d3, d4, d5] }
  | _ => none }
def FnExactBendingOfWrongFalsely : Prop := fnExactBendingOfRow.holds Tryz.pinned (OpenSpec.ofChange fnExactBendingOfWrong)

/-- 'laws.FnExactTorqueOf': WHATEVER THE INPUT: true; the input reads as it did. -/
def fnExactTorqueOfSpec : ChangeSpec := { name := "fnExactTorqueOf", fn := fun _ => fun
  | [d1, d2, d3, d4, d5] => { results := [.lit (.bool true)], args := [d1, d2, d3, d4, d5] }
  | _ => none }
def fnExactTorqueOfRow : OpenClaim := { program := "ytijjhfailnmeoaagreat", sum := "c3313feeda8814460d4b1adcd552afa97973fe12e89093139845fb4adb308ca6", func := "loop.example/g01256/laws.FnExactTorqueOf", spec := "fnExactTorqueOf", inPlace := ["math.archFloor", "math.Float64bits", "math.Float64frombits", "math.archTrunc", "(*sync.WaitGroup).Add", "internal/race.ReleaseMerge", "internal/race.Disable", "internal/race.Enable", "internal/synctest.IsInBubble", "internal/synctest.Associate[sync.WaitGroup]", "sync.fatal", "sync/atomic.OrUint64", "sync/atomic.AddUint64", "internal/race.Read", "sync/atomic.LoadUint64", "sync/atomic.StoreUint64", "internal/synctest.Disassociate[sync.WaitGroup]", "sync.runtime_Semrelease", "(*sync.WaitGroup).Done", "(*sync.WaitGroup).Wait", "internal/race.Acquire", "internal/synctest.IsAssociated[sync.WaitGroup]", "sync/atomic.CompareAndSwapUint64", "internal/race.Write", "sync.runtime_SemacquireWaitGroup"], unfollowed := true, recurses := true, leaving := true, apart := false }
def FnExactTorqueOfSaid : Prop := fnExactTorqueOfRow.holds Tryz.pinned (OpenSpec.ofChange fnExactTorqueOfSpec)

/-- ITS FALSE NEIGHBOUR: 'it returns false'. Refute it at one input. -/
def fnExactTorqueOfWrong : ChangeSpec := { name := "fnExactTorqueOf", fn := fun _ => fun
  | [d1, d2, d3, d4, d5] => { results := [.lit (.bool false)], args := [d1, d2, d3, d4, d5] }
  | _ => none }
def FnExactTorqueOfWrongFalsely : Prop := fnExactTorqueOfRow.holds Tryz.pinned (OpenSpec.ofChange fnExactTorqueOfWrong)

/-- 'laws.FnExactRotorPower': WHATEVER THE INPUT: true; the input reads as it did. -/
def fnExactRotorPowerSpec : ChangeSpec := { name := "fnExactRotorPower", fn := fun _ => fun
  | [d1, d2, d3, d4, d5] => { results := [.lit (.bool true)], args := [d1, d2, d3, d4, d5] }
  | _ => none }
def fnExactRotorPowerRow : OpenClaim := { program := "ytijjhfailnmeoaagreat", sum := "c3313feeda8814460d4b1adcd552afa97973fe12e89093139845fb4adb308ca6", func := "loop.example/g01256/laws.FnExactRotorPower", spec := "fnExactRotorPower", inPlace := ["math.archFloor", "math.Float64bits", "math.Float64frombits", "math.archTrunc", "(*sync.WaitGroup).Add", "internal/race.ReleaseMerge", "internal/race.Disable", "internal/race.Enable", "internal/synctest.IsInBubble", "internal/synctest.Associate[sync.WaitGroup]", "sync.fatal", "sync/atomic.OrUint64", "sync/atomic.AddUint64", "internal/race.Read", "sync/atomic.LoadUint64", "sync/atomic.StoreUint64", "internal/synctest.Disassociate[sync.WaitGroup]", "sync.runtime_Semrelease", "(*sync.WaitGroup).Done", "(*sync.WaitGroup).Wait", "internal/race.Acquire", "internal/synctest.IsAssociated[sync.WaitGroup]", "sync/atomic.CompareAndSwapUint64", "internal/race.Write", "sync.runtime_SemacquireWaitGroup"], unfollowed := true, recurses := true, leaving := true, apart := false }
def FnExactRotorPowerSaid : Prop := fnExactRotorPowerRow.holds Tryz.pinned (OpenSpec.ofChange fnExactRotorPowerSpec)

/-- ITS FALSE NEIGHBOUR: 'it returns false'. Refute it at one input. -/
def fnExactRotorPowerWrong : ChangeSpec := { name := "fnExactRotorPower", fn := fun _ => fun
  | [d1, d2, d3, d4, d5] => { results := [.lit (.bool false)], args := [d1, d2, d3, d4, d5] }
  | _ => none }
def FnExactRotorPowerWrongFalsely : Prop := fnExactRotorPowerRow.holds Tryz.pinned (OpenSpec.ofChange fnExactRotorPowerWrong)

/-- 'laws.FnExactBestSpeed': WHATEVER THE INPUT: true; the input reads as it did. -/
def fnExactBestSpeedSpec : ChangeSpec := { name := "fnExactBestSpeed", fn := fun _ => fun
  | [d1, d2, d3, d4, d5] => { results := [.lit (.bool true)], args := [d1, d2, d3, d4, d5] }
  | _ => none }
def fnExactBestSpeedRow : OpenClaim := { program := "ytijjhfailnmeoaagreat", sum := "c3313feeda8814460d4b1adcd552afa97973fe12e89093139845fb4adb308ca6", func := "loop.example/g01256/laws.FnExactBestSpeed", spec := "fnExactBestSpeed", inPlace := ["math.archFloor", "math.Float64bits", "math.Float64frombits", "math.archTrunc", "(*sync.WaitGroup).Add", "internal/race.ReleaseMerge", "internal/race.Disable", "internal/race.Enable", "internal/synctest.IsInBubble", "internal/synctest.Associate[sync.WaitGroup]", "sync.fatal", "sync/atomic.OrUint64", "sync/atomic.AddUint64", "internal/race.Read", "sync/atomic.LoadUint64", "sync/atomic.StoreUint64", "internal/synctest.Disassociate[sync.WaitGroup]", "sync.runtime_Semrelease", "(*sync.WaitGroup).Done", "(*sync.WaitGroup).Wait", "internal/race.Acquire", "internal/synctest.IsAssociated[sync.WaitGroup]", "sync/atomic.CompareAndSwapUint64", "internal/race.Write", "sync.runtime_SemacquireWaitGroup"], unfollowed := true, recurses := true, leaving := true, apart := false }
def FnExactBestSpeedSaid : Prop := fnExactBestSpeedRow.holds Tryz.pinned (OpenSpec.ofChange fnExactBestSpeedSpec)

/-- ITS FALSE NEIGHBOUR: 'it returns false'. Refute it at one input. -/
def fnExactBestSpeedWrong : ChangeSpec := { name := "fnExactBestSpeed", fn := fun _ => fun
  | [d1, d2, d3, d4, d5] => { results := [.lit (.bool false)], args := [d1, d2, d3, d4, d5] }
  | _ => none }
def FnExactBestSpeedWrongFalsely : Prop := fnExactBestSpeedRow.holds Tryz.pinned (OpenSpec.ofChange fnExactBestSpeedWrong)

/-- 'laws.FnExactBestTwist': WHATEVER THE INPUT: true; the input reads as it did. -/
def fnExactBestTwistSpec : ChangeSpec := { name := "fnExactBestTwist", fn := fun _ => fun
  | [d1, d2, d3, d4, d5] => { results := [.lit (.bool true)], args := [d1, d2, d3, d4, d5] }
  | _ => none }
def fnExactBestTwistRow : OpenClaim := { program := "ytijjhfailnmeoaagreat", sum := "c3313feeda8814460d4b1adcd552afa97973fe12e89093139845fb4adb308ca6", func := "loop.example/g01256/laws.FnExactBestTwist", spec := "fnExactBestTwist", inPlace := ["math.archFloor", "math.Float64bits", "math.Float64frombits", "math.archTrunc", "(*sync.WaitGroup).Add", "internal/race.ReleaseMerge", "internal/race.Disable", "internal/race.Enable", "internal/synctest.IsInBubble", "internal/synctest.Associate[sync.WaitGroup]", "sync.fatal", "sync/atomic.OrUint64", "sync/atomic.AddUint64", "internal/race.Read", "sync/atomic.LoadUint64", "sync/atomic.StoreUint64", "internal/synctest.Disassociate[sync.WaitGroup]", "sync.runtime_Semrelease", "(*sync.WaitGroup).Done", "(*sync.WaitGroup).Wait", "internal/race.Acquire", "internal/synctest.IsAssociated[sync.WaitGroup]", "sync/atomic.CompareAndSwapUint64", "internal/race.Write", "sync.runtime_SemacquireWaitGroup"], unfollowed := true, recurses := true, leaving := true, apart := false }
def FnExactBestTwistSaid : Prop := fnExactBestTwistRow.holds Tryz.pinned (OpenSpec.ofChange fnExactBestTwistSpec)

/-- ITS FALSE NEIGHBOUR: 'it returns false'. Refute it at one input. -/
def fnExactBestTwistWrong : ChangeSpec := { name := "fnExactBestTwist", fn := fun _ => fun
  | [d1, d2, d3, d4, d5] => { results := [.lit (.bool false)], args := [d1, d2, d3, d4, d5] }
  | _ => none }
def FnExactBestTwistWrongFalsely : Prop := fnExactBestTwistRow.holds Tryz.pinned (OpenSpec.ofChange fnExactBestTwistWrong)

/-- 'laws.FnExactPowerCurve': WHATEVER THE INPUT: true; the input reads as it did. -/
def fnExactPowerCurveSpec : ChangeSpec := { name := "fnExactPowerCurve", fn := fun _ => fun
  | [d1, d2, d3, d4, d5] => { results := [.lit (.bool true)], args := [d1, d2, d3, d4, d5] }
  | _ => none }
def fnExactPowerCurveRow : OpenClaim := { program := "ytijjhfailnmeoaagreat", sum := "c3313feeda8814460d4b1adcd552afa97973fe12e89093139845fb4adb308ca6", func := "loop.example/g01256/laws.FnExactPowerCurve", spec := "fnExactPowerCurve", inPlace := ["math.archFloor", "math.Float64bits", "math.Float64frombits", "math.archTrunc", "(*sync.WaitGroup).Add", "internal/race.ReleaseMerge", "internal/race.Disable", "internal/race.Enable", "internal/synctest.IsInBubble", "internal/synctest.Associate[sync.WaitGroup]", "sync.fatal", "sync/atomic.OrUint64", "sync/atomic.AddUint64", "internal/race.Read", "sync/atomic.LoadUint64", "sync/atomic.StoreUint64", "internal/synctest.Disassociate[sync.WaitGroup]", "sync.runtime_Semrelease", "(*sync.WaitGroup).Done", "(*sync.WaitGroup).Wait", "internal/race.Acquire", "internal/synctest.IsAssociated[sync.WaitGroup]", "sync/atomic.CompareAndSwapUint64", "internal/race.Write", "sync.runtime_SemacquireWaitGroup"], unfollowed := true, recurses := true, leaving := true, apart := false }
def FnExactPowerCurveSaid : Prop := fnExactPowerCurveRow.holds Tryz.pinned (OpenSpec.ofChange fnExactPowerCurveSpec)

/-- ITS FALSE NEIGHBOUR: 'it returns false'. Refute it at one input. -/
def fnExactPowerCurveWrong : ChangeSpec := { name := "fnExactPowerCurve", fn := fun _ => fun
  | [d1, d2, d3, d4, d5] => { results := [.lit (.bool false)], args := [d1, d2, d3, d4, d5] }
  | _ => none }
def FnExactPowerCurveWrongFalsely : Prop := fnExactPowerCurveRow.holds Tryz.pinned (OpenSpec.ofChange fnExactPowerCurveWrong)

/- THE SECOND FORM. 'bulk': how many values and letters a reading holds, each counted each time it is reached (what is shared counts as often as it is met; a slice's spare places count too). A statement '..UptoSaid' is the law's where the arguments, and the package variables that the reading takes, are together of bulk at most 1048576: NARROWER than '..Said'. Prove '..Said' where nothing that the law and all that it calls make is longer than what came in: it says more and counts as full. Else prove '..UptoSaid'. A law counts once. -/
mutual
def uptoBulk {H : Type} : DataW H → Nat
  | .lit (.string bytes) => bytes.length + 1
  | .lit _ => 1
  | .nil => 1
  | .ptr d => uptoBulk d + 1
  | .slice elems spare => uptoBulkAll elems + uptoBulkAll spare + 1
  | .agg parts => uptoBulkAll parts + 1
  | .iface _ d => uptoBulk d + 1
  | .map entries => uptoBulkEntries entries + 1
  | .held _ => 1
def uptoBulkAll {H : Type} : List (DataW H) → Nat
  | [] => 0
  | d :: r => uptoBulk d + uptoBulkAll r
def uptoBulkEntries {H : Type} : List (Lit × DataW H) → Nat
  | [] => 0
  | x :: r => uptoBulkEntry x + uptoBulkEntries r
def uptoBulkEntry {H : Type} : Lit × DataW H → Nat
  | (.string bytes, d) => bytes.length + uptoBulk d + 1
  | (_, d) => uptoBulk d + 1
 end
def uptoSmall : (H : Type) → List (DataW H) → Bool := fun _ ds => decide (uptoBulkAll ds ≤ 1048576)
def OpenSpec.upto (s : _root_.Go.ChangeSpec) : _root_.Go.OpenSpec := { _root_.Go.OpenSpec.ofChange s with cond := some uptoSmall }

/-- 'laws.FnSummed', WHERE WHAT IT READS IS OF BULK AT MOST 1048576: true; the input reads as it did. -/
def fnSummedUptoRow : OpenClaim := { program := "ytijjhfailnmeoaagreat", sum := "c3313feeda8814460d4b1adcd552afa97973fe12e89093139845fb4adb308ca6", func := "loop.example/g01256/laws.FnSummed", spec := "fnSummed", inPlace := ["math.Float64frombits", "math.archFloor", "math.Float64bits", "math.archTrunc", "(*sync.WaitGroup).Add", "internal/race.ReleaseMerge", "internal/race.Disable", "internal/race.Enable", "internal/synctest.IsInBubble", "internal/synctest.Associate[sync.WaitGroup]", "sync.fatal", "sync/atomic.OrUint64", "sync/atomic.AddUint64", "internal/race.Read", "sync/atomic.LoadUint64", "sync/atomic.StoreUint64", "internal/synctest.Disassociate[sync.WaitGroup]", "sync.runtime_Semrelease", "(*sync.WaitGroup).Done", "(*sync.WaitGroup).Wait", "internal/race.Acquire", "internal/synctest.IsAssociated[sync.WaitGroup]", "sync/atomic.CompareAndSwapUint64", "internal/race.Write", "sync.runtime_SemacquireWaitGroup", "math.Float32bits"], unfollowed := true, recurses := true, leaving := true, apart := false, narrowed := true }
def FnSummedUptoSaid : Prop := fnSummedUptoRow.holds Tryz.pinned (OpenSpec.upto fnSummedSpec)

/-- 'laws.FnForcesSharedOfAll', WHERE WHAT IT READS IS OF BULK AT MOST 1048576: true; the input reads as it did. -/
def fnForcesSharedOfAllUptoRow : OpenClaim := { program := "ytijjhfailnmeoaagreat", sum := "c3313feeda8814460d4b1adcd552afa97973fe12e89093139845fb4adb308ca6", func := "loop.example/g01256/laws.FnForcesSharedOfAll", spec := "fnForcesSharedOfAll", inPlace := ["(*sync.WaitGroup).Add", "internal/race.ReleaseMerge", "internal/race.Disable", "internal/race.Enable", "internal/synctest.IsInBubble", "internal/synctest.Associate[sync.WaitGroup]", "sync.fatal", "sync/atomic.OrUint64", "sync/atomic.AddUint64", "internal/race.Read", "sync/atomic.LoadUint64", "sync/atomic.StoreUint64", "internal/synctest.Disassociate[sync.WaitGroup]", "sync.runtime_Semrelease", "(*sync.WaitGroup).Done", "math.archFloor", "math.Float64bits", "math.Float64frombits", "math.archTrunc", "(*sync.WaitGroup).Wait", "internal/race.Acquire", "internal/synctest.IsAssociated[sync.WaitGroup]", "sync/atomic.CompareAndSwapUint64", "internal/race.Write", "sync.runtime_SemacquireWaitGroup"], unfollowed := true, recurses := true, leaving := true, apart := false, narrowed := true }
def FnForcesSharedOfAllUptoSaid : Prop := fnForcesSharedOfAllUptoRow.holds Tryz.pinned (OpenSpec.upto fnForcesSharedOfAllSpec)

/-- 'laws.FnExactThrustOf', WHERE WHAT IT READS IS OF BULK AT MOST 1048576: true; the input reads as it did. -/
def fnExactThrustOfUptoRow : OpenClaim := { program := "ytijjhfailnmeoaagreat", sum := "c3313feeda8814460d4b1adcd552afa97973fe12e89093139845fb4adb308ca6", func := "loop.example/g01256/laws.FnExactThrustOf", spec := "fnExactThrustOf", inPlace := ["math.archFloor", "math.Float64bits", "math.Float64frombits", "math.archTrunc", "(*sync.WaitGroup).Add", "internal/race.ReleaseMerge", "internal/race.Disable", "internal/race.Enable", "internal/synctest.IsInBubble", "internal/synctest.Associate[sync.WaitGroup]", "sync.fatal", "sync/atomic.OrUint64", "sync/atomic.AddUint64", "internal/race.Read", "sync/atomic.LoadUint64", "sync/atomic.StoreUint64", "internal/synctest.Disassociate[sync.WaitGroup]", "sync.runtime_Semrelease", "(*sync.WaitGroup).Done", "(*sync.WaitGroup).Wait", "internal/race.Acquire", "internal/synctest.IsAssociated[sync.WaitGroup]", "sync/atomic.CompareAndSwapUint64", "internal/race.Write", "sync.runtime_SemacquireWaitGroup"], unfollowed := true, recurses := true, leaving := true, apart := false, narrowed := true }
def FnExactThrustOfUptoSaid : Prop := fnExactThrustOfUptoRow.holds Tryz.pinned (OpenSpec.upto fnExactThrustOfSpec)

/-- 'laws.FnExactForcesShared', WHERE WHAT IT READS IS OF BULK AT MOST 1048576: true; the input reads as it did. -/
def fnExactForcesSharedUptoRow : OpenClaim := { program := "ytijjhfailnmeoaagreat", sum := "c3313feeda8814460d4b1adcd552afa97973fe12e89093139845fb4adb308ca6", func := "loop.example/g01256/laws.FnExactForcesShared", spec := "fnExactForcesShared", inPlace := ["math.archFloor", "math.Float64bits", "math.Float64frombits", "math.archTrunc", "(*sync.WaitGroup).Add", "internal/race.ReleaseMerge", "internal/race.Disable", "internal/race.Enable", "internal/synctest.IsInBubble", "internal/synctest.Associate[sync.WaitGroup]", "sync.fatal", "sync/atomic.OrUint64", "sync/atomic.AddUint64", "internal/race.Read", "sync/atomic.LoadUint64", "sync/atomic.StoreUint64", "internal/synctest.Disassociate[sync.WaitGroup]", "sync.runtime_Semrelease", "(*sync.WaitGroup).Done", "(*sync.WaitGroup).Wait", "internal/race.Acquire", "internal/synctest.IsAssociated[sync.WaitGroup]", "sync/atomic.CompareAndSwapUint64", "internal/race.Write", "sync.runtime_SemacquireWaitGroup"], unfollowed := true, recurses := true, leaving := true, apart := false, narrowed := true }
def FnExactForcesSharedUptoSaid : Prop := fnExactForcesSharedUptoRow.holds Tryz.pinned (OpenSpec.upto fnExactForcesSharedSpec)

/-- 'laws.FnExactForcesOfRotor', WHERE WHAT IT READS IS OF BULK AT MOST 1048576: true; the input reads as it did. -/
def fnExactForcesOfRotorUptoRow : OpenClaim := { program := "ytijjhfailnmeoaagreat", sum := "c3313feeda8814460d4b1adcd552afa97973fe12e89093139845fb4adb308ca6", func := "loop.example/g01256/laws.FnExactForcesOfRotor", spec := "fnExactForcesOfRotor", inPlace := ["math.archFloor", "math.Float64bits", "math.Float64frombits", "math.archTrunc", "(*sync.WaitGroup).Add", "internal/race.ReleaseMerge", "internal/race.Disable", "internal/race.Enable", "internal/synctest.IsInBubble", "internal/synctest.Associate[sync.WaitGroup]", "sync.fatal", "sync/atomic.OrUint64", "sync/atomic.AddUint64", "internal/race.Read", "sync/atomic.LoadUint64", "sync/atomic.StoreUint64", "internal/synctest.Disassociate[sync.WaitGroup]", "sync.runtime_Semrelease", "(*sync.WaitGroup).Done", "(*sync.WaitGroup).Wait", "internal/race.Acquire", "internal/synctest.IsAssociated[sync.WaitGroup]", "sync/atomic.CompareAndSwapUint64", "internal/race.Write", "sync.runtime_SemacquireWaitGroup"], unfollowed := true, recurses := true, leaving := true, apart := false, narrowed := true }
def FnExactForcesOfRotorUptoSaid : Prop := fnExactForcesOfRotorUptoRow.holds Tryz.pinned (OpenSpec.upto fnExactForcesOfRotorSpec)

/-- 'laws.FnExactBendingOf', WHERE WHAT IT READS IS OF BULK AT MOST 1048576: true; the input reads as it did. -/
def fnExactBendingOfUptoRow : OpenClaim := { program := "ytijjhfailnmeoaagreat", sum := "c3313feeda8814460d4b1adcd552afa97973fe12e89093139845fb4adb308ca6", func := "loop.example/g01256/laws.FnExactBendingOf", spec := "fnExactBendingOf", inPlace := ["math.archFloor", "math.Float64bits", "math.Float64frombits", "math.archTrunc", "(*sync.WaitGroup).Add", "internal/race.ReleaseMerge", "internal/race.Disable", "internal/race.Enable", "internal/synctest.IsInBubble", "internal/synctest.Associate[sync.WaitGroup]", "sync.fatal", "sync/atomic.OrUint64", "sync/atomic.AddUint64", "internal/race.Read", "sync/atomic.LoadUint64", "sync/atomic.StoreUint64", "internal/synctest.Disassociate[sync.WaitGroup]", "sync.runtime_Semrelease", "(*sync.WaitGroup).Done", "(*sync.WaitGroup).Wait", "internal/race.Acquire", "internal/synctest.IsAssociated[sync.WaitGroup]", "sync/atomic.CompareAndSwapUint64", "internal/race.Write", "sync.runtime_SemacquireWaitGroup"], unfollowed := true, recurses := true, leaving := true, apart := false, narrowed := true }
def FnExactBendingOfUptoSaid : Prop := fnExactBendingOfUptoRow.holds Tryz.pinned (OpenSpec.upto fnExactBendingOfSpec)

/-- 'laws.FnExactTorqueOf', WHERE WHAT IT READS IS OF BULK AT MOST 1048576: true; the input reads as it did. -/
def fnExactTorqueOfUptoRow : OpenClaim := { program := "ytijjhfailnmeoaagreat", sum := "c3313feeda8814460d4b1adcd552afa97973fe12e89093139845fb4adb308ca6", func := "loop.example/g01256/laws.FnExactTorqueOf", spec := "fnExactTorqueOf", inPlace := ["math.archFloor", "math.Float64bits", "math.Float64frombits", "math.archTrunc", "(*sync.WaitGroup).Add", "internal/race.ReleaseMerge", "internal/race.Disable", "internal/race.Enable", "internal/synctest.IsInBubble", "internal/synctest.Associate[sync.WaitGroup]", "sync.fatal", "sync/atomic.OrUint64", "sync/atomic.AddUint64", "internal/race.Read", "sync/atomic.LoadUint64", "sync/atomic.StoreUint64", "internal/synctest.Disassociate[sync.WaitGroup]", "sync.runtime_Semrelease", "(*sync.WaitGroup).Done", "(*sync.WaitGroup).Wait", "internal/race.Acquire", "internal/synctest.IsAssociated[sync.WaitGroup]", "sync/atomic.CompareAndSwapUint64", "internal/race.Write", "sync.runtime_SemacquireWaitGroup"], unfollowed := true, recurses := true, leaving := true, apart := false, narrowed := true }
def FnExactTorqueOfUptoSaid : Prop := fnExactTorqueOfUptoRow.holds Tryz.pinned (OpenSpec.upto fnExactTorqueOfSpec)

/-- 'laws.FnExactRotorPower', WHERE WHAT IT READS IS OF BULK AT MOST 1048576: true; the input reads as it did. -/
def fnExactRotorPowerUptoRow : OpenClaim := { program := "ytijjhfailnmeoaagreat", sum := "c3313feeda8814460d4b1adcd552afa97973fe12e89093139845fb4adb308ca6", func := "loop.example/g01256/laws.FnExactRotorPower", spec := "fnExactRotorPower", inPlace := ["math.archFloor", "math.Float64bits", "math.Float64frombits", "math.archTrunc", "(*sync.WaitGroup).Add", "internal/race.ReleaseMerge", "internal/race.Disable", "internal/race.Enable", "internal/synctest.IsInBubble", "internal/synctest.Associate[sync.WaitGroup]", "sync.fatal", "sync/atomic.OrUint64", "sync/atomic.AddUint64", "internal/race.Read", "sync/atomic.LoadUint64", "sync/atomic.StoreUint64", "internal/synctest.Disassociate[sync.WaitGroup]", "sync.runtime_Semrelease", "(*sync.WaitGroup).Done", "(*sync.WaitGroup).Wait", "internal/race.Acquire", "internal/synctest.IsAssociated[sync.WaitGroup]", "sync/atomic.CompareAndSwapUint64", "internal/race.Write", "sync.runtime_SemacquireWaitGroup"], unfollowed := true, recurses := true, leaving := true, apart := false, narrowed := true }
def FnExactRotorPowerUptoSaid : Prop := fnExactRotorPowerUptoRow.holds Tryz.pinned (OpenSpec.upto fnExactRotorPowerSpec)

/-- 'laws.FnExactBestSpeed', WHERE WHAT IT READS IS OF BULK AT MOST 1048576: true; the input reads as it did. -/
def fnExactBestSpeedUptoRow : OpenClaim := { program := "ytijjhfailnmeoaagreat", sum := "c3313feeda8814460d4b1adcd552afa97973fe12e89093139845fb4adb308ca6", func := "loop.example/g01256/laws.FnExactBestSpeed", spec := "fnExactBestSpeed", inPlace := ["math.archFloor", "math.Float64bits", "math.Float64frombits", "math.archTrunc", "(*sync.WaitGroup).Add", "internal/race.ReleaseMerge", "internal/race.Disable", "internal/race.Enable", "internal/synctest.IsInBubble", "internal/synctest.Associate[sync.WaitGroup]", "sync.fatal", "sync/atomic.OrUint64", "sync/atomic.AddUint64", "internal/race.Read", "sync/atomic.LoadUint64", "sync/atomic.StoreUint64", "internal/synctest.Disassociate[sync.WaitGroup]", "sync.runtime_Semrelease", "(*sync.WaitGroup).Done", "(*sync.WaitGroup).Wait", "internal/race.Acquire", "internal/synctest.IsAssociated[sync.WaitGroup]", "sync/atomic.CompareAndSwapUint64", "internal/race.Write", "sync.runtime_SemacquireWaitGroup"], unfollowed := true, recurses := true, leaving := true, apart := false, narrowed := true }
def FnExactBestSpeedUptoSaid : Prop := fnExactBestSpeedUptoRow.holds Tryz.pinned (OpenSpec.upto fnExactBestSpeedSpec)

/-- 'laws.FnExactBestTwist', WHERE WHAT IT READS IS OF BULK AT MOST 1048576: true; the input reads as it did. -/
def fnExactBestTwistUptoRow : OpenClaim := { program := "ytijjhfailnmeoaagreat", sum := "c3313feeda8814460d4b1adcd552afa97973fe12e89093139845fb4adb308ca6", func := "loop.example/g01256/laws.FnExactBestTwist", spec := "fnExactBestTwist", inPlace := ["math.archFloor", "math.Float64bits", "math.Float64frombits", "math.archTrunc", "(*sync.WaitGroup).Add", "internal/race.ReleaseMerge", "internal/race.Disable", "internal/race.Enable", "internal/synctest.IsInBubble", "internal/synctest.Associate[sync.WaitGroup]", "sync.fatal", "sync/atomic.OrUint64", "sync/atomic.AddUint64", "internal/race.Read", "sync/atomic.LoadUint64", "sync/atomic.StoreUint64", "internal/synctest.Disassociate[sync.WaitGroup]", "sync.runtime_Semrelease", "(*sync.WaitGroup).Done", "(*sync.WaitGroup).Wait", "internal/race.Acquire", "internal/synctest.IsAssociated[sync.WaitGroup]", "sync/atomic.CompareAndSwapUint64", "internal/race.Write", "sync.runtime_SemacquireWaitGroup"], unfollowed := true, recurses := true, leaving := true, apart := false, narrowed := true }
def FnExactBestTwistUptoSaid : Prop := fnExactBestTwistUptoRow.holds Tryz.pinned (OpenSpec.upto fnExactBestTwistSpec)

/-- 'laws.FnExactPowerCurve', WHERE WHAT IT READS IS OF BULK AT MOST 1048576: true; the input reads as it did. -/
def fnExactPowerCurveUptoRow : OpenClaim := { program := "ytijjhfailnmeoaagreat", sum := "c3313feeda8814460d4b1adcd552afa97973fe12e89093139845fb4adb308ca6", func := "loop.example/g01256/laws.FnExactPowerCurve", spec := "fnExactPowerCurve", inPlace := ["math.archFloor", "math.Float64bits", "math.Float64frombits", "math.archTrunc", "(*sync.WaitGroup).Add", "internal/race.ReleaseMerge", "internal/race.Disable", "internal/race.Enable", "internal/synctest.IsInBubble", "internal/synctest.Associate[sync.WaitGroup]", "sync.fatal", "sync/atomic.OrUint64", "sync/atomic.AddUint64", "internal/race.Read", "sync/atomic.LoadUint64", "sync/atomic.StoreUint64", "internal/synctest.Disassociate[sync.WaitGroup]", "sync.runtime_Semrelease", "(*sync.WaitGroup).Done", "(*sync.WaitGroup).Wait", "internal/race.Acquire", "internal/synctest.IsAssociated[sync.WaitGroup]", "sync/atomic.CompareAndSwapUint64", "internal/race.Write", "sync.runtime_SemacquireWaitGroup"], unfollowed := true, recurses := true, leaving := true, apart := false, narrowed := true }
def FnExactPowerCurveUptoSaid : Prop := fnExactPowerCurveUptoRow.holds Tryz.pinned (OpenSpec.upto fnExactPowerCurveSpec)

end Rows
end Go.Proofs.YtijjhfailnmeoaaGreat
