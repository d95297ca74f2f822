/-
  No cell of these rows narrows 'for every input' (looked for: loops, veiled, ifaces, maps, wideKeys, modest, calm, conditions, laid).
  DERIVED. THE GIVEN ROWS OF THIS SEAT. 9 by the template 'for every input the law returns true; each argument reads behind the call as it read before'; 0 by the template 'total and deterministic' (their statements: YtdhmognknjpemaaTotals.lean).
  GIVEN WITH THE SEED: the statements are not yours to turn. If you find one false, say at which input.
  Laid BY PROGRAM, IN A SANDBOX (cutbox-rows.mjs): the forced cells as the released guide's own fill.sh prints them over the translation c9a82bf93daff50b… (all of the seat's roots in one cut). By AI agents, Wed Nov 11 2026. No macro, syntax, notation, axiom, sorry.
-/
import Derived.Test.YtdhmognknjpemaaChecked
import GoSem.Claim
import GoSem.ClaimJoined
import GoSem.ClaimMapViews
import Derived.JoinedTies
import Derived.KernelRfl
namespace Go.Proofs.Ytdhmognknjpemaa
/- THE CELL 'sum', in the pinned program and in every row, IS THE sha256 OF THE DUMP (.gsa) THAT YtdhmognknjpemaaProg.lean LOADS. Nothing in Lean hashes anything: it is a label: what it is worth is what the hold of that sum in a sandbox is worth. -/
noncomputable def Try.pinned : Pinned := { name := "ytdhmognknjpemaa", sum := "c9a82bf93daff50bbff63c44cc5985492615a3f1f5922345d6dc075964efb3fd", checked := Try.checked }
namespace Rows
def none {H : Type} : Left H := { results := [], args := [] }

/-- 'laws.FnBests': WHATEVER THE INPUT: true; the input reads as it did. -/
def fnBestsSpec : ChangeSpec := { name := "fnBests", fn := fun _ => fun
  | [d1, d2] => { results := [.lit (.bool true)], args := [d1, d2] }
  | _ => none }
def fnBestsRow : OpenClaim := { program := "ytdhmognknjpemaa", sum := "c9a82bf93daff50bbff63c44cc5985492615a3f1f5922345d6dc075964efb3fd", func := "loop.example/g01256/laws.FnBests", spec := "fnBests", inPlace := ["math.Float64frombits", "math.archFloor", "math.Float64bits", "math.archTrunc"], unfollowed := true, recurses := true, apart := false }
def FnBestsSaid : Prop := fnBestsRow.holds Try.pinned (OpenSpec.ofChange fnBestsSpec)

/-- ITS FALSE NEIGHBOUR: 'it returns false'. Refute it at one input. -/
def fnBestsWrong : ChangeSpec := { name := "fnBests", fn := fun _ => fun
  | [d1, d2] => { results := [.lit (.bool false)], args := [d1, d2] }
  | _ => none }
def FnBestsWrongFalsely : Prop := fnBestsRow.holds Try.pinned (OpenSpec.ofChange fnBestsWrong)

/-- 'laws.FnRotors': WHATEVER THE INPUT: true; the input reads as it did. -/
def fnRotorsSpec : ChangeSpec := { name := "fnRotors", fn := fun _ => fun
  | [d1, d2] => { results := [.lit (.bool true)], args := [d1, d2] }
  | _ => none }
def fnRotorsRow : OpenClaim := { program := "ytdhmognknjpemaa", sum := "c9a82bf93daff50bbff63c44cc5985492615a3f1f5922345d6dc075964efb3fd", func := "loop.example/g01256/laws.FnRotors", spec := "fnRotors", inPlace := ["math.Float64frombits", "math.Float64bits", "math.archTrunc", "math.archFloor", "math.Float32bits"], unfollowed := true, recurses := true, apart := false }
def FnRotorsSaid : Prop := fnRotorsRow.holds Try.pinned (OpenSpec.ofChange fnRotorsSpec)

/-- ITS FALSE NEIGHBOUR: 'it returns false'. Refute it at one input. -/
def fnRotorsWrong : ChangeSpec := { name := "fnRotors", fn := fun _ => fun
  | [d1, d2] => { results := [.lit (.bool false)], args := [d1, d2] }
  | _ => none }
def FnRotorsWrongFalsely : Prop := fnRotorsRow.holds Try.pinned (OpenSpec.ofChange fnRotorsWrong)

/-- 'laws.FnForces': WHATEVER THE INPUT: true; the input reads as it did. -/
def fnForcesSpec : ChangeSpec := { name := "fnForces", fn := fun _ => fun
  | [d1, d2] => { results := [.lit (.bool true)], args := [d1, d2] }
  | _ => none }
def fnForcesRow : OpenClaim := { program := "ytdhmognknjpemaa", sum := "c9a82bf93daff50bbff63c44cc5985492615a3f1f5922345d6dc075964efb3fd", func := "loop.example/g01256/laws.FnForces", spec := "fnForces", inPlace := ["math.Float64frombits", "math.sqrt", "math.Float64bits", "math.archFloor", "math.archTrunc"], unfollowed := true, recurses := true, apart := false }
def FnForcesSaid : Prop := fnForcesRow.holds Try.pinned (OpenSpec.ofChange fnForcesSpec)

/-- ITS FALSE NEIGHBOUR: 'it returns false'. Refute it at one input. -/
def fnForcesWrong : ChangeSpec := { name := "fnForces", fn := fun _ => fun
  | [d1, d2] => { results := [.lit (.bool false)], args := [d1, d2] }
  | _ => none }
def FnForcesWrongFalsely : Prop := fnForcesRow.holds Try.pinned (OpenSpec.ofChange fnForcesWrong)

/-- 'laws.FnExactPushesAt': WHATEVER THE INPUT: true; the input reads as it did. -/
def fnExactPushesAtSpec : ChangeSpec := { name := "fnExactPushesAt", fn := fun _ => fun
  | [d1, d2, d3, d4] => { results := [.lit (.bool true)], args := [d1, d2, d3, d4] }
  | _ => none }
def fnExactPushesAtRow : OpenClaim := { program := "ytdhmognknjpemaa", sum := "c9a82bf93daff50bbff63c44cc5985492615a3f1f5922345d6dc075964efb3fd", func := "loop.example/g01256/laws.FnExactPushesAt", spec := "fnExactPushesAt", inPlace := ["math.archFloor", "math.Float64bits", "math.Float64frombits", "math.archTrunc"], unfollowed := true, recurses := true, apart := false }
def FnExactPushesAtSaid : Prop := fnExactPushesAtRow.holds Try.pinned (OpenSpec.ofChange fnExactPushesAtSpec)

/-- ITS FALSE NEIGHBOUR: 'it returns false'. Refute it at one input. -/
def fnExactPushesAtWrong : ChangeSpec := { name := "fnExactPushesAt", fn := fun _ => fun
  | [d1, d2, d3, d4] => { results := [.lit (.bool false)], args := [d1, d2, d3, d4] }
  | _ => none }
def FnExactPushesAtWrongFalsely : Prop := fnExactPushesAtRow.holds Try.pinned (OpenSpec.ofChange fnExactPushesAtWrong)

/-- 'laws.FnProfiles': WHATEVER THE INPUT: true; the input reads as it did. -/
def fnProfilesSpec : ChangeSpec := { name := "fnProfiles", fn := fun _ => fun
  | [d1, d2] => { results := [.lit (.bool true)], args := [d1, d2] }
  | _ => none }
def fnProfilesRow : OpenClaim := { program := "ytdhmognknjpemaa", sum := "c9a82bf93daff50bbff63c44cc5985492615a3f1f5922345d6dc075964efb3fd", func := "loop.example/g01256/laws.FnProfiles", spec := "fnProfiles", inPlace := ["math.Float64frombits", "math.archFloor", "math.Float64bits", "math.archTrunc", "slices.overlaps[float32]"], unfollowed := true, recurses := true, apart := false }
def FnProfilesSaid : Prop := fnProfilesRow.holds Try.pinned (OpenSpec.ofChange fnProfilesSpec)

/-- ITS FALSE NEIGHBOUR: 'it returns false'. Refute it at one input. -/
def fnProfilesWrong : ChangeSpec := { name := "fnProfiles", fn := fun _ => fun
  | [d1, d2] => { results := [.lit (.bool false)], args := [d1, d2] }
  | _ => none }
def FnProfilesWrongFalsely : Prop := fnProfilesRow.holds Try.pinned (OpenSpec.ofChange fnProfilesWrong)

/-- 'laws.FnExactBalanceOf': WHATEVER THE INPUT: true; the input reads as it did. -/
def fnExactBalanceOfSpec : ChangeSpec := { name := "fnExactBalanceOf", fn := fun _ => fun
  | [d1, d2, d3, d4, d5, d6] => { results := [.lit (.bool true)], args := [d1, d2, d3, d4, d5, d6] }
  | _ => none }
def fnExactBalanceOfRow : OpenClaim := { program := "ytdhmognknjpemaa", sum := "c9a82bf93daff50bbff63c44cc5985492615a3f1f5922345d6dc075964efb3fd", func := "loop.example/g01256/laws.FnExactBalanceOf", spec := "fnExactBalanceOf", inPlace := ["math.archFloor", "math.Float64bits", "math.Float64frombits", "math.archTrunc"], unfollowed := true, recurses := true, apart := false }
def FnExactBalanceOfSaid : Prop := fnExactBalanceOfRow.holds Try.pinned (OpenSpec.ofChange fnExactBalanceOfSpec)

/-- ITS FALSE NEIGHBOUR: 'it returns false'. Refute it at one input. -/
def fnExactBalanceOfWrong : ChangeSpec := { name := "fnExactBalanceOf", fn := fun _ => fun
  | [d1, d2, d3, d4, d5, d6] => { results := [.lit (.bool false)], args := [d1, d2, d3, d4, d5, d6] }
  | _ => none }
def FnExactBalanceOfWrongFalsely : Prop := fnExactBalanceOfRow.holds Try.pinned (OpenSpec.ofChange fnExactBalanceOfWrong)

/-- 'laws.FnExactFlowAt': WHATEVER THE INPUT: true; the input reads as it did. -/
def fnExactFlowAtSpec : ChangeSpec := { name := "fnExactFlowAt", fn := fun _ => fun
  | [d1, d2, d3, d4, d5] => { results := [.lit (.bool true)], args := [d1, d2, d3, d4, d5] }
  | _ => none }
def fnExactFlowAtRow : OpenClaim := { program := "ytdhmognknjpemaa", sum := "c9a82bf93daff50bbff63c44cc5985492615a3f1f5922345d6dc075964efb3fd", func := "loop.example/g01256/laws.FnExactFlowAt", spec := "fnExactFlowAt", inPlace := ["math.archFloor", "math.Float64bits", "math.Float64frombits", "math.archTrunc"], unfollowed := true, recurses := true, apart := false }
def FnExactFlowAtSaid : Prop := fnExactFlowAtRow.holds Try.pinned (OpenSpec.ofChange fnExactFlowAtSpec)

/-- ITS FALSE NEIGHBOUR: 'it returns false'. Refute it at one input. -/
def fnExactFlowAtWrong : ChangeSpec := { name := "fnExactFlowAt", fn := fun _ => fun
  | [d1, d2, d3, d4, d5] => { results := [.lit (.bool false)], args := [d1, d2, d3, d4, d5] }
  | _ => none }
def FnExactFlowAtWrongFalsely : Prop := fnExactFlowAtRow.holds Try.pinned (OpenSpec.ofChange fnExactFlowAtWrong)

/-- 'laws.FnExactInductionAt': WHATEVER THE INPUT: true; the input reads as it did. -/
def fnExactInductionAtSpec : ChangeSpec := { name := "fnExactInductionAt", fn := fun _ => fun
  | [d1, d2, d3, d4, d5] => { results := [.lit (.bool true)], args := [d1, d2, d3, d4, d5] }
  | _ => none }
def fnExactInductionAtRow : OpenClaim := { program := "ytdhmognknjpemaa", sum := "c9a82bf93daff50bbff63c44cc5985492615a3f1f5922345d6dc075964efb3fd", func := "loop.example/g01256/laws.FnExactInductionAt", spec := "fnExactInductionAt", inPlace := ["math.archFloor", "math.Float64bits", "math.Float64frombits", "math.archTrunc"], unfollowed := true, recurses := true, apart := false }
def FnExactInductionAtSaid : Prop := fnExactInductionAtRow.holds Try.pinned (OpenSpec.ofChange fnExactInductionAtSpec)

/-- ITS FALSE NEIGHBOUR: 'it returns false'. Refute it at one input. -/
def fnExactInductionAtWrong : ChangeSpec := { name := "fnExactInductionAt", fn := fun _ => fun
  | [d1, d2, d3, d4, d5] => { results := [.lit (.bool false)], args := [d1, d2, d3, d4, d5] }
  | _ => none }
def FnExactInductionAtWrongFalsely : Prop := fnExactInductionAtRow.holds Try.pinned (OpenSpec.ofChange fnExactInductionAtWrong)

/-- 'laws.FnExactStationForces': WHATEVER THE INPUT: true; the input reads as it did. -/
def fnExactStationForcesSpec : ChangeSpec := { name := "fnExactStationForces", fn := fun _ => fun
  | [d1, d2, d3, d4, d5, d6] => { results := [.lit (.bool true)], args := [d1, d2, d3, d4, d5, d6] }
  | _ => none }
def fnExactStationForcesRow : OpenClaim := { program := "ytdhmognknjpemaa", sum := "c9a82bf93daff50bbff63c44cc5985492615a3f1f5922345d6dc075964efb3fd", func := "loop.example/g01256/laws.FnExactStationForces", spec := "fnExactStationForces", inPlace := ["math.archFloor", "math.Float64bits", "math.Float64frombits", "math.archTrunc"], unfollowed := true, recurses := true, apart := false }
def FnExactStationForcesSaid : Prop := fnExactStationForcesRow.holds Try.pinned (OpenSpec.ofChange fnExactStationForcesSpec)

/-- ITS FALSE NEIGHBOUR: 'it returns false'. Refute it at one input. -/
def fnExactStationForcesWrong : ChangeSpec := { name := "fnExactStationForces", fn := fun _ => fun
  | [d1, d2, d3, d4, d5, d6] => { results := [.lit (.bool false)], args := [d1, d2, d3, d4, d5, d6] }
  | _ => none }
def FnExactStationForcesWrongFalsely : Prop := fnExactStationForcesRow.holds Try.pinned (OpenSpec.ofChange fnExactStationForcesWrong)

/- THE SECOND FORM. 'bulk': how many values and letters a reading holds, each counted each time it is reached (what is shared counts as often as it is met; a slice's spare places count too). A statement '..UptoSaid' is the law's where the arguments, and the package variables that the reading takes, are together of bulk at most 1048576: NARROWER than '..Said'. Prove '..Said' where nothing that the law and all that it calls make is longer than what came in: it says more and counts as full. Else prove '..UptoSaid'. A law counts once. -/
mutual
def uptoBulk {H : Type} : DataW H → Nat
  | .lit (.string bytes) => bytes.length + 1
  | .lit _ => 1
  | .nil => 1
  | .ptr d => uptoBulk d + 1
  | .slice elems spare => uptoBulkAll elems + uptoBulkAll spare + 1
  | .agg parts => uptoBulkAll parts + 1
  | .iface _ d => uptoBulk d + 1
  | .map entries => uptoBulkEntries entries + 1
  | .held _ => 1
def uptoBulkAll {H : Type} : List (DataW H) → Nat
  | [] => 0
  | d :: r => uptoBulk d + uptoBulkAll r
def uptoBulkEntries {H : Type} : List (Lit × DataW H) → Nat
  | [] => 0
  | x :: r => uptoBulkEntry x + uptoBulkEntries r
def uptoBulkEntry {H : Type} : Lit × DataW H → Nat
  | (.string bytes, d) => bytes.length + uptoBulk d + 1
  | (_, d) => uptoBulk d + 1
 end
def uptoSmall : (H : Type) → List (DataW H) → Bool := fun _ ds => decide (uptoBulkAll ds ≤ 1048576)
def OpenSpec.upto (s : _root_.Go.ChangeSpec) : _root_.Go.OpenSpec := { _root_.Go.OpenSpec.ofChange s with cond := some uptoSmall }

/-- 'laws.FnBests', WHERE WHAT IT READS IS OF BULK AT MOST 1048576: true; the input reads as it did. -/
def fnBestsUptoRow : OpenClaim := { program := "ytdhmognknjpemaa", sum := "c9a82bf93daff50bbff63c44cc5985492615a3f1f5922345d6dc075964efb3fd", func := "loop.example/g01256/laws.FnBests", spec := "fnBests", inPlace := ["math.Float64frombits", "math.archFloor", "math.Float64bits", "math.archTrunc"], unfollowed := true, recurses := true, apart := false, narrowed := true }
def FnBestsUptoSaid : Prop := fnBestsUptoRow.holds Try.pinned (OpenSpec.upto fnBestsSpec)

/-- 'laws.FnRotors', WHERE WHAT IT READS IS OF BULK AT MOST 1048576: true; the input reads as it did. -/
def fnRotorsUptoRow : OpenClaim := { program := "ytdhmognknjpemaa", sum := "c9a82bf93daff50bbff63c44cc5985492615a3f1f5922345d6dc075964efb3fd", func := "loop.example/g01256/laws.FnRotors", spec := "fnRotors", inPlace := ["math.Float64frombits", "math.Float64bits", "math.archTrunc", "math.archFloor", "math.Float32bits"], unfollowed := true, recurses := true, apart := false, narrowed := true }
def FnRotorsUptoSaid : Prop := fnRotorsUptoRow.holds Try.pinned (OpenSpec.upto fnRotorsSpec)

/-- 'laws.FnForces', WHERE WHAT IT READS IS OF BULK AT MOST 1048576: true; the input reads as it did. -/
def fnForcesUptoRow : OpenClaim := { program := "ytdhmognknjpemaa", sum := "c9a82bf93daff50bbff63c44cc5985492615a3f1f5922345d6dc075964efb3fd", func := "loop.example/g01256/laws.FnForces", spec := "fnForces", inPlace := ["math.Float64frombits", "math.sqrt", "math.Float64bits", "math.archFloor", "math.archTrunc"], unfollowed := true, recurses := true, apart := false, narrowed := true }
def FnForcesUptoSaid : Prop := fnForcesUptoRow.holds Try.pinned (OpenSpec.upto fnForcesSpec)

/-- 'laws.FnExactPushesAt', WHERE WHAT IT READS IS OF BULK AT MOST 1048576: true; the input reads as it did. -/
def fnExactPushesAtUptoRow : OpenClaim := { program := "ytdhmognknjpemaa", sum := "c9a82bf93daff50bbff63c44cc5985492615a3f1f5922345d6dc075964efb3fd", func := "loop.example/g01256/laws.FnExactPushesAt", spec := "fnExactPushesAt", inPlace := ["math.archFloor", "math.Float64bits", "math.Float64frombits", "math.archTrunc"], unfollowed := true, recurses := true, apart := false, narrowed := true }
def FnExactPushesAtUptoSaid : Prop := fnExactPushesAtUptoRow.holds Try.pinned (OpenSpec.upto fnExactPushesAtSpec)

/-- 'laws.FnProfiles', WHERE WHAT IT READS IS OF BULK AT MOST 1048576: true; the input reads as it did. -/
def fnProfilesUptoRow : OpenClaim := { program := "ytdhmognknjpemaa", sum := "c9a82bf93daff50bbff63c44cc5985492615a3f1f5922345d6dc075964efb3fd", func := "loop.example/g01256/laws.FnProfiles", spec := "fnProfiles", inPlace := ["math.Float64frombits", "math.archFloor", "math.Float64bits", "math.archTrunc", "slices.overlaps[float32]"], unfollowed := true, recurses := true, apart := false, narrowed := true }
def FnProfilesUptoSaid : Prop := fnProfilesUptoRow.holds Try.pinned (OpenSpec.upto fnProfilesSpec)

/-- 'laws.FnExactBalanceOf', WHERE WHAT IT READS IS OF BULK AT MOST 1048576: true; the input reads as it did. -/
def fnExactBalanceOfUptoRow : OpenClaim := { program := "ytdhmognknjpemaa", sum := "c9a82bf93daff50bbff63c44cc5985492615a3f1f5922345d6dc075964efb3fd", func := "loop.example/g01256/laws.FnExactBalanceOf", spec := "fnExactBalanceOf", inPlace := ["math.archFloor", "math.Float64bits", "math.Float64frombits", "math.archTrunc"], unfollowed := true, recurses := true, apart := false, narrowed := true }
def FnExactBalanceOfUptoSaid : Prop := fnExactBalanceOfUptoRow.holds Try.pinned (OpenSpec.upto fnExactBalanceOfSpec)

/-- 'laws.FnExactFlowAt', WHERE WHAT IT READS IS OF BULK AT MOST 1048576: true; the input reads as it did. -/
def fnExactFlowAtUptoRow : OpenClaim := { program := "ytdhmognknjpemaa", sum := "c9a82bf93daff50bbff63c44cc5985492615a3f1f5922345d6dc075964efb3fd", func := "loop.example/g01256/laws.FnExactFlowAt", spec := "fnExactFlowAt", inPlace := ["math.archFloor", "math.Float64bits", "math.Float64frombits", "math.archTrunc"], unfollowed := true, recurses := true, apart := false, narrowed := true }
def FnExactFlowAtUptoSaid : Prop := fnExactFlowAtUptoRow.holds Try.pinned (OpenSpec.upto fnExactFlowAtSpec)

/-- 'laws.FnExactInductionAt', WHERE WHAT IT READS IS OF BULK AT MOST 1048576: true; the input reads as it did. -/
def fnExactInductionAtUptoRow : OpenClaim := { program := "ytdhmognknjpemaa", sum := "c9a82bf93daff50bbff63c44cc5985492615a3f1f5922345d6dc075964efb3fd", func := "loop.example/g01256/laws.FnExactInductionAt", spec := "fnExactInductionAt", inPlace := ["math.archFloor", "math.Float64bits", "math.Float64frombits", "math.archTrunc"], unfollowed := true, recurses := true, apart := false, narrowed := true }
def FnExactInductionAtUptoSaid : Prop := fnExactInductionAtUptoRow.holds Try.pinned (OpenSpec.upto fnExactInductionAtSpec)

/-- 'laws.FnExactStationForces', WHERE WHAT IT READS IS OF BULK AT MOST 1048576: true; the input reads as it did. -/
def fnExactStationForcesUptoRow : OpenClaim := { program := "ytdhmognknjpemaa", sum := "c9a82bf93daff50bbff63c44cc5985492615a3f1f5922345d6dc075964efb3fd", func := "loop.example/g01256/laws.FnExactStationForces", spec := "fnExactStationForces", inPlace := ["math.archFloor", "math.Float64bits", "math.Float64frombits", "math.archTrunc"], unfollowed := true, recurses := true, apart := false, narrowed := true }
def FnExactStationForcesUptoSaid : Prop := fnExactStationForcesUptoRow.holds Try.pinned (OpenSpec.upto fnExactStationForcesSpec)

end Rows
end Go.Proofs.Ytdhmognknjpemaa
