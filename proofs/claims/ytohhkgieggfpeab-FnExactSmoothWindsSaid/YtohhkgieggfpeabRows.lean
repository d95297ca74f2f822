/-
  No cell of these rows narrows 'for every input' (looked for: loops, veiled, ifaces, maps, wideKeys, modest, calm, conditions, laid).
  DERIVED. THE GIVEN ROWS OF THIS SEAT. 6 by the template 'for every input the law returns true; each argument reads behind the call as it read before'; 0 by the template 'total and deterministic' (their statements: YtohhkgieggfpeabTotals.lean).
  GIVEN WITH THE SEED: the statements are not yours to turn. If you find one false, say at which input.
  Laid BY PROGRAM, IN A SANDBOX (cutbox-rows.mjs): the forced cells as the released guide's own fill.sh prints them over the translation 3d0e3f224547b466… (all of the seat's roots in one cut). By AI agents, Wed Nov 11 2026. No macro, syntax, notation, axiom, sorry.
-/
import Derived.Test.YtohhkgieggfpeabChecked
import GoSem.Claim
import GoSem.ClaimJoined
import GoSem.ClaimMapViews
import Derived.JoinedTies
import Derived.KernelRfl
namespace Go.Proofs.Ytohhkgieggfpeab
/- THE CELL 'sum', in the pinned program and in every row, IS THE sha256 OF THE DUMP (.gsa) THAT YtohhkgieggfpeabProg.lean LOADS. Nothing in Lean hashes anything: it is a label: what it is worth is what the hold of that sum in a sandbox is worth. -/
noncomputable def Try.pinned : Pinned := { name := "ytohhkgieggfpeab", sum := "3d0e3f224547b4665df33b0347e4ed890bf06dc1a18af35dbb967c9613cd1ceb", checked := Try.checked }
namespace Rows
def none {H : Type} : Left H := { results := [], args := [] }

/-- 'laws.FnBalanced': WHATEVER THE INPUT: true; the input reads as it did. -/
def fnBalancedSpec : ChangeSpec := { name := "fnBalanced", fn := fun _ => fun
  | [d1, d2] => { results := [.lit (.bool true)], args := [d1, d2] }
  | _ => none }
def fnBalancedRow : OpenClaim := { program := "ytohhkgieggfpeab", sum := "3d0e3f224547b4665df33b0347e4ed890bf06dc1a18af35dbb967c9613cd1ceb", func := "loop.example/g01256/laws.FnBalanced", spec := "fnBalanced", inPlace := ["math.Float64frombits", "math.archFloor", "math.Float64bits", "math.archTrunc", "math.Float32bits"], unfollowed := true, recurses := true, apart := false }
def FnBalancedSaid : Prop := fnBalancedRow.holds Try.pinned (OpenSpec.ofChange fnBalancedSpec)

/-- ITS FALSE NEIGHBOUR: 'it returns false'. Refute it at one input. -/
def fnBalancedWrong : ChangeSpec := { name := "fnBalanced", fn := fun _ => fun
  | [d1, d2] => { results := [.lit (.bool false)], args := [d1, d2] }
  | _ => none }
def FnBalancedWrongFalsely : Prop := fnBalancedRow.holds Try.pinned (OpenSpec.ofChange fnBalancedWrong)

/-- 'laws.FnExactMeanOfWinds': WHATEVER THE INPUT: true; the input reads as it did. -/
def fnExactMeanOfWindsSpec : ChangeSpec := { name := "fnExactMeanOfWinds", fn := fun _ => fun
  | [d] => { results := [.lit (.bool true)], args := [d] }
  | _ => none }
def fnExactMeanOfWindsRow : OpenClaim := { program := "ytohhkgieggfpeab", sum := "3d0e3f224547b4665df33b0347e4ed890bf06dc1a18af35dbb967c9613cd1ceb", func := "loop.example/g01256/laws.FnExactMeanOfWinds", spec := "fnExactMeanOfWinds", unfollowed := true, recurses := true, apart := false }
def FnExactMeanOfWindsSaid : Prop := fnExactMeanOfWindsRow.holds Try.pinned (OpenSpec.ofChange fnExactMeanOfWindsSpec)

/-- ITS FALSE NEIGHBOUR: 'it returns false'. Refute it at one input. -/
def fnExactMeanOfWindsWrong : ChangeSpec := { name := "fnExactMeanOfWinds", fn := fun _ => fun
  | [d] => { results := [.lit (.bool false)], args := [d] }
  | _ => none }
def FnExactMeanOfWindsWrongFalsely : Prop := fnExactMeanOfWindsRow.holds Try.pinned (OpenSpec.ofChange fnExactMeanOfWindsWrong)

/-- 'laws.FnExactSectorOf': WHATEVER THE INPUT: true; the input reads as it did. -/
def fnExactSectorOfSpec : ChangeSpec := { name := "fnExactSectorOf", fn := fun _ => fun
  | [d1, d2] => { results := [.lit (.bool true)], args := [d1, d2] }
  | _ => none }
def fnExactSectorOfRow : OpenClaim := { program := "ytohhkgieggfpeab", sum := "3d0e3f224547b4665df33b0347e4ed890bf06dc1a18af35dbb967c9613cd1ceb", func := "loop.example/g01256/laws.FnExactSectorOf", spec := "fnExactSectorOf", inPlace := ["math.archFloor", "math.Float64bits", "math.Float64frombits", "math.archTrunc"], apart := false }
def FnExactSectorOfSaid : Prop := fnExactSectorOfRow.holds Try.pinned (OpenSpec.ofChange fnExactSectorOfSpec)

/-- ITS FALSE NEIGHBOUR: 'it returns false'. Refute it at one input. -/
def fnExactSectorOfWrong : ChangeSpec := { name := "fnExactSectorOf", fn := fun _ => fun
  | [d1, d2] => { results := [.lit (.bool false)], args := [d1, d2] }
  | _ => none }
def FnExactSectorOfWrongFalsely : Prop := fnExactSectorOfRow.holds Try.pinned (OpenSpec.ofChange fnExactSectorOfWrong)

/-- 'laws.FnExactCalmsOf': WHATEVER THE INPUT: true; the input reads as it did. -/
def fnExactCalmsOfSpec : ChangeSpec := { name := "fnExactCalmsOf", fn := fun _ => fun
  | [d1, d2] => { results := [.lit (.bool true)], args := [d1, d2] }
  | _ => none }
def fnExactCalmsOfRow : OpenClaim := { program := "ytohhkgieggfpeab", sum := "3d0e3f224547b4665df33b0347e4ed890bf06dc1a18af35dbb967c9613cd1ceb", func := "loop.example/g01256/laws.FnExactCalmsOf", spec := "fnExactCalmsOf", unfollowed := true, recurses := true, apart := false }
def FnExactCalmsOfSaid : Prop := fnExactCalmsOfRow.holds Try.pinned (OpenSpec.ofChange fnExactCalmsOfSpec)

/-- ITS FALSE NEIGHBOUR: 'it returns false'. Refute it at one input. -/
def fnExactCalmsOfWrong : ChangeSpec := { name := "fnExactCalmsOf", fn := fun _ => fun
  | [d1, d2] => { results := [.lit (.bool false)], args := [d1, d2] }
  | _ => none }
def FnExactCalmsOfWrongFalsely : Prop := fnExactCalmsOfRow.holds Try.pinned (OpenSpec.ofChange fnExactCalmsOfWrong)

/-- 'laws.FnExactSameRose': WHATEVER THE INPUT: true; the input reads as it did. -/
def fnExactSameRoseSpec : ChangeSpec := { name := "fnExactSameRose", fn := fun _ => fun
  | [d1, d2] => { results := [.lit (.bool true)], args := [d1, d2] }
  | _ => none }
def fnExactSameRoseRow : OpenClaim := { program := "ytohhkgieggfpeab", sum := "3d0e3f224547b4665df33b0347e4ed890bf06dc1a18af35dbb967c9613cd1ceb", func := "loop.example/g01256/laws.FnExactSameRose", spec := "fnExactSameRose", inPlace := ["math.Float32bits", "math.Float64bits"], unfollowed := true, recurses := true, apart := false }
def FnExactSameRoseSaid : Prop := fnExactSameRoseRow.holds Try.pinned (OpenSpec.ofChange fnExactSameRoseSpec)

/-- ITS FALSE NEIGHBOUR: 'it returns false'. Refute it at one input. -/
def fnExactSameRoseWrong : ChangeSpec := { name := "fnExactSameRose", fn := fun _ => fun
  | [d1, d2] => { results := [.lit (.bool false)], args := [d1, d2] }
  | _ => none }
def FnExactSameRoseWrongFalsely : Prop := fnExactSameRoseRow.holds Try.pinned (OpenSpec.ofChange fnExactSameRoseWrong)

/-- 'laws.FnExactSmoothWinds': WHATEVER THE INPUT: true; the input reads as it did. -/
def fnExactSmoothWindsSpec : ChangeSpec := { name := "fnExactSmoothWinds", fn := fun _ => fun
  | [d1, d2] => { results := [.lit (.bool true)], args := [d1, d2] }
  | _ => none }
def fnExactSmoothWindsRow : OpenClaim := { program := "ytohhkgieggfpeab", sum := "3d0e3f224547b4665df33b0347e4ed890bf06dc1a18af35dbb967c9613cd1ceb", func := "loop.example/g01256/laws.FnExactSmoothWinds", spec := "fnExactSmoothWinds", unfollowed := true, recurses := true, apart := false }
def FnExactSmoothWindsSaid : Prop := fnExactSmoothWindsRow.holds Try.pinned (OpenSpec.ofChange fnExactSmoothWindsSpec)

/-- ITS FALSE NEIGHBOUR: 'it returns false'. Refute it at one input. -/
def fnExactSmoothWindsWrong : ChangeSpec := { name := "fnExactSmoothWinds", fn := fun _ => fun
  | [d1, d2] => { results := [.lit (.bool false)], args := [d1, d2] }
  | _ => none }
def FnExactSmoothWindsWrongFalsely : Prop := fnExactSmoothWindsRow.holds Try.pinned (OpenSpec.ofChange fnExactSmoothWindsWrong)

/- THE SECOND FORM. 'bulk': how many values and letters a reading holds, each counted each time it is reached (what is shared counts as often as it is met; a slice's spare places count too). A statement '..UptoSaid' is the law's where the arguments, and the package variables that the reading takes, are together of bulk at most 1048576: NARROWER than '..Said'. Prove '..Said' where nothing that the law and all that it calls make is longer than what came in: it says more and counts as full. Else prove '..UptoSaid'. A law counts once. -/
mutual
def uptoBulk {H : Type} : DataW H → Nat
  | .lit (.string bytes) => bytes.length + 1
  | .lit _ => 1
  | .nil => 1
  | .ptr d => uptoBulk d + 1
  | .slice elems spare => uptoBulkAll elems + uptoBulkAll spare + 1
  | .agg parts => uptoBulkAll parts + 1
  | .iface _ d => uptoBulk d + 1
  | .map entries => uptoBulkEntries entries + 1
  | .held _ => 1
def uptoBulkAll {H : Type} : List (DataW H) → Nat
  | [] => 0
  | d :: r => uptoBulk d + uptoBulkAll r
def uptoBulkEntries {H : Type} : List (Lit × DataW H) → Nat
  | [] => 0
  | x :: r => uptoBulkEntry x + uptoBulkEntries r
def uptoBulkEntry {H : Type} : Lit × DataW H → Nat
  | (.string bytes, d) => bytes.length + uptoBulk d + 1
  | (_, d) => uptoBulk d + 1
 end
def uptoSmall : (H : Type) → List (DataW H) → Bool := fun _ ds => decide (uptoBulkAll ds ≤ 1048576)
def OpenSpec.upto (s : _root_.Go.ChangeSpec) : _root_.Go.OpenSpec := { _root_.Go.OpenSpec.ofChange s with cond := some uptoSmall }

/-- 'laws.FnBalanced', WHERE WHAT IT READS IS OF BULK AT MOST 1048576: true; the input reads as it did. -/
def fnBalancedUptoRow : OpenClaim := { program := "ytohhkgieggfpeab", sum := "3d0e3f224547b4665df33b0347e4ed890bf06dc1a18af35dbb967c9613cd1ceb", func := "loop.example/g01256/laws.FnBalanced", spec := "fnBalanced", inPlace := ["math.Float64frombits", "math.archFloor", "math.Float64bits", "math.archTrunc", "math.Float32bits"], unfollowed := true, recurses := true, apart := false, narrowed := true }
def FnBalancedUptoSaid : Prop := fnBalancedUptoRow.holds Try.pinned (OpenSpec.upto fnBalancedSpec)

/-- 'laws.FnExactMeanOfWinds', WHERE WHAT IT READS IS OF BULK AT MOST 1048576: true; the input reads as it did. -/
def fnExactMeanOfWindsUptoRow : OpenClaim := { program := "ytohhkgieggfpeab", sum := "3d0e3f224547b4665df33b0347e4ed890bf06dc1a18af35dbb967c9613cd1ceb", func := "loop.example/g01256/laws.FnExactMeanOfWinds", spec := "fnExactMeanOfWinds", unfollowed := true, recurses := true, apart := false, narrowed := true }
def FnExactMeanOfWindsUptoSaid : Prop := fnExactMeanOfWindsUptoRow.holds Try.pinned (OpenSpec.upto fnExactMeanOfWindsSpec)

/-- 'laws.FnExactSectorOf', WHERE WHAT IT READS IS OF BULK AT MOST 1048576: true; the input reads as it did. -/
def fnExactSectorOfUptoRow : OpenClaim := { program := "ytohhkgieggfpeab", sum := "3d0e3f224547b4665df33b0347e4ed890bf06dc1a18af35dbb967c9613cd1ceb", func := "loop.example/g01256/laws.FnExactSectorOf", spec := "fnExactSectorOf", inPlace := ["math.archFloor", "math.Float64bits", "math.Float64frombits", "math.archTrunc"], apart := false, narrowed := true }
def FnExactSectorOfUptoSaid : Prop := fnExactSectorOfUptoRow.holds Try.pinned (OpenSpec.upto fnExactSectorOfSpec)

/-- 'laws.FnExactCalmsOf', WHERE WHAT IT READS IS OF BULK AT MOST 1048576: true; the input reads as it did. -/
def fnExactCalmsOfUptoRow : OpenClaim := { program := "ytohhkgieggfpeab", sum := "3d0e3f224547b4665df33b0347e4ed890bf06dc1a18af35dbb967c9613cd1ceb", func := "loop.example/g01256/laws.FnExactCalmsOf", spec := "fnExactCalmsOf", unfollowed := true, recurses := true, apart := false, narrowed := true }
def FnExactCalmsOfUptoSaid : Prop := fnExactCalmsOfUptoRow.holds Try.pinned (OpenSpec.upto fnExactCalmsOfSpec)

/-- 'laws.FnExactSameRose', WHERE WHAT IT READS IS OF BULK AT MOST 1048576: true; the input reads as it did. -/
def fnExactSameRoseUptoRow : OpenClaim := { program := "ytohhkgieggfpeab", sum := "3d0e3f224547b4665df33b0347e4ed890bf06dc1a18af35dbb967c9613cd1ceb", func := "loop.example/g01256/laws.FnExactSameRose", spec := "fnExactSameRose", inPlace := ["math.Float32bits", "math.Float64bits"], unfollowed := true, recurses := true, apart := false, narrowed := true }
def FnExactSameRoseUptoSaid : Prop := fnExactSameRoseUptoRow.holds Try.pinned (OpenSpec.upto fnExactSameRoseSpec)

/-- 'laws.FnExactSmoothWinds', WHERE WHAT IT READS IS OF BULK AT MOST 1048576: true; the input reads as it did. -/
def fnExactSmoothWindsUptoRow : OpenClaim := { program := "ytohhkgieggfpeab", sum := "3d0e3f224547b4665df33b0347e4ed890bf06dc1a18af35dbb967c9613cd1ceb", func := "loop.example/g01256/laws.FnExactSmoothWinds", spec := "fnExactSmoothWinds", unfollowed := true, recurses := true, apart := false, narrowed := true }
def FnExactSmoothWindsUptoSaid : Prop := fnExactSmoothWindsUptoRow.holds Try.pinned (OpenSpec.upto fnExactSmoothWindsSpec)

end Rows
end Go.Proofs.Ytohhkgieggfpeab
