/-
  No cell of these rows narrows 'for every input' (looked for: loops, veiled, ifaces, maps, wideKeys, modest, calm, conditions, laid).
  DERIVED. THE GIVEN ROWS OF THIS SEAT. 11 by the template 'for every input the law returns true; each argument reads behind the call as it read before'; 0 by the template 'total and deterministic' (their statements: YtihlcjjbenkokaaTotals.lean).
  GIVEN WITH THE SEED: the statements are not yours to turn. If you find one false, say at which input.
  Laid BY PROGRAM, IN A SANDBOX (cutbox-rows.mjs): the forced cells as the released guide's own fill.sh prints them over the translation 834c93fbc632194b… (all of the seat's roots in one cut). By AI agents, Wed Nov 11 2026. No macro, syntax, notation, axiom, sorry.
-/
import Derived.Test.YtihlcjjbenkokaaChecked
import GoSem.Claim
import GoSem.ClaimJoined
import GoSem.ClaimMapViews
import Derived.JoinedTies
import Derived.KernelRfl
namespace Go.Proofs.Ytihlcjjbenkokaa
/- THE CELL 'sum', in the pinned program and in every row, IS THE sha256 OF THE DUMP (.gsa) THAT YtihlcjjbenkokaaProg.lean LOADS. Nothing in Lean hashes anything: it is a label: what it is worth is what the hold of that sum in a sandbox is worth. -/
noncomputable def Try.pinned : Pinned := { name := "ytihlcjjbenkokaa", sum := "834c93fbc632194bf08fd0de63f67d35e0e4b855a38281b64a8fa1b3dbea5393", checked := Try.checked }
namespace Rows
def none {H : Type} : Left H := { results := [], args := [] }

/-- 'laws.FnExactSlopeAt': WHATEVER THE INPUT: true; the input reads as it did. -/
def fnExactSlopeAtSpec : ChangeSpec := { name := "fnExactSlopeAt", fn := fun _ => fun
  | [d1, d2] => { results := [.lit (.bool true)], args := [d1, d2] }
  | _ => none }
def fnExactSlopeAtRow : OpenClaim := { program := "ytihlcjjbenkokaa", sum := "834c93fbc632194bf08fd0de63f67d35e0e4b855a38281b64a8fa1b3dbea5393", func := "loop.example/g01256/laws.FnExactSlopeAt", spec := "fnExactSlopeAt", inPlace := ["math.archFloor", "math.Float64bits", "math.Float64frombits", "math.archTrunc"], unfollowed := true, recurses := true, apart := false }
def FnExactSlopeAtSaid : Prop := fnExactSlopeAtRow.holds Try.pinned (OpenSpec.ofChange fnExactSlopeAtSpec)

/-- ITS FALSE NEIGHBOUR: 'it returns false'. Refute it at one input. -/
def fnExactSlopeAtWrong : ChangeSpec := { name := "fnExactSlopeAt", fn := fun _ => fun
  | [d1, d2] => { results := [.lit (.bool false)], args := [d1, d2] }
  | _ => none }
def FnExactSlopeAtWrongFalsely : Prop := fnExactSlopeAtRow.holds Try.pinned (OpenSpec.ofChange fnExactSlopeAtWrong)

/-- 'laws.FnExactDragAt': WHATEVER THE INPUT: true; the input reads as it did. -/
def fnExactDragAtSpec : ChangeSpec := { name := "fnExactDragAt", fn := fun _ => fun
  | [d1, d2] => { results := [.lit (.bool true)], args := [d1, d2] }
  | _ => none }
def fnExactDragAtRow : OpenClaim := { program := "ytihlcjjbenkokaa", sum := "834c93fbc632194bf08fd0de63f67d35e0e4b855a38281b64a8fa1b3dbea5393", func := "loop.example/g01256/laws.FnExactDragAt", spec := "fnExactDragAt", inPlace := ["math.archFloor", "math.Float64bits", "math.Float64frombits", "math.archTrunc"], unfollowed := true, recurses := true, apart := false }
def FnExactDragAtSaid : Prop := fnExactDragAtRow.holds Try.pinned (OpenSpec.ofChange fnExactDragAtSpec)

/-- ITS FALSE NEIGHBOUR: 'it returns false'. Refute it at one input. -/
def fnExactDragAtWrong : ChangeSpec := { name := "fnExactDragAt", fn := fun _ => fun
  | [d1, d2] => { results := [.lit (.bool false)], args := [d1, d2] }
  | _ => none }
def FnExactDragAtWrongFalsely : Prop := fnExactDragAtRow.holds Try.pinned (OpenSpec.ofChange fnExactDragAtWrong)

/-- 'laws.FnExactLiftAt': WHATEVER THE INPUT: true; the input reads as it did. -/
def fnExactLiftAtSpec : ChangeSpec := { name := "fnExactLiftAt", fn := fun _ => fun
  | [d1, d2] => { results := [.lit (.bool true)], args := [d1, d2] }
  | _ => none }
def fnExactLiftAtRow : OpenClaim := { program := "ytihlcjjbenkokaa", sum := "834c93fbc632194bf08fd0de63f67d35e0e4b855a38281b64a8fa1b3dbea5393", func := "loop.example/g01256/laws.FnExactLiftAt", spec := "fnExactLiftAt", inPlace := ["math.archFloor", "math.Float64bits", "math.Float64frombits", "math.archTrunc"], unfollowed := true, recurses := true, apart := false }
def FnExactLiftAtSaid : Prop := fnExactLiftAtRow.holds Try.pinned (OpenSpec.ofChange fnExactLiftAtSpec)

/-- ITS FALSE NEIGHBOUR: 'it returns false'. Refute it at one input. -/
def fnExactLiftAtWrong : ChangeSpec := { name := "fnExactLiftAt", fn := fun _ => fun
  | [d1, d2] => { results := [.lit (.bool false)], args := [d1, d2] }
  | _ => none }
def FnExactLiftAtWrongFalsely : Prop := fnExactLiftAtRow.holds Try.pinned (OpenSpec.ofChange fnExactLiftAtWrong)

/-- 'laws.FnExactLiftApart': WHATEVER THE INPUT: true; the input reads as it did. -/
def fnExactLiftApartSpec : ChangeSpec := { name := "fnExactLiftApart", fn := fun _ => fun
  | [d1, d2, d3, d4] => { results := [.lit (.bool true)], args := [d1, d2, d3, d4] }
  | _ => none }
def fnExactLiftApartRow : OpenClaim := { program := "ytihlcjjbenkokaa", sum := "834c93fbc632194bf08fd0de63f67d35e0e4b855a38281b64a8fa1b3dbea5393", func := "loop.example/g01256/laws.FnExactLiftApart", spec := "fnExactLiftApart", inPlace := ["math.archFloor", "math.Float64bits", "math.Float64frombits", "math.archTrunc"], unfollowed := true, recurses := true, apart := false }
def FnExactLiftApartSaid : Prop := fnExactLiftApartRow.holds Try.pinned (OpenSpec.ofChange fnExactLiftApartSpec)

/-- ITS FALSE NEIGHBOUR: 'it returns false'. Refute it at one input. -/
def fnExactLiftApartWrong : ChangeSpec := { name := "fnExactLiftApart", fn := fun _ => fun
  | [d1, d2, d3, d4] => { results := [.lit (.bool false)], args := [d1, d2, d3, d4] }
  | _ => none }
def FnExactLiftApartWrongFalsely : Prop := fnExactLiftApartRow.holds Try.pinned (OpenSpec.ofChange fnExactLiftApartWrong)

/-- 'laws.FnExactGlideAt': WHATEVER THE INPUT: true; the input reads as it did. -/
def fnExactGlideAtSpec : ChangeSpec := { name := "fnExactGlideAt", fn := fun _ => fun
  | [d1, d2] => { results := [.lit (.bool true)], args := [d1, d2] }
  | _ => none }
def fnExactGlideAtRow : OpenClaim := { program := "ytihlcjjbenkokaa", sum := "834c93fbc632194bf08fd0de63f67d35e0e4b855a38281b64a8fa1b3dbea5393", func := "loop.example/g01256/laws.FnExactGlideAt", spec := "fnExactGlideAt", inPlace := ["math.archFloor", "math.Float64bits", "math.Float64frombits", "math.archTrunc"], unfollowed := true, recurses := true, apart := false }
def FnExactGlideAtSaid : Prop := fnExactGlideAtRow.holds Try.pinned (OpenSpec.ofChange fnExactGlideAtSpec)

/-- ITS FALSE NEIGHBOUR: 'it returns false'. Refute it at one input. -/
def fnExactGlideAtWrong : ChangeSpec := { name := "fnExactGlideAt", fn := fun _ => fun
  | [d1, d2] => { results := [.lit (.bool false)], args := [d1, d2] }
  | _ => none }
def FnExactGlideAtWrongFalsely : Prop := fnExactGlideAtRow.holds Try.pinned (OpenSpec.ofChange fnExactGlideAtWrong)

/-- 'laws.FnExactEvenRotor': WHATEVER THE INPUT: true; the input reads as it did. -/
def fnExactEvenRotorSpec : ChangeSpec := { name := "fnExactEvenRotor", fn := fun _ => fun
  | [d1, d2, d3, d4, d5, d6, d7] => { results := [.lit (.bool true)], args := [d1, d2, d3, d4, d5, d6, d7] }
  | _ => none }
def fnExactEvenRotorRow : OpenClaim := { program := "ytihlcjjbenkokaa", sum := "834c93fbc632194bf08fd0de63f67d35e0e4b855a38281b64a8fa1b3dbea5393", func := "loop.example/g01256/laws.FnExactEvenRotor", spec := "fnExactEvenRotor", unfollowed := true, recurses := true, apart := false }
def FnExactEvenRotorSaid : Prop := fnExactEvenRotorRow.holds Try.pinned (OpenSpec.ofChange fnExactEvenRotorSpec)

/-- ITS FALSE NEIGHBOUR: 'it returns false'. Refute it at one input. -/
def fnExactEvenRotorWrong : ChangeSpec := { name := "fnExactEvenRotor", fn := fun _ => fun
  | [d1, d2, d3, d4, d5, d6, d7] => { results := [.lit (.bool false)], args := [d1, d2, d3, d4, d5, d6, d7] }
  | _ => none }
def FnExactEvenRotorWrongFalsely : Prop := fnExactEvenRotorRow.holds Try.pinned (OpenSpec.ofChange fnExactEvenRotorWrong)

/-- 'laws.FnExactAddKnot': WHATEVER THE INPUT: true; the input reads as it did. -/
def fnExactAddKnotSpec : ChangeSpec := { name := "fnExactAddKnot", fn := fun _ => fun
  | [d1, d2, d3, d4] => { results := [.lit (.bool true)], args := [d1, d2, d3, d4] }
  | _ => none }
def fnExactAddKnotRow : OpenClaim := { program := "ytihlcjjbenkokaa", sum := "834c93fbc632194bf08fd0de63f67d35e0e4b855a38281b64a8fa1b3dbea5393", func := "loop.example/g01256/laws.FnExactAddKnot", spec := "fnExactAddKnot", inPlace := ["slices.overlaps[float32]"], unfollowed := true, recurses := true, apart := false }
def FnExactAddKnotSaid : Prop := fnExactAddKnotRow.holds Try.pinned (OpenSpec.ofChange fnExactAddKnotSpec)

/-- ITS FALSE NEIGHBOUR: 'it returns false'. Refute it at one input. -/
def fnExactAddKnotWrong : ChangeSpec := { name := "fnExactAddKnot", fn := fun _ => fun
  | [d1, d2, d3, d4] => { results := [.lit (.bool false)], args := [d1, d2, d3, d4] }
  | _ => none }
def FnExactAddKnotWrongFalsely : Prop := fnExactAddKnotRow.holds Try.pinned (OpenSpec.ofChange fnExactAddKnotWrong)

/-- 'laws.FnExactTipShareAt': WHATEVER THE INPUT: true; the input reads as it did. -/
def fnExactTipShareAtSpec : ChangeSpec := { name := "fnExactTipShareAt", fn := fun _ => fun
  | [d1, d2, d3] => { results := [.lit (.bool true)], args := [d1, d2, d3] }
  | _ => none }
def fnExactTipShareAtRow : OpenClaim := { program := "ytihlcjjbenkokaa", sum := "834c93fbc632194bf08fd0de63f67d35e0e4b855a38281b64a8fa1b3dbea5393", func := "loop.example/g01256/laws.FnExactTipShareAt", spec := "fnExactTipShareAt", inPlace := ["math.Float64frombits", "math.Float64bits", "math.archTrunc"], unfollowed := true, recurses := true, apart := false }
def FnExactTipShareAtSaid : Prop := fnExactTipShareAtRow.holds Try.pinned (OpenSpec.ofChange fnExactTipShareAtSpec)

/-- ITS FALSE NEIGHBOUR: 'it returns false'. Refute it at one input. -/
def fnExactTipShareAtWrong : ChangeSpec := { name := "fnExactTipShareAt", fn := fun _ => fun
  | [d1, d2, d3] => { results := [.lit (.bool false)], args := [d1, d2, d3] }
  | _ => none }
def FnExactTipShareAtWrongFalsely : Prop := fnExactTipShareAtRow.holds Try.pinned (OpenSpec.ofChange fnExactTipShareAtWrong)

/-- 'laws.FnExactTwistRotor': WHATEVER THE INPUT: true; the input reads as it did. -/
def fnExactTwistRotorSpec : ChangeSpec := { name := "fnExactTwistRotor", fn := fun _ => fun
  | [d1, d2] => { results := [.lit (.bool true)], args := [d1, d2] }
  | _ => none }
def fnExactTwistRotorRow : OpenClaim := { program := "ytihlcjjbenkokaa", sum := "834c93fbc632194bf08fd0de63f67d35e0e4b855a38281b64a8fa1b3dbea5393", func := "loop.example/g01256/laws.FnExactTwistRotor", spec := "fnExactTwistRotor", unfollowed := true, recurses := true, apart := false }
def FnExactTwistRotorSaid : Prop := fnExactTwistRotorRow.holds Try.pinned (OpenSpec.ofChange fnExactTwistRotorSpec)

/-- ITS FALSE NEIGHBOUR: 'it returns false'. Refute it at one input. -/
def fnExactTwistRotorWrong : ChangeSpec := { name := "fnExactTwistRotor", fn := fun _ => fun
  | [d1, d2] => { results := [.lit (.bool false)], args := [d1, d2] }
  | _ => none }
def FnExactTwistRotorWrongFalsely : Prop := fnExactTwistRotorRow.holds Try.pinned (OpenSpec.ofChange fnExactTwistRotorWrong)

/-- 'laws.FnExactSetStation': WHATEVER THE INPUT: true; the input reads as it did. -/
def fnExactSetStationSpec : ChangeSpec := { name := "fnExactSetStation", fn := fun _ => fun
  | [d1, d2, d3] => { results := [.lit (.bool true)], args := [d1, d2, d3] }
  | _ => none }
def fnExactSetStationRow : OpenClaim := { program := "ytihlcjjbenkokaa", sum := "834c93fbc632194bf08fd0de63f67d35e0e4b855a38281b64a8fa1b3dbea5393", func := "loop.example/g01256/laws.FnExactSetStation", spec := "fnExactSetStation", unfollowed := true, recurses := true, apart := false }
def FnExactSetStationSaid : Prop := fnExactSetStationRow.holds Try.pinned (OpenSpec.ofChange fnExactSetStationSpec)

/-- ITS FALSE NEIGHBOUR: 'it returns false'. Refute it at one input. -/
def fnExactSetStationWrong : ChangeSpec := { name := "fnExactSetStation", fn := fun _ => fun
  | [d1, d2, d3] => { results := [.lit (.bool false)], args := [d1, d2, d3] }
  | _ => none }
def FnExactSetStationWrongFalsely : Prop := fnExactSetStationRow.holds Try.pinned (OpenSpec.ofChange fnExactSetStationWrong)

/-- 'laws.FnExactScaleRotor': WHATEVER THE INPUT: true; the input reads as it did. -/
def fnExactScaleRotorSpec : ChangeSpec := { name := "fnExactScaleRotor", fn := fun _ => fun
  | [d1, d2] => { results := [.lit (.bool true)], args := [d1, d2] }
  | _ => none }
def fnExactScaleRotorRow : OpenClaim := { program := "ytihlcjjbenkokaa", sum := "834c93fbc632194bf08fd0de63f67d35e0e4b855a38281b64a8fa1b3dbea5393", func := "loop.example/g01256/laws.FnExactScaleRotor", spec := "fnExactScaleRotor", unfollowed := true, recurses := true, apart := false }
def FnExactScaleRotorSaid : Prop := fnExactScaleRotorRow.holds Try.pinned (OpenSpec.ofChange fnExactScaleRotorSpec)

/-- ITS FALSE NEIGHBOUR: 'it returns false'. Refute it at one input. -/
def fnExactScaleRotorWrong : ChangeSpec := { name := "fnExactScaleRotor", fn := fun _ => fun
  | [d1, d2] => { results := [.lit (.bool false)], args := [d1, d2] }
  | _ => none }
def FnExactScaleRotorWrongFalsely : Prop := fnExactScaleRotorRow.holds Try.pinned (OpenSpec.ofChange fnExactScaleRotorWrong)

/- THE SECOND FORM. 'bulk': how many values and letters a reading holds, each counted each time it is reached (what is shared counts as often as it is met; a slice's spare places count too). A statement '..UptoSaid' is the law's where the arguments, and the package variables that the reading takes, are together of bulk at most 1048576: NARROWER than '..Said'. Prove '..Said' where nothing that the law and all that it calls make is longer than what came in: it says more and counts as full. Else prove '..UptoSaid'. A law counts once. -/
mutual
def uptoBulk {H : Type} : DataW H → Nat
  | .lit (.string bytes) => bytes.length + 1
  | .lit _ => 1
  | .nil => 1
  | .ptr d => uptoBulk d + 1
  | .slice elems spare => uptoBulkAll elems + uptoBulkAll spare + 1
  | .agg parts => uptoBulkAll parts + 1
  | .iface _ d => uptoBulk d + 1
  | .map entries => uptoBulkEntries entries + 1
  | .held _ => 1
def uptoBulkAll {H : Type} : List (DataW H) → Nat
  | [] => 0
  | d :: r => uptoBulk d + uptoBulkAll r
def uptoBulkEntries {H : Type} : List (Lit × DataW H) → Nat
  | [] => 0
  | x :: r => uptoBulkEntry x + uptoBulkEntries r
def uptoBulkEntry {H : Type} : Lit × DataW H → Nat
  | (.string bytes, d) => bytes.length + uptoBulk d + 1
  | (_, d) => uptoBulk d + 1
 end
def uptoSmall : (H : Type) → List (DataW H) → Bool := fun _ ds => decide (uptoBulkAll ds ≤ 1048576)
def OpenSpec.upto (s : _root_.Go.ChangeSpec) : _root_.Go.OpenSpec := { _root_.Go.OpenSpec.ofChange s with cond := some uptoSmall }

/-- 'laws.FnExactSlopeAt', WHERE WHAT IT READS IS OF BULK AT MOST 1048576: true; the input reads as it did. -/
def fnExactSlopeAtUptoRow : OpenClaim := { program := "ytihlcjjbenkokaa", sum := "834c93fbc632194bf08fd0de63f67d35e0e4b855a38281b64a8fa1b3dbea5393", func := "loop.example/g01256/laws.FnExactSlopeAt", spec := "fnExactSlopeAt", inPlace := ["math.archFloor", "math.Float64bits", "math.Float64frombits", "math.archTrunc"], unfollowed := true, recurses := true, apart := false, narrowed := true }
def FnExactSlopeAtUptoSaid : Prop := fnExactSlopeAtUptoRow.holds Try.pinned (OpenSpec.upto fnExactSlopeAtSpec)

/-- 'laws.FnExactDragAt', WHERE WHAT IT READS IS OF BULK AT MOST 1048576: true; the input reads as it did. -/
def fnExactDragAtUptoRow : OpenClaim := { program := "ytihlcjjbenkokaa", sum := "834c93fbc632194bf08fd0de63f67d35e0e4b855a38281b64a8fa1b3dbea5393", func := "loop.example/g01256/laws.FnExactDragAt", spec := "fnExactDragAt", inPlace := ["math.archFloor", "math.Float64bits", "math.Float64frombits", "math.archTrunc"], unfollowed := true, recurses := true, apart := false, narrowed := true }
def FnExactDragAtUptoSaid : Prop := fnExactDragAtUptoRow.holds Try.pinned (OpenSpec.upto fnExactDragAtSpec)

/-- 'laws.FnExactLiftAt', WHERE WHAT IT READS IS OF BULK AT MOST 1048576: true; the input reads as it did. -/
def fnExactLiftAtUptoRow : OpenClaim := { program := "ytihlcjjbenkokaa", sum := "834c93fbc632194bf08fd0de63f67d35e0e4b855a38281b64a8fa1b3dbea5393", func := "loop.example/g01256/laws.FnExactLiftAt", spec := "fnExactLiftAt", inPlace := ["math.archFloor", "math.Float64bits", "math.Float64frombits", "math.archTrunc"], unfollowed := true, recurses := true, apart := false, narrowed := true }
def FnExactLiftAtUptoSaid : Prop := fnExactLiftAtUptoRow.holds Try.pinned (OpenSpec.upto fnExactLiftAtSpec)

/-- 'laws.FnExactLiftApart', WHERE WHAT IT READS IS OF BULK AT MOST 1048576: true; the input reads as it did. -/
def fnExactLiftApartUptoRow : OpenClaim := { program := "ytihlcjjbenkokaa", sum := "834c93fbc632194bf08fd0de63f67d35e0e4b855a38281b64a8fa1b3dbea5393", func := "loop.example/g01256/laws.FnExactLiftApart", spec := "fnExactLiftApart", inPlace := ["math.archFloor", "math.Float64bits", "math.Float64frombits", "math.archTrunc"], unfollowed := true, recurses := true, apart := false, narrowed := true }
def FnExactLiftApartUptoSaid : Prop := fnExactLiftApartUptoRow.holds Try.pinned (OpenSpec.upto fnExactLiftApartSpec)

/-- 'laws.FnExactGlideAt', WHERE WHAT IT READS IS OF BULK AT MOST 1048576: true; the input reads as it did. -/
def fnExactGlideAtUptoRow : OpenClaim := { program := "ytihlcjjbenkokaa", sum := "834c93fbc632194bf08fd0de63f67d35e0e4b855a38281b64a8fa1b3dbea5393", func := "loop.example/g01256/laws.FnExactGlideAt", spec := "fnExactGlideAt", inPlace := ["math.archFloor", "math.Float64bits", "math.Float64frombits", "math.archTrunc"], unfollowed := true, recurses := true, apart := false, narrowed := true }
def FnExactGlideAtUptoSaid : Prop := fnExactGlideAtUptoRow.holds Try.pinned (OpenSpec.upto fnExactGlideAtSpec)

/-- 'laws.FnExactEvenRotor', WHERE WHAT IT READS IS OF BULK AT MOST 1048576: true; the input reads as it did. -/
def fnExactEvenRotorUptoRow : OpenClaim := { program := "ytihlcjjbenkokaa", sum := "834c93fbc632194bf08fd0de63f67d35e0e4b855a38281b64a8fa1b3dbea5393", func := "loop.example/g01256/laws.FnExactEvenRotor", spec := "fnExactEvenRotor", unfollowed := true, recurses := true, apart := false, narrowed := true }
def FnExactEvenRotorUptoSaid : Prop := fnExactEvenRotorUptoRow.holds Try.pinned (OpenSpec.upto fnExactEvenRotorSpec)

/-- 'laws.FnExactAddKnot', WHERE WHAT IT READS IS OF BULK AT MOST 1048576: true; the input reads as it did. -/
def fnExactAddKnotUptoRow : OpenClaim := { program := "ytihlcjjbenkokaa", sum := "834c93fbc632194bf08fd0de63f67d35e0e4b855a38281b64a8fa1b3dbea5393", func := "loop.example/g01256/laws.FnExactAddKnot", spec := "fnExactAddKnot", inPlace := ["slices.overlaps[float32]"], unfollowed := true, recurses := true, apart := false, narrowed := true }
def FnExactAddKnotUptoSaid : Prop := fnExactAddKnotUptoRow.holds Try.pinned (OpenSpec.upto fnExactAddKnotSpec)

/-- 'laws.FnExactTipShareAt', WHERE WHAT IT READS IS OF BULK AT MOST 1048576: true; the input reads as it did. -/
def fnExactTipShareAtUptoRow : OpenClaim := { program := "ytihlcjjbenkokaa", sum := "834c93fbc632194bf08fd0de63f67d35e0e4b855a38281b64a8fa1b3dbea5393", func := "loop.example/g01256/laws.FnExactTipShareAt", spec := "fnExactTipShareAt", inPlace := ["math.Float64frombits", "math.Float64bits", "math.archTrunc"], unfollowed := true, recurses := true, apart := false, narrowed := true }
def FnExactTipShareAtUptoSaid : Prop := fnExactTipShareAtUptoRow.holds Try.pinned (OpenSpec.upto fnExactTipShareAtSpec)

/-- 'laws.FnExactTwistRotor', WHERE WHAT IT READS IS OF BULK AT MOST 1048576: true; the input reads as it did. -/
def fnExactTwistRotorUptoRow : OpenClaim := { program := "ytihlcjjbenkokaa", sum := "834c93fbc632194bf08fd0de63f67d35e0e4b855a38281b64a8fa1b3dbea5393", func := "loop.example/g01256/laws.FnExactTwistRotor", spec := "fnExactTwistRotor", unfollowed := true, recurses := true, apart := false, narrowed := true }
def FnExactTwistRotorUptoSaid : Prop := fnExactTwistRotorUptoRow.holds Try.pinned (OpenSpec.upto fnExactTwistRotorSpec)

/-- 'laws.FnExactSetStation', WHERE WHAT IT READS IS OF BULK AT MOST 1048576: true; the input reads as it did. -/
def fnExactSetStationUptoRow : OpenClaim := { program := "ytihlcjjbenkokaa", sum := "834c93fbc632194bf08fd0de63f67d35e0e4b855a38281b64a8fa1b3dbea5393", func := "loop.example/g01256/laws.FnExactSetStation", spec := "fnExactSetStation", unfollowed := true, recurses := true, apart := false, narrowed := true }
def FnExactSetStationUptoSaid : Prop := fnExactSetStationUptoRow.holds Try.pinned (OpenSpec.upto fnExactSetStationSpec)

/-- 'laws.FnExactScaleRotor', WHERE WHAT IT READS IS OF BULK AT MOST 1048576: true; the input reads as it did. -/
def fnExactScaleRotorUptoRow : OpenClaim := { program := "ytihlcjjbenkokaa", sum := "834c93fbc632194bf08fd0de63f67d35e0e4b855a38281b64a8fa1b3dbea5393", func := "loop.example/g01256/laws.FnExactScaleRotor", spec := "fnExactScaleRotor", unfollowed := true, recurses := true, apart := false, narrowed := true }
def FnExactScaleRotorUptoSaid : Prop := fnExactScaleRotorUptoRow.holds Try.pinned (OpenSpec.upto fnExactScaleRotorSpec)

end Rows
end Go.Proofs.Ytihlcjjbenkokaa
