/-
  No cell of these rows narrows 'for every input' (looked for: loops, veiled, ifaces, maps, wideKeys, modest, calm, conditions, laid).
  DERIVED. THE GIVEN ROWS OF THIS SEAT. 12 by the template 'for every input the law returns true; each argument reads behind the call as it read before'; 0 by the template 'total and deterministic' (their statements: YtdmbbllcgpicbaaTotals.lean).
  GIVEN WITH THE SEED: the statements are not yours to turn. If you find one false, say at which input.
  Laid BY PROGRAM, IN A SANDBOX (cutbox-rows.mjs): the forced cells as the released guide's own fill.sh prints them over the translation 77994eb0913ae23a… (all of the seat's roots in one cut). By AI agents, Wed Nov 11 2026. No macro, syntax, notation, axiom, sorry.
-/
import Derived.Test.YtdmbbllcgpicbaaChecked
import GoSem.Claim
import GoSem.ClaimJoined
import GoSem.ClaimMapViews
import Derived.JoinedTies
import Derived.KernelRfl
namespace Go.Proofs.Ytdmbbllcgpicbaa
/- THE CELL 'sum', in the pinned program and in every row, IS THE sha256 OF THE DUMP (.gsa) THAT YtdmbbllcgpicbaaProg.lean LOADS. Nothing in Lean hashes anything: it is a label: what it is worth is what the hold of that sum in a sandbox is worth. -/
noncomputable def Try.pinned : Pinned := { name := "ytdmbbllcgpicbaa", sum := "77994eb0913ae23a8f8483510c0f5e6f8a3cbaa46bc4d57697e2ccbdb4414254", checked := Try.checked }
namespace Rows
def none {H : Type} : Left H := { results := [], args := [] }

/-- 'laws.FnExactGustsOf': WHATEVER THE INPUT: true; the input reads as it did. -/
def fnExactGustsOfSpec : ChangeSpec := { name := "fnExactGustsOf", fn := fun _ => fun
  | [d1, d2, d3, d4, d5, d6] => { results := [.lit (.bool true)], args := [d1, d2, d3, d4, d5, d6] }
  | _ => none }
def fnExactGustsOfRow : OpenClaim := { program := "ytdmbbllcgpicbaa", sum := "77994eb0913ae23a8f8483510c0f5e6f8a3cbaa46bc4d57697e2ccbdb4414254", func := "loop.example/g01256/laws.FnExactGustsOf", spec := "fnExactGustsOf", unfollowed := true, recurses := true, apart := false }
def FnExactGustsOfSaid : Prop := fnExactGustsOfRow.holds Try.pinned (OpenSpec.ofChange fnExactGustsOfSpec)

/-- ITS FALSE NEIGHBOUR: 'it returns false'. Refute it at one input. -/
def fnExactGustsOfWrong : ChangeSpec := { name := "fnExactGustsOf", fn := fun _ => fun
  | [d1, d2, d3, d4, d5, d6] => { results := [.lit (.bool false)], args := [d1, d2, d3, d4, d5, d6] }
  | _ => none }
def FnExactGustsOfWrongFalsely : Prop := fnExactGustsOfRow.holds Try.pinned (OpenSpec.ofChange fnExactGustsOfWrong)

/-- 'laws.FnExactPowerOfRose': WHATEVER THE INPUT: true; the input reads as it did. -/
def fnExactPowerOfRoseSpec : ChangeSpec := { name := "fnExactPowerOfRose", fn := fun _ => fun
  | [d1, d2] => { results := [.lit (.bool true)], args := [d1, d2] }
  | _ => none }
def fnExactPowerOfRoseRow : OpenClaim := { program := "ytdmbbllcgpicbaa", sum := "77994eb0913ae23a8f8483510c0f5e6f8a3cbaa46bc4d57697e2ccbdb4414254", func := "loop.example/g01256/laws.FnExactPowerOfRose", spec := "fnExactPowerOfRose", unfollowed := true, recurses := true, apart := false }
def FnExactPowerOfRoseSaid : Prop := fnExactPowerOfRoseRow.holds Try.pinned (OpenSpec.ofChange fnExactPowerOfRoseSpec)

/-- ITS FALSE NEIGHBOUR: 'it returns false'. Refute it at one input. -/
def fnExactPowerOfRoseWrong : ChangeSpec := { name := "fnExactPowerOfRose", fn := fun _ => fun
  | [d1, d2] => { results := [.lit (.bool false)], args := [d1, d2] }
  | _ => none }
def FnExactPowerOfRoseWrongFalsely : Prop := fnExactPowerOfRoseRow.holds Try.pinned (OpenSpec.ofChange fnExactPowerOfRoseWrong)

/-- 'laws.FnExactStrongestSector': WHATEVER THE INPUT: true; the input reads as it did. -/
def fnExactStrongestSectorSpec : ChangeSpec := { name := "fnExactStrongestSector", fn := fun _ => fun
  | [d] => { results := [.lit (.bool true)], args := [d] }
  | _ => none }
def fnExactStrongestSectorRow : OpenClaim := { program := "ytdmbbllcgpicbaa", sum := "77994eb0913ae23a8f8483510c0f5e6f8a3cbaa46bc4d57697e2ccbdb4414254", func := "loop.example/g01256/laws.FnExactStrongestSector", spec := "fnExactStrongestSector", unfollowed := true, recurses := true, apart := false }
def FnExactStrongestSectorSaid : Prop := fnExactStrongestSectorRow.holds Try.pinned (OpenSpec.ofChange fnExactStrongestSectorSpec)

/-- ITS FALSE NEIGHBOUR: 'it returns false'. Refute it at one input. -/
def fnExactStrongestSectorWrong : ChangeSpec := { name := "fnExactStrongestSector", fn := fun _ => fun
  | [d] => { results := [.lit (.bool false)], args := [d] }
  | _ => none }
def FnExactStrongestSectorWrongFalsely : Prop := fnExactStrongestSectorRow.holds Try.pinned (OpenSpec.ofChange fnExactStrongestSectorWrong)

/-- 'laws.FnExactMeanOfRose': WHATEVER THE INPUT: true; the input reads as it did. -/
def fnExactMeanOfRoseSpec : ChangeSpec := { name := "fnExactMeanOfRose", fn := fun _ => fun
  | [d] => { results := [.lit (.bool true)], args := [d] }
  | _ => none }
def fnExactMeanOfRoseRow : OpenClaim := { program := "ytdmbbllcgpicbaa", sum := "77994eb0913ae23a8f8483510c0f5e6f8a3cbaa46bc4d57697e2ccbdb4414254", func := "loop.example/g01256/laws.FnExactMeanOfRose", spec := "fnExactMeanOfRose", unfollowed := true, recurses := true, apart := false }
def FnExactMeanOfRoseSaid : Prop := fnExactMeanOfRoseRow.holds Try.pinned (OpenSpec.ofChange fnExactMeanOfRoseSpec)

/-- ITS FALSE NEIGHBOUR: 'it returns false'. Refute it at one input. -/
def fnExactMeanOfRoseWrong : ChangeSpec := { name := "fnExactMeanOfRose", fn := fun _ => fun
  | [d] => { results := [.lit (.bool false)], args := [d] }
  | _ => none }
def FnExactMeanOfRoseWrongFalsely : Prop := fnExactMeanOfRoseRow.holds Try.pinned (OpenSpec.ofChange fnExactMeanOfRoseWrong)

/-- 'laws.FnExactTurnRose': WHATEVER THE INPUT: true; the input reads as it did. -/
def fnExactTurnRoseSpec : ChangeSpec := { name := "fnExactTurnRose", fn := fun _ => fun
  | [d1, d2] => { results := [.lit (.bool true)], args := [d1, d2] }
  | _ => none }
def fnExactTurnRoseRow : OpenClaim := { program := "ytdmbbllcgpicbaa", sum := "77994eb0913ae23a8f8483510c0f5e6f8a3cbaa46bc4d57697e2ccbdb4414254", func := "loop.example/g01256/laws.FnExactTurnRose", spec := "fnExactTurnRose", unfollowed := true, recurses := true, apart := false }
def FnExactTurnRoseSaid : Prop := fnExactTurnRoseRow.holds Try.pinned (OpenSpec.ofChange fnExactTurnRoseSpec)

/-- ITS FALSE NEIGHBOUR: 'it returns false'. Refute it at one input. -/
def fnExactTurnRoseWrong : ChangeSpec := { name := "fnExactTurnRose", fn := fun _ => fun
  | [d1, d2] => { results := [.lit (.bool false)], args := [d1, d2] }
  | _ => none }
def FnExactTurnRoseWrongFalsely : Prop := fnExactTurnRoseRow.holds Try.pinned (OpenSpec.ofChange fnExactTurnRoseWrong)

/-- 'laws.FnExactSameRotor': WHATEVER THE INPUT: true; the input reads as it did. -/
def fnExactSameRotorSpec : ChangeSpec := { name := "fnExactSameRotor", fn := fun _ => fun
  | [d1, d2] => { results := [.lit (.bool true)], args := [d1, d2] }
  | _ => none }
def fnExactSameRotorRow : OpenClaim := { program := "ytdmbbllcgpicbaa", sum := "77994eb0913ae23a8f8483510c0f5e6f8a3cbaa46bc4d57697e2ccbdb4414254", func := "loop.example/g01256/laws.FnExactSameRotor", spec := "fnExactSameRotor", inPlace := ["math.Float32bits", "math.Float64bits"], unfollowed := true, recurses := true, apart := false }
def FnExactSameRotorSaid : Prop := fnExactSameRotorRow.holds Try.pinned (OpenSpec.ofChange fnExactSameRotorSpec)

/-- ITS FALSE NEIGHBOUR: 'it returns false'. Refute it at one input. -/
def fnExactSameRotorWrong : ChangeSpec := { name := "fnExactSameRotor", fn := fun _ => fun
  | [d1, d2] => { results := [.lit (.bool false)], args := [d1, d2] }
  | _ => none }
def FnExactSameRotorWrongFalsely : Prop := fnExactSameRotorRow.holds Try.pinned (OpenSpec.ofChange fnExactSameRotorWrong)

/-- 'laws.FnExactMixProfiles': WHATEVER THE INPUT: true; the input reads as it did. -/
def fnExactMixProfilesSpec : ChangeSpec := { name := "fnExactMixProfiles", fn := fun _ => fun
  | [d1, d2, d3] => { results := [.lit (.bool true)], args := [d1, d2, d3] }
  | _ => none }
def fnExactMixProfilesRow : OpenClaim := { program := "ytdmbbllcgpicbaa", sum := "77994eb0913ae23a8f8483510c0f5e6f8a3cbaa46bc4d57697e2ccbdb4414254", func := "loop.example/g01256/laws.FnExactMixProfiles", spec := "fnExactMixProfiles", unfollowed := true, recurses := true, apart := false }
def FnExactMixProfilesSaid : Prop := fnExactMixProfilesRow.holds Try.pinned (OpenSpec.ofChange fnExactMixProfilesSpec)

/-- ITS FALSE NEIGHBOUR: 'it returns false'. Refute it at one input. -/
def fnExactMixProfilesWrong : ChangeSpec := { name := "fnExactMixProfiles", fn := fun _ => fun
  | [d1, d2, d3] => { results := [.lit (.bool false)], args := [d1, d2, d3] }
  | _ => none }
def FnExactMixProfilesWrongFalsely : Prop := fnExactMixProfilesRow.holds Try.pinned (OpenSpec.ofChange fnExactMixProfilesWrong)

/-- 'laws.FnExactValidRotor': WHATEVER THE INPUT: true; the input reads as it did. -/
def fnExactValidRotorSpec : ChangeSpec := { name := "fnExactValidRotor", fn := fun _ => fun
  | [d] => { results := [.lit (.bool true)], args := [d] }
  | _ => none }
def fnExactValidRotorRow : OpenClaim := { program := "ytdmbbllcgpicbaa", sum := "77994eb0913ae23a8f8483510c0f5e6f8a3cbaa46bc4d57697e2ccbdb4414254", func := "loop.example/g01256/laws.FnExactValidRotor", spec := "fnExactValidRotor", unfollowed := true, recurses := true, apart := false }
def FnExactValidRotorSaid : Prop := fnExactValidRotorRow.holds Try.pinned (OpenSpec.ofChange fnExactValidRotorSpec)

/-- ITS FALSE NEIGHBOUR: 'it returns false'. Refute it at one input. -/
def fnExactValidRotorWrong : ChangeSpec := { name := "fnExactValidRotor", fn := fun _ => fun
  | [d] => { results := [.lit (.bool false)], args := [d] }
  | _ => none }
def FnExactValidRotorWrongFalsely : Prop := fnExactValidRotorRow.holds Try.pinned (OpenSpec.ofChange fnExactValidRotorWrong)

/-- 'laws.FnExactTipRatio': WHATEVER THE INPUT: true; the input reads as it did. -/
def fnExactTipRatioSpec : ChangeSpec := { name := "fnExactTipRatio", fn := fun _ => fun
  | [d1, d2, d3] => { results := [.lit (.bool true)], args := [d1, d2, d3] }
  | _ => none }
def fnExactTipRatioRow : OpenClaim := { program := "ytdmbbllcgpicbaa", sum := "77994eb0913ae23a8f8483510c0f5e6f8a3cbaa46bc4d57697e2ccbdb4414254", func := "loop.example/g01256/laws.FnExactTipRatio", spec := "fnExactTipRatio", unfollowed := true, recurses := true, apart := false }
def FnExactTipRatioSaid : Prop := fnExactTipRatioRow.holds Try.pinned (OpenSpec.ofChange fnExactTipRatioSpec)

/-- ITS FALSE NEIGHBOUR: 'it returns false'. Refute it at one input. -/
def fnExactTipRatioWrong : ChangeSpec := { name := "fnExactTipRatio", fn := fun _ => fun
  | [d1, d2, d3] => { results := [.lit (.bool false)], args := [d1, d2, d3] }
  | _ => none }
def FnExactTipRatioWrongFalsely : Prop := fnExactTipRatioRow.holds Try.pinned (OpenSpec.ofChange fnExactTipRatioWrong)

/-- 'laws.FnExactWindThrough': WHATEVER THE INPUT: true; the input reads as it did. -/
def fnExactWindThroughSpec : ChangeSpec := { name := "fnExactWindThrough", fn := fun _ => fun
  | [d1, d2, d3] => { results := [.lit (.bool true)], args := [d1, d2, d3] }
  | _ => none }
def fnExactWindThroughRow : OpenClaim := { program := "ytdmbbllcgpicbaa", sum := "77994eb0913ae23a8f8483510c0f5e6f8a3cbaa46bc4d57697e2ccbdb4414254", func := "loop.example/g01256/laws.FnExactWindThrough", spec := "fnExactWindThrough", unfollowed := true, recurses := true, apart := false }
def FnExactWindThroughSaid : Prop := fnExactWindThroughRow.holds Try.pinned (OpenSpec.ofChange fnExactWindThroughSpec)

/-- ITS FALSE NEIGHBOUR: 'it returns false'. Refute it at one input. -/
def fnExactWindThroughWrong : ChangeSpec := { name := "fnExactWindThrough", fn := fun _ => fun
  | [d1, d2, d3] => { results := [.lit (.bool false)], args := [d1, d2, d3] }
  | _ => none }
def FnExactWindThroughWrongFalsely : Prop := fnExactWindThroughRow.holds Try.pinned (OpenSpec.ofChange fnExactWindThroughWrong)

/-- 'laws.FnExactPlateProfile': WHATEVER THE INPUT: true; the input reads as it did. -/
def fnExactPlateProfileSpec : ChangeSpec := { name := "fnExactPlateProfile", fn := fun _ => fun
  | [d] => { results := [.lit (.bool true)], args := [d] }
  | _ => none }
def fnExactPlateProfileRow : OpenClaim := { program := "ytdmbbllcgpicbaa", sum := "77994eb0913ae23a8f8483510c0f5e6f8a3cbaa46bc4d57697e2ccbdb4414254", func := "loop.example/g01256/laws.FnExactPlateProfile", spec := "fnExactPlateProfile", inPlace := ["math.Float64frombits", "math.Float64bits", "math.archTrunc"], unfollowed := true, recurses := true, apart := false }
def FnExactPlateProfileSaid : Prop := fnExactPlateProfileRow.holds Try.pinned (OpenSpec.ofChange fnExactPlateProfileSpec)

/-- ITS FALSE NEIGHBOUR: 'it returns false'. Refute it at one input. -/
def fnExactPlateProfileWrong : ChangeSpec := { name := "fnExactPlateProfile", fn := fun _ => fun
  | [d] => { results := [.lit (.bool false)], args := [d] }
  | _ => none }
def FnExactPlateProfileWrongFalsely : Prop := fnExactPlateProfileRow.holds Try.pinned (OpenSpec.ofChange fnExactPlateProfileWrong)

/-- 'laws.FnExactSolidityAt': WHATEVER THE INPUT: true; the input reads as it did. -/
def fnExactSolidityAtSpec : ChangeSpec := { name := "fnExactSolidityAt", fn := fun _ => fun
  | [d1, d2] => { results := [.lit (.bool true)], args := [d1, d2] }
  | _ => none }
def fnExactSolidityAtRow : OpenClaim := { program := "ytdmbbllcgpicbaa", sum := "77994eb0913ae23a8f8483510c0f5e6f8a3cbaa46bc4d57697e2ccbdb4414254", func := "loop.example/g01256/laws.FnExactSolidityAt", spec := "fnExactSolidityAt", unfollowed := true, recurses := true, apart := false }
def FnExactSolidityAtSaid : Prop := fnExactSolidityAtRow.holds Try.pinned (OpenSpec.ofChange fnExactSolidityAtSpec)

/-- ITS FALSE NEIGHBOUR: 'it returns false'. Refute it at one input. -/
def fnExactSolidityAtWrong : ChangeSpec := { name := "fnExactSolidityAt", fn := fun _ => fun
  | [d1, d2] => { results := [.lit (.bool false)], args := [d1, d2] }
  | _ => none }
def FnExactSolidityAtWrongFalsely : Prop := fnExactSolidityAtRow.holds Try.pinned (OpenSpec.ofChange fnExactSolidityAtWrong)

/- THE SECOND FORM. 'bulk': how many values and letters a reading holds, each counted each time it is reached (what is shared counts as often as it is met; a slice's spare places count too). A statement '..UptoSaid' is the law's where the arguments, and the package variables that the reading takes, are together of bulk at most 1048576: NARROWER than '..Said'. Prove '..Said' where nothing that the law and all that it calls make is longer than what came in: it says more and counts as full. Else prove '..UptoSaid'. A law counts once. -/
mutual
def uptoBulk {H : Type} : DataW H → Nat
  | .lit (.string bytes) => bytes.length + 1
  | .lit _ => 1
  | .nil => 1
  | .ptr d => uptoBulk d + 1
  | .slice elems spare => uptoBulkAll elems + uptoBulkAll spare + 1
  | .agg parts => uptoBulkAll parts + 1
  | .iface _ d => uptoBulk d + 1
  | .map entries => uptoBulkEntries entries + 1
  | .held _ => 1
def uptoBulkAll {H : Type} : List (DataW H) → Nat
  | [] => 0
  | d :: r => uptoBulk d + uptoBulkAll r
def uptoBulkEntries {H : Type} : List (Lit × DataW H) → Nat
  | [] => 0
  | x :: r => uptoBulkEntry x + uptoBulkEntries r
def uptoBulkEntry {H : Type} : Lit × DataW H → Nat
  | (.string bytes, d) => bytes.length + uptoBulk d + 1
  | (_, d) => uptoBulk d + 1
 end
def uptoSmall : (H : Type) → List (DataW H) → Bool := fun _ ds => decide (uptoBulkAll ds ≤ 1048576)
def OpenSpec.upto (s : _root_.Go.ChangeSpec) : _root_.Go.OpenSpec := { _root_.Go.OpenSpec.ofChange s with cond := some uptoSmall }

/-- 'laws.FnExactGustsOf', WHERE WHAT IT READS IS OF BULK AT MOST 1048576: true; the input reads as it did. -/
def fnExactGustsOfUptoRow : OpenClaim := { program := "ytdmbbllcgpicbaa", sum := "77994eb0913ae23a8f8483510c0f5e6f8a3cbaa46bc4d57697e2ccbdb4414254", func := "loop.example/g01256/laws.FnExactGustsOf", spec := "fnExactGustsOf", unfollowed := true, recurses := true, apart := false, narrowed := true }
def FnExactGustsOfUptoSaid : Prop := fnExactGustsOfUptoRow.holds Try.pinned (OpenSpec.upto fnExactGustsOfSpec)

/-- 'laws.FnExactPowerOfRose', WHERE WHAT IT READS IS OF BULK AT MOST 1048576: true; the input reads as it did. -/
def fnExactPowerOfRoseUptoRow : OpenClaim := { program := "ytdmbbllcgpicbaa", sum := "77994eb0913ae23a8f8483510c0f5e6f8a3cbaa46bc4d57697e2ccbdb4414254", func := "loop.example/g01256/laws.FnExactPowerOfRose", spec := "fnExactPowerOfRose", unfollowed := true, recurses := true, apart := false, narrowed := true }
def FnExactPowerOfRoseUptoSaid : Prop := fnExactPowerOfRoseUptoRow.holds Try.pinned (OpenSpec.upto fnExactPowerOfRoseSpec)

/-- 'laws.FnExactStrongestSector', WHERE WHAT IT READS IS OF BULK AT MOST 1048576: true; the input reads as it did. -/
def fnExactStrongestSectorUptoRow : OpenClaim := { program := "ytdmbbllcgpicbaa", sum := "77994eb0913ae23a8f8483510c0f5e6f8a3cbaa46bc4d57697e2ccbdb4414254", func := "loop.example/g01256/laws.FnExactStrongestSector", spec := "fnExactStrongestSector", unfollowed := true, recurses := true, apart := false, narrowed := true }
def FnExactStrongestSectorUptoSaid : Prop := fnExactStrongestSectorUptoRow.holds Try.pinned (OpenSpec.upto fnExactStrongestSectorSpec)

/-- 'laws.FnExactMeanOfRose', WHERE WHAT IT READS IS OF BULK AT MOST 1048576: true; the input reads as it did. -/
def fnExactMeanOfRoseUptoRow : OpenClaim := { program := "ytdmbbllcgpicbaa", sum := "77994eb0913ae23a8f8483510c0f5e6f8a3cbaa46bc4d57697e2ccbdb4414254", func := "loop.example/g01256/laws.FnExactMeanOfRose", spec := "fnExactMeanOfRose", unfollowed := true, recurses := true, apart := false, narrowed := true }
def FnExactMeanOfRoseUptoSaid : Prop := fnExactMeanOfRoseUptoRow.holds Try.pinned (OpenSpec.upto fnExactMeanOfRoseSpec)

/-- 'laws.FnExactTurnRose', WHERE WHAT IT READS IS OF BULK AT MOST 1048576: true; the input reads as it did. -/
def fnExactTurnRoseUptoRow : OpenClaim := { program := "ytdmbbllcgpicbaa", sum := "77994eb0913ae23a8f8483510c0f5e6f8a3cbaa46bc4d57697e2ccbdb4414254", func := "loop.example/g01256/laws.FnExactTurnRose", spec := "fnExactTurnRose", unfollowed := true, recurses := true, apart := false, narrowed := true }
def FnExactTurnRoseUptoSaid : Prop := fnExactTurnRoseUptoRow.holds Try.pinned (OpenSpec.upto fnExactTurnRoseSpec)

/-- 'laws.FnExactSameRotor', WHERE WHAT IT READS IS OF BULK AT MOST 1048576: true; the input reads as it did. -/
def fnExactSameRotorUptoRow : OpenClaim := { program := "ytdmbbllcgpicbaa", sum := "77994eb0913ae23a8f8483510c0f5e6f8a3cbaa46bc4d57697e2ccbdb4414254", func := "loop.example/g01256/laws.FnExactSameRotor", spec := "fnExactSameRotor", inPlace := ["math.Float32bits", "math.Float64bits"], unfollowed := true, recurses := true, apart := false, narrowed := true }
def FnExactSameRotorUptoSaid : Prop := fnExactSameRotorUptoRow.holds Try.pinned (OpenSpec.upto fnExactSameRotorSpec)

/-- 'laws.FnExactMixProfiles', WHERE WHAT IT READS IS OF BULK AT MOST 1048576: true; the input reads as it did. -/
def fnExactMixProfilesUptoRow : OpenClaim := { program := "ytdmbbllcgpicbaa", sum := "77994eb0913ae23a8f8483510c0f5e6f8a3cbaa46bc4d57697e2ccbdb4414254", func := "loop.example/g01256/laws.FnExactMixProfiles", spec := "fnExactMixProfiles", unfollowed := true, recurses := true, apart := false, narrowed := true }
def FnExactMixProfilesUptoSaid : Prop := fnExactMixProfilesUptoRow.holds Try.pinned (OpenSpec.upto fnExactMixProfilesSpec)

/-- 'laws.FnExactValidRotor', WHERE WHAT IT READS IS OF BULK AT MOST 1048576: true; the input reads as it did. -/
def fnExactValidRotorUptoRow : OpenClaim := { program := "ytdmbbllcgpicbaa", sum := "77994eb0913ae23a8f8483510c0f5e6f8a3cbaa46bc4d57697e2ccbdb4414254", func := "loop.example/g01256/laws.FnExactValidRotor", spec := "fnExactValidRotor", unfollowed := true, recurses := true, apart := false, narrowed := true }
def FnExactValidRotorUptoSaid : Prop := fnExactValidRotorUptoRow.holds Try.pinned (OpenSpec.upto fnExactValidRotorSpec)

/-- 'laws.FnExactTipRatio', WHERE WHAT IT READS IS OF BULK AT MOST 1048576: true; the input reads as it did. -/
def fnExactTipRatioUptoRow : OpenClaim := { program := "ytdmbbllcgpicbaa", sum := "77994eb0913ae23a8f8483510c0f5e6f8a3cbaa46bc4d57697e2ccbdb4414254", func := "loop.example/g01256/laws.FnExactTipRatio", spec := "fnExactTipRatio", unfollowed := true, recurses := true, apart := false, narrowed := true }
def FnExactTipRatioUptoSaid : Prop := fnExactTipRatioUptoRow.holds Try.pinned (OpenSpec.upto fnExactTipRatioSpec)

/-- 'laws.FnExactWindThrough', WHERE WHAT IT READS IS OF BULK AT MOST 1048576: true; the input reads as it did. -/
def fnExactWindThroughUptoRow : OpenClaim := { program := "ytdmbbllcgpicbaa", sum := "77994eb0913ae23a8f8483510c0f5e6f8a3cbaa46bc4d57697e2ccbdb4414254", func := "loop.example/g01256/laws.FnExactWindThrough", spec := "fnExactWindThrough", unfollowed := true, recurses := true, apart := false, narrowed := true }
def FnExactWindThroughUptoSaid : Prop := fnExactWindThroughUptoRow.holds Try.pinned (OpenSpec.upto fnExactWindThroughSpec)

/-- 'laws.FnExactPlateProfile', WHERE WHAT IT READS IS OF BULK AT MOST 1048576: true; the input reads as it did. -/
def fnExactPlateProfileUptoRow : OpenClaim := { program := "ytdmbbllcgpicbaa", sum := "77994eb0913ae23a8f8483510c0f5e6f8a3cbaa46bc4d57697e2ccbdb4414254", func := "loop.example/g01256/laws.FnExactPlateProfile", spec := "fnExactPlateProfile", inPlace := ["math.Float64frombits", "math.Float64bits", "math.archTrunc"], unfollowed := true, recurses := true, apart := false, narrowed := true }
def FnExactPlateProfileUptoSaid : Prop := fnExactPlateProfileUptoRow.holds Try.pinned (OpenSpec.upto fnExactPlateProfileSpec)

/-- 'laws.FnExactSolidityAt', WHERE WHAT IT READS IS OF BULK AT MOST 1048576: true; the input reads as it did. -/
def fnExactSolidityAtUptoRow : OpenClaim := { program := "ytdmbbllcgpicbaa", sum := "77994eb0913ae23a8f8483510c0f5e6f8a3cbaa46bc4d57697e2ccbdb4414254", func := "loop.example/g01256/laws.FnExactSolidityAt", spec := "fnExactSolidityAt", unfollowed := true, recurses := true, apart := false, narrowed := true }
def FnExactSolidityAtUptoSaid : Prop := fnExactSolidityAtUptoRow.holds Try.pinned (OpenSpec.upto fnExactSolidityAtSpec)

end Rows
end Go.Proofs.Ytdmbbllcgpicbaa
