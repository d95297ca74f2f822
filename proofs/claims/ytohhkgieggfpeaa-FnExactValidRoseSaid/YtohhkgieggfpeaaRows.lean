/-
  No cell of these rows narrows 'for every input' (looked for: loops, veiled, ifaces, maps, wideKeys, modest, calm, conditions, laid).
  DERIVED. THE GIVEN ROWS OF THIS SEAT. 6 by the template 'for every input the law returns true; each argument reads behind the call as it read before'; 0 by the template 'total and deterministic' (their statements: YtohhkgieggfpeaaTotals.lean).
  GIVEN WITH THE SEED: the statements are not yours to turn. If you find one false, say at which input.
  Laid BY PROGRAM, IN A SANDBOX (cutbox-rows.mjs): the forced cells as the released guide's own fill.sh prints them over the translation ad45747e5737e2f4… (all of the seat's roots in one cut). By AI agents, Wed Nov 11 2026. No macro, syntax, notation, axiom, sorry.
-/
import Derived.Test.YtohhkgieggfpeaaChecked
import GoSem.Claim
import GoSem.ClaimJoined
import GoSem.ClaimMapViews
import Derived.JoinedTies
import Derived.KernelRfl
namespace Go.Proofs.Ytohhkgieggfpeaa
/- THE CELL 'sum', in the pinned program and in every row, IS THE sha256 OF THE DUMP (.gsa) THAT YtohhkgieggfpeaaProg.lean LOADS. Nothing in Lean hashes anything: it is a label: what it is worth is what the hold of that sum in a sandbox is worth. -/
noncomputable def Try.pinned : Pinned := { name := "ytohhkgieggfpeaa", sum := "ad45747e5737e2f4eede097a93de41d1e28d1929c5620101cc22076794a81166", checked := Try.checked }
namespace Rows
def none {H : Type} : Left H := { results := [], args := [] }

/-- 'laws.FnExactSameAir': WHATEVER THE INPUT: true; the input reads as it did. -/
def fnExactSameAirSpec : ChangeSpec := { name := "fnExactSameAir", fn := fun _ => fun
  | [d1, d2] => { results := [.lit (.bool true)], args := [d1, d2] }
  | _ => none }
def fnExactSameAirRow : OpenClaim := { program := "ytohhkgieggfpeaa", sum := "ad45747e5737e2f4eede097a93de41d1e28d1929c5620101cc22076794a81166", func := "loop.example/g01256/laws.FnExactSameAir", spec := "fnExactSameAir", inPlace := ["math.Float32bits", "math.Float64bits"], apart := false }
def FnExactSameAirSaid : Prop := fnExactSameAirRow.holds Try.pinned (OpenSpec.ofChange fnExactSameAirSpec)

/-- ITS FALSE NEIGHBOUR: 'it returns false'. Refute it at one input. -/
def fnExactSameAirWrong : ChangeSpec := { name := "fnExactSameAir", fn := fun _ => fun
  | [d1, d2] => { results := [.lit (.bool false)], args := [d1, d2] }
  | _ => none }
def FnExactSameAirWrongFalsely : Prop := fnExactSameAirRow.holds Try.pinned (OpenSpec.ofChange fnExactSameAirWrong)

/-- 'laws.FnExactValidAir': WHATEVER THE INPUT: true; the input reads as it did. -/
def fnExactValidAirSpec : ChangeSpec := { name := "fnExactValidAir", fn := fun _ => fun
  | [d] => { results := [.lit (.bool true)], args := [d] }
  | _ => none }
def fnExactValidAirRow : OpenClaim := { program := "ytohhkgieggfpeaa", sum := "ad45747e5737e2f4eede097a93de41d1e28d1929c5620101cc22076794a81166", func := "loop.example/g01256/laws.FnExactValidAir", spec := "fnExactValidAir", unfollowed := true, recurses := true, apart := false }
def FnExactValidAirSaid : Prop := fnExactValidAirRow.holds Try.pinned (OpenSpec.ofChange fnExactValidAirSpec)

/-- ITS FALSE NEIGHBOUR: 'it returns false'. Refute it at one input. -/
def fnExactValidAirWrong : ChangeSpec := { name := "fnExactValidAir", fn := fun _ => fun
  | [d] => { results := [.lit (.bool false)], args := [d] }
  | _ => none }
def FnExactValidAirWrongFalsely : Prop := fnExactValidAirRow.holds Try.pinned (OpenSpec.ofChange fnExactValidAirWrong)

/-- 'laws.FnExactAirPower': WHATEVER THE INPUT: true; the input reads as it did. -/
def fnExactAirPowerSpec : ChangeSpec := { name := "fnExactAirPower", fn := fun _ => fun
  | [d1, d2] => { results := [.lit (.bool true)], args := [d1, d2] }
  | _ => none }
def fnExactAirPowerRow : OpenClaim := { program := "ytohhkgieggfpeaa", sum := "ad45747e5737e2f4eede097a93de41d1e28d1929c5620101cc22076794a81166", func := "loop.example/g01256/laws.FnExactAirPower", spec := "fnExactAirPower", unfollowed := true, recurses := true, apart := false }
def FnExactAirPowerSaid : Prop := fnExactAirPowerRow.holds Try.pinned (OpenSpec.ofChange fnExactAirPowerSpec)

/-- ITS FALSE NEIGHBOUR: 'it returns false'. Refute it at one input. -/
def fnExactAirPowerWrong : ChangeSpec := { name := "fnExactAirPower", fn := fun _ => fun
  | [d1, d2] => { results := [.lit (.bool false)], args := [d1, d2] }
  | _ => none }
def FnExactAirPowerWrongFalsely : Prop := fnExactAirPowerRow.holds Try.pinned (OpenSpec.ofChange fnExactAirPowerWrong)

/-- 'laws.FnExactDensityAtHeight': WHATEVER THE INPUT: true; the input reads as it did. -/
def fnExactDensityAtHeightSpec : ChangeSpec := { name := "fnExactDensityAtHeight", fn := fun _ => fun
  | [d1, d2] => { results := [.lit (.bool true)], args := [d1, d2] }
  | _ => none }
def fnExactDensityAtHeightRow : OpenClaim := { program := "ytohhkgieggfpeaa", sum := "ad45747e5737e2f4eede097a93de41d1e28d1929c5620101cc22076794a81166", func := "loop.example/g01256/laws.FnExactDensityAtHeight", spec := "fnExactDensityAtHeight", unfollowed := true, recurses := true, apart := false }
def FnExactDensityAtHeightSaid : Prop := fnExactDensityAtHeightRow.holds Try.pinned (OpenSpec.ofChange fnExactDensityAtHeightSpec)

/-- ITS FALSE NEIGHBOUR: 'it returns false'. Refute it at one input. -/
def fnExactDensityAtHeightWrong : ChangeSpec := { name := "fnExactDensityAtHeight", fn := fun _ => fun
  | [d1, d2] => { results := [.lit (.bool false)], args := [d1, d2] }
  | _ => none }
def FnExactDensityAtHeightWrongFalsely : Prop := fnExactDensityAtHeightRow.holds Try.pinned (OpenSpec.ofChange fnExactDensityAtHeightWrong)

/-- 'laws.FnExactSpeedAtHeight': WHATEVER THE INPUT: true; the input reads as it did. -/
def fnExactSpeedAtHeightSpec : ChangeSpec := { name := "fnExactSpeedAtHeight", fn := fun _ => fun
  | [d1, d2] => { results := [.lit (.bool true)], args := [d1, d2] }
  | _ => none }
def fnExactSpeedAtHeightRow : OpenClaim := { program := "ytohhkgieggfpeaa", sum := "ad45747e5737e2f4eede097a93de41d1e28d1929c5620101cc22076794a81166", func := "loop.example/g01256/laws.FnExactSpeedAtHeight", spec := "fnExactSpeedAtHeight", unfollowed := true, recurses := true, apart := false }
def FnExactSpeedAtHeightSaid : Prop := fnExactSpeedAtHeightRow.holds Try.pinned (OpenSpec.ofChange fnExactSpeedAtHeightSpec)

/-- ITS FALSE NEIGHBOUR: 'it returns false'. Refute it at one input. -/
def fnExactSpeedAtHeightWrong : ChangeSpec := { name := "fnExactSpeedAtHeight", fn := fun _ => fun
  | [d1, d2] => { results := [.lit (.bool false)], args := [d1, d2] }
  | _ => none }
def FnExactSpeedAtHeightWrongFalsely : Prop := fnExactSpeedAtHeightRow.holds Try.pinned (OpenSpec.ofChange fnExactSpeedAtHeightWrong)

/-- 'laws.FnExactValidRose': WHATEVER THE INPUT: true; the input reads as it did. -/
def fnExactValidRoseSpec : ChangeSpec := { name := "fnExactValidRose", fn := fun _ => fun
  | [d] => { results := [.lit (.bool true)], args := [d] }
  | _ => none }
def fnExactValidRoseRow : OpenClaim := { program := "ytohhkgieggfpeaa", sum := "ad45747e5737e2f4eede097a93de41d1e28d1929c5620101cc22076794a81166", func := "loop.example/g01256/laws.FnExactValidRose", spec := "fnExactValidRose", unfollowed := true, recurses := true, apart := false }
def FnExactValidRoseSaid : Prop := fnExactValidRoseRow.holds Try.pinned (OpenSpec.ofChange fnExactValidRoseSpec)

/-- ITS FALSE NEIGHBOUR: 'it returns false'. Refute it at one input. -/
def fnExactValidRoseWrong : ChangeSpec := { name := "fnExactValidRose", fn := fun _ => fun
  | [d] => { results := [.lit (.bool false)], args := [d] }
  | _ => none }
def FnExactValidRoseWrongFalsely : Prop := fnExactValidRoseRow.holds Try.pinned (OpenSpec.ofChange fnExactValidRoseWrong)

/- THE SECOND FORM. 'bulk': how many values and letters a reading holds, each counted each time it is reached (what is shared counts as often as it is met; a slice's spare places count too). A statement '..UptoSaid' is the law's where the arguments, and the package variables that the reading takes, are together of bulk at most 1048576: NARROWER than '..Said'. Prove '..Said' where nothing that the law and all that it calls make is longer than what came in: it says more and counts as full. Else prove '..UptoSaid'. A law counts once. -/
mutual
def uptoBulk {H : Type} : DataW H → Nat
  | .lit (.string bytes) => bytes.length + 1
  | .lit _ => 1
  | .nil => 1
  | .ptr d => uptoBulk d + 1
  | .slice elems spare => uptoBulkAll elems + uptoBulkAll spare + 1
  | .agg parts => uptoBulkAll parts + 1
  | .iface _ d => uptoBulk d + 1
  | .map entries => uptoBulkEntries entries + 1
  | .held _ => 1
def uptoBulkAll {H : Type} : List (DataW H) → Nat
  | [] => 0
  | d :: r => uptoBulk d + uptoBulkAll r
def uptoBulkEntries {H : Type} : List (Lit × DataW H) → Nat
  | [] => 0
  | x :: r => uptoBulkEntry x + uptoBulkEntries r
def uptoBulkEntry {H : Type} : Lit × DataW H → Nat
  | (.string bytes, d) => bytes.length + uptoBulk d + 1
  | (_, d) => uptoBulk d + 1
 end
def uptoSmall : (H : Type) → List (DataW H) → Bool := fun _ ds => decide (uptoBulkAll ds ≤ 1048576)
def OpenSpec.upto (s : _root_.Go.ChangeSpec) : _root_.Go.OpenSpec := { _root_.Go.OpenSpec.ofChange s with cond := some uptoSmall }

/-- 'laws.FnExactSameAir', WHERE WHAT IT READS IS OF BULK AT MOST 1048576: true; the input reads as it did. -/
def fnExactSameAirUptoRow : OpenClaim := { program := "ytohhkgieggfpeaa", sum := "ad45747e5737e2f4eede097a93de41d1e28d1929c5620101cc22076794a81166", func := "loop.example/g01256/laws.FnExactSameAir", spec := "fnExactSameAir", inPlace := ["math.Float32bits", "math.Float64bits"], apart := false, narrowed := true }
def FnExactSameAirUptoSaid : Prop := fnExactSameAirUptoRow.holds Try.pinned (OpenSpec.upto fnExactSameAirSpec)

/-- 'laws.FnExactValidAir', WHERE WHAT IT READS IS OF BULK AT MOST 1048576: true; the input reads as it did. -/
def fnExactValidAirUptoRow : OpenClaim := { program := "ytohhkgieggfpeaa", sum := "ad45747e5737e2f4eede097a93de41d1e28d1929c5620101cc22076794a81166", func := "loop.example/g01256/laws.FnExactValidAir", spec := "fnExactValidAir", unfollowed := true, recurses := true, apart := false, narrowed := true }
def FnExactValidAirUptoSaid : Prop := fnExactValidAirUptoRow.holds Try.pinned (OpenSpec.upto fnExactValidAirSpec)

/-- 'laws.FnExactAirPower', WHERE WHAT IT READS IS OF BULK AT MOST 1048576: true; the input reads as it did. -/
def fnExactAirPowerUptoRow : OpenClaim := { program := "ytohhkgieggfpeaa", sum := "ad45747e5737e2f4eede097a93de41d1e28d1929c5620101cc22076794a81166", func := "loop.example/g01256/laws.FnExactAirPower", spec := "fnExactAirPower", unfollowed := true, recurses := true, apart := false, narrowed := true }
def FnExactAirPowerUptoSaid : Prop := fnExactAirPowerUptoRow.holds Try.pinned (OpenSpec.upto fnExactAirPowerSpec)

/-- 'laws.FnExactDensityAtHeight', WHERE WHAT IT READS IS OF BULK AT MOST 1048576: true; the input reads as it did. -/
def fnExactDensityAtHeightUptoRow : OpenClaim := { program := "ytohhkgieggfpeaa", sum := "ad45747e5737e2f4eede097a93de41d1e28d1929c5620101cc22076794a81166", func := "loop.example/g01256/laws.FnExactDensityAtHeight", spec := "fnExactDensityAtHeight", unfollowed := true, recurses := true, apart := false, narrowed := true }
def FnExactDensityAtHeightUptoSaid : Prop := fnExactDensityAtHeightUptoRow.holds Try.pinned (OpenSpec.upto fnExactDensityAtHeightSpec)

/-- 'laws.FnExactSpeedAtHeight', WHERE WHAT IT READS IS OF BULK AT MOST 1048576: true; the input reads as it did. -/
def fnExactSpeedAtHeightUptoRow : OpenClaim := { program := "ytohhkgieggfpeaa", sum := "ad45747e5737e2f4eede097a93de41d1e28d1929c5620101cc22076794a81166", func := "loop.example/g01256/laws.FnExactSpeedAtHeight", spec := "fnExactSpeedAtHeight", unfollowed := true, recurses := true, apart := false, narrowed := true }
def FnExactSpeedAtHeightUptoSaid : Prop := fnExactSpeedAtHeightUptoRow.holds Try.pinned (OpenSpec.upto fnExactSpeedAtHeightSpec)

/-- 'laws.FnExactValidRose', WHERE WHAT IT READS IS OF BULK AT MOST 1048576: true; the input reads as it did. -/
def fnExactValidRoseUptoRow : OpenClaim := { program := "ytohhkgieggfpeaa", sum := "ad45747e5737e2f4eede097a93de41d1e28d1929c5620101cc22076794a81166", func := "loop.example/g01256/laws.FnExactValidRose", spec := "fnExactValidRose", unfollowed := true, recurses := true, apart := false, narrowed := true }
def FnExactValidRoseUptoSaid : Prop := fnExactValidRoseUptoRow.holds Try.pinned (OpenSpec.upto fnExactValidRoseSpec)

end Rows
end Go.Proofs.Ytohhkgieggfpeaa
