/-
  No cell of these rows narrows 'for every input' (looked for: loops, veiled, ifaces, maps, wideKeys, modest, calm, conditions, laid).
  DERIVED. THE GIVEN ROWS OF THIS SEAT. 12 by the template 'for every input the law returns true; each argument reads behind the call as it read before'; 0 by the template 'total and deterministic' (their statements: YtlmigknkcghpcaaTotals.lean).
  GIVEN WITH THE SEED: the statements are not yours to turn. If you find one false, say at which input.
  Laid BY PROGRAM, IN A SANDBOX (cutbox-rows.mjs): the forced cells as the released guide's own fill.sh prints them over the translation 7cbea0cd1961d92f… (all of the seat's roots in one cut). By AI agents, Wed Nov 11 2026. No macro, syntax, notation, axiom, sorry.
-/
import Derived.Test.YtlmigknkcghpcaaChecked
import GoSem.Claim
import GoSem.ClaimJoined
import GoSem.ClaimMapViews
import Derived.JoinedTies
import Derived.KernelRfl
namespace Go.Proofs.Ytlmigknkcghpcaa
/- THE CELL 'sum', in the pinned program and in every row, IS THE sha256 OF THE DUMP (.gsa) THAT YtlmigknkcghpcaaProg.lean LOADS. Nothing in Lean hashes anything: it is a label: what it is worth is what the hold of that sum in a sandbox is worth. -/
noncomputable def Try.pinned : Pinned := { name := "ytlmigknkcghpcaa", sum := "7cbea0cd1961d92ffe51a485d3045ea7dc9574d4e8bc1ad9ce73af26a16daea0", checked := Try.checked }
namespace Rows
def none {H : Type} : Left H := { results := [], args := [] }

/-- 'laws.FnExactValidTank': WHATEVER THE INPUT: true; the input reads as it did. -/
def fnExactValidTankSpec : ChangeSpec := { name := "fnExactValidTank", fn := fun _ => fun
  | [d] => { results := [.lit (.bool true)], args := [d] }
  | _ => none }
def fnExactValidTankRow : OpenClaim := { program := "ytlmigknkcghpcaa", sum := "7cbea0cd1961d92ffe51a485d3045ea7dc9574d4e8bc1ad9ce73af26a16daea0", func := "loop.example/g01011/laws.FnExactValidTank", spec := "fnExactValidTank", apart := false }
def FnExactValidTankSaid : Prop := fnExactValidTankRow.holds Try.pinned (OpenSpec.ofChange fnExactValidTankSpec)

/-- ITS FALSE NEIGHBOUR: 'it returns false'. Refute it at one input. -/
def fnExactValidTankWrong : ChangeSpec := { name := "fnExactValidTank", fn := fun _ => fun
  | [d] => { results := [.lit (.bool false)], args := [d] }
  | _ => none }
def FnExactValidTankWrongFalsely : Prop := fnExactValidTankRow.holds Try.pinned (OpenSpec.ofChange fnExactValidTankWrong)

/-- 'laws.FnExactGapOf': WHATEVER THE INPUT: true; the input reads as it did. -/
def fnExactGapOfSpec : ChangeSpec := { name := "fnExactGapOf", fn := fun _ => fun
  | [d1, d2] => { results := [.lit (.bool true)], args := [d1, d2] }
  | _ => none }
def fnExactGapOfRow : OpenClaim := { program := "ytlmigknkcghpcaa", sum := "7cbea0cd1961d92ffe51a485d3045ea7dc9574d4e8bc1ad9ce73af26a16daea0", func := "loop.example/g01011/laws.FnExactGapOf", spec := "fnExactGapOf", apart := false }
def FnExactGapOfSaid : Prop := fnExactGapOfRow.holds Try.pinned (OpenSpec.ofChange fnExactGapOfSpec)

/-- ITS FALSE NEIGHBOUR: 'it returns false'. Refute it at one input. -/
def fnExactGapOfWrong : ChangeSpec := { name := "fnExactGapOf", fn := fun _ => fun
  | [d1, d2] => { results := [.lit (.bool false)], args := [d1, d2] }
  | _ => none }
def FnExactGapOfWrongFalsely : Prop := fnExactGapOfRow.holds Try.pinned (OpenSpec.ofChange fnExactGapOfWrong)

/-- 'laws.FnExactCoatLoss': WHATEVER THE INPUT: true; the input reads as it did. -/
def fnExactCoatLossSpec : ChangeSpec := { name := "fnExactCoatLoss", fn := fun _ => fun
  | [d1, d2, d3] => { results := [.lit (.bool true)], args := [d1, d2, d3] }
  | _ => none }
def fnExactCoatLossRow : OpenClaim := { program := "ytlmigknkcghpcaa", sum := "7cbea0cd1961d92ffe51a485d3045ea7dc9574d4e8bc1ad9ce73af26a16daea0", func := "loop.example/g01011/laws.FnExactCoatLoss", spec := "fnExactCoatLoss", apart := false }
def FnExactCoatLossSaid : Prop := fnExactCoatLossRow.holds Try.pinned (OpenSpec.ofChange fnExactCoatLossSpec)

/-- ITS FALSE NEIGHBOUR: 'it returns false'. Refute it at one input. -/
def fnExactCoatLossWrong : ChangeSpec := { name := "fnExactCoatLoss", fn := fun _ => fun
  | [d1, d2, d3] => { results := [.lit (.bool false)], args := [d1, d2, d3] }
  | _ => none }
def FnExactCoatLossWrongFalsely : Prop := fnExactCoatLossRow.holds Try.pinned (OpenSpec.ofChange fnExactCoatLossWrong)

/-- 'laws.FnExactValidSubstation': WHATEVER THE INPUT: true; the input reads as it did. -/
def fnExactValidSubstationSpec : ChangeSpec := { name := "fnExactValidSubstation", fn := fun _ => fun
  | [d] => { results := [.lit (.bool true)], args := [d] }
  | _ => none }
def fnExactValidSubstationRow : OpenClaim := { program := "ytlmigknkcghpcaa", sum := "7cbea0cd1961d92ffe51a485d3045ea7dc9574d4e8bc1ad9ce73af26a16daea0", func := "loop.example/g01011/laws.FnExactValidSubstation", spec := "fnExactValidSubstation", apart := false }
def FnExactValidSubstationSaid : Prop := fnExactValidSubstationRow.holds Try.pinned (OpenSpec.ofChange fnExactValidSubstationSpec)

/-- ITS FALSE NEIGHBOUR: 'it returns false'. Refute it at one input. -/
def fnExactValidSubstationWrong : ChangeSpec := { name := "fnExactValidSubstation", fn := fun _ => fun
  | [d] => { results := [.lit (.bool false)], args := [d] }
  | _ => none }
def FnExactValidSubstationWrongFalsely : Prop := fnExactValidSubstationRow.holds Try.pinned (OpenSpec.ofChange fnExactValidSubstationWrong)

/-- 'laws.FnExactSameWave': WHATEVER THE INPUT: true; the input reads as it did. -/
def fnExactSameWaveSpec : ChangeSpec := { name := "fnExactSameWave", fn := fun _ => fun
  | [d1, d2] => { results := [.lit (.bool true)], args := [d1, d2] }
  | _ => none }
def fnExactSameWaveRow : OpenClaim := { program := "ytlmigknkcghpcaa", sum := "7cbea0cd1961d92ffe51a485d3045ea7dc9574d4e8bc1ad9ce73af26a16daea0", func := "loop.example/g01011/laws.FnExactSameWave", spec := "fnExactSameWave", apart := false }
def FnExactSameWaveSaid : Prop := fnExactSameWaveRow.holds Try.pinned (OpenSpec.ofChange fnExactSameWaveSpec)

/-- ITS FALSE NEIGHBOUR: 'it returns false'. Refute it at one input. -/
def fnExactSameWaveWrong : ChangeSpec := { name := "fnExactSameWave", fn := fun _ => fun
  | [d1, d2] => { results := [.lit (.bool false)], args := [d1, d2] }
  | _ => none }
def FnExactSameWaveWrongFalsely : Prop := fnExactSameWaveRow.holds Try.pinned (OpenSpec.ofChange fnExactSameWaveWrong)

/-- 'laws.FnExactValidWave': WHATEVER THE INPUT: true; the input reads as it did. -/
def fnExactValidWaveSpec : ChangeSpec := { name := "fnExactValidWave", fn := fun _ => fun
  | [d] => { results := [.lit (.bool true)], args := [d] }
  | _ => none }
def fnExactValidWaveRow : OpenClaim := { program := "ytlmigknkcghpcaa", sum := "7cbea0cd1961d92ffe51a485d3045ea7dc9574d4e8bc1ad9ce73af26a16daea0", func := "loop.example/g01011/laws.FnExactValidWave", spec := "fnExactValidWave", apart := false }
def FnExactValidWaveSaid : Prop := fnExactValidWaveRow.holds Try.pinned (OpenSpec.ofChange fnExactValidWaveSpec)

/-- ITS FALSE NEIGHBOUR: 'it returns false'. Refute it at one input. -/
def fnExactValidWaveWrong : ChangeSpec := { name := "fnExactValidWave", fn := fun _ => fun
  | [d] => { results := [.lit (.bool false)], args := [d] }
  | _ => none }
def FnExactValidWaveWrongFalsely : Prop := fnExactValidWaveRow.holds Try.pinned (OpenSpec.ofChange fnExactValidWaveWrong)

/-- 'laws.FnExactLevelAfter': WHATEVER THE INPUT: true; the input reads as it did. -/
def fnExactLevelAfterSpec : ChangeSpec := { name := "fnExactLevelAfter", fn := fun _ => fun
  | [d1, d2, d3] => { results := [.lit (.bool true)], args := [d1, d2, d3] }
  | _ => none }
def fnExactLevelAfterRow : OpenClaim := { program := "ytlmigknkcghpcaa", sum := "7cbea0cd1961d92ffe51a485d3045ea7dc9574d4e8bc1ad9ce73af26a16daea0", func := "loop.example/g01011/laws.FnExactLevelAfter", spec := "fnExactLevelAfter", apart := false }
def FnExactLevelAfterSaid : Prop := fnExactLevelAfterRow.holds Try.pinned (OpenSpec.ofChange fnExactLevelAfterSpec)

/-- ITS FALSE NEIGHBOUR: 'it returns false'. Refute it at one input. -/
def fnExactLevelAfterWrong : ChangeSpec := { name := "fnExactLevelAfter", fn := fun _ => fun
  | [d1, d2, d3] => { results := [.lit (.bool false)], args := [d1, d2, d3] }
  | _ => none }
def FnExactLevelAfterWrongFalsely : Prop := fnExactLevelAfterRow.holds Try.pinned (OpenSpec.ofChange fnExactLevelAfterWrong)

/-- 'laws.FnExactAllowanceCost': WHATEVER THE INPUT: true; the input reads as it did. -/
def fnExactAllowanceCostSpec : ChangeSpec := { name := "fnExactAllowanceCost", fn := fun _ => fun
  | [d1, d2, d3] => { results := [.lit (.bool true)], args := [d1, d2, d3] }
  | _ => none }
def fnExactAllowanceCostRow : OpenClaim := { program := "ytlmigknkcghpcaa", sum := "7cbea0cd1961d92ffe51a485d3045ea7dc9574d4e8bc1ad9ce73af26a16daea0", func := "loop.example/g01011/laws.FnExactAllowanceCost", spec := "fnExactAllowanceCost", unfollowed := true, recurses := true, apart := false }
def FnExactAllowanceCostSaid : Prop := fnExactAllowanceCostRow.holds Try.pinned (OpenSpec.ofChange fnExactAllowanceCostSpec)

/-- ITS FALSE NEIGHBOUR: 'it returns false'. Refute it at one input. -/
def fnExactAllowanceCostWrong : ChangeSpec := { name := "fnExactAllowanceCost", fn := fun _ => fun
  | [d1, d2, d3] => { results := [.lit (.bool false)], args := [d1, d2, d3] }
  | _ => none }
def FnExactAllowanceCostWrongFalsely : Prop := fnExactAllowanceCostRow.holds Try.pinned (OpenSpec.ofChange fnExactAllowanceCostWrong)

/-- 'laws.FnExactChargingCost': WHATEVER THE INPUT: true; the input reads as it did. -/
def fnExactChargingCostSpec : ChangeSpec := { name := "fnExactChargingCost", fn := fun _ => fun
  | [d1, d2, d3] => { results := [.lit (.bool true)], args := [d1, d2, d3] }
  | _ => none }
def fnExactChargingCostRow : OpenClaim := { program := "ytlmigknkcghpcaa", sum := "7cbea0cd1961d92ffe51a485d3045ea7dc9574d4e8bc1ad9ce73af26a16daea0", func := "loop.example/g01011/laws.FnExactChargingCost", spec := "fnExactChargingCost", unfollowed := true, recurses := true, apart := false }
def FnExactChargingCostSaid : Prop := fnExactChargingCostRow.holds Try.pinned (OpenSpec.ofChange fnExactChargingCostSpec)

/-- ITS FALSE NEIGHBOUR: 'it returns false'. Refute it at one input. -/
def fnExactChargingCostWrong : ChangeSpec := { name := "fnExactChargingCost", fn := fun _ => fun
  | [d1, d2, d3] => { results := [.lit (.bool false)], args := [d1, d2, d3] }
  | _ => none }
def FnExactChargingCostWrongFalsely : Prop := fnExactChargingCostRow.holds Try.pinned (OpenSpec.ofChange fnExactChargingCostWrong)

/-- 'laws.FnAllowances': WHATEVER THE INPUT: true; the input reads as it did. -/
def fnAllowancesSpec : ChangeSpec := { name := "fnAllowances", fn := fun _ => fun
  | [d] => { results := [.lit (.bool true)], args := [d] }
  | _ => none }
def fnAllowancesRow : OpenClaim := { program := "ytlmigknkcghpcaa", sum := "7cbea0cd1961d92ffe51a485d3045ea7dc9574d4e8bc1ad9ce73af26a16daea0", func := "loop.example/g01011/laws.FnAllowances", spec := "fnAllowances", unfollowed := true, recurses := true, apart := false }
def FnAllowancesSaid : Prop := fnAllowancesRow.holds Try.pinned (OpenSpec.ofChange fnAllowancesSpec)

/-- ITS FALSE NEIGHBOUR: 'it returns false'. Refute it at one input. -/
def fnAllowancesWrong : ChangeSpec := { name := "fnAllowances", fn := fun _ => fun
  | [d] => { results := [.lit (.bool false)], args := [d] }
  | _ => none }
def FnAllowancesWrongFalsely : Prop := fnAllowancesRow.holds Try.pinned (OpenSpec.ofChange fnAllowancesWrong)

/-- 'laws.FnExactFirstWarm': WHATEVER THE INPUT: true; the input reads as it did. -/
def fnExactFirstWarmSpec : ChangeSpec := { name := "fnExactFirstWarm", fn := fun _ => fun
  | [d1, d2] => { results := [.lit (.bool true)], args := [d1, d2] }
  | _ => none }
def fnExactFirstWarmRow : OpenClaim := { program := "ytlmigknkcghpcaa", sum := "7cbea0cd1961d92ffe51a485d3045ea7dc9574d4e8bc1ad9ce73af26a16daea0", func := "loop.example/g01011/laws.FnExactFirstWarm", spec := "fnExactFirstWarm", apart := false }
def FnExactFirstWarmSaid : Prop := fnExactFirstWarmRow.holds Try.pinned (OpenSpec.ofChange fnExactFirstWarmSpec)

/-- ITS FALSE NEIGHBOUR: 'it returns false'. Refute it at one input. -/
def fnExactFirstWarmWrong : ChangeSpec := { name := "fnExactFirstWarm", fn := fun _ => fun
  | [d1, d2] => { results := [.lit (.bool false)], args := [d1, d2] }
  | _ => none }
def FnExactFirstWarmWrongFalsely : Prop := fnExactFirstWarmRow.holds Try.pinned (OpenSpec.ofChange fnExactFirstWarmWrong)

/-- 'laws.FnExactRangeOf': WHATEVER THE INPUT: true; the input reads as it did. -/
def fnExactRangeOfSpec : ChangeSpec := { name := "fnExactRangeOf", fn := fun _ => fun
  | [d] => { results := [.lit (.bool true)], args := [d] }
  | _ => none }
def fnExactRangeOfRow : OpenClaim := { program := "ytlmigknkcghpcaa", sum := "7cbea0cd1961d92ffe51a485d3045ea7dc9574d4e8bc1ad9ce73af26a16daea0", func := "loop.example/g01011/laws.FnExactRangeOf", spec := "fnExactRangeOf", apart := false }
def FnExactRangeOfSaid : Prop := fnExactRangeOfRow.holds Try.pinned (OpenSpec.ofChange fnExactRangeOfSpec)

/-- ITS FALSE NEIGHBOUR: 'it returns false'. Refute it at one input. -/
def fnExactRangeOfWrong : ChangeSpec := { name := "fnExactRangeOf", fn := fun _ => fun
  | [d] => { results := [.lit (.bool false)], args := [d] }
  | _ => none }
def FnExactRangeOfWrongFalsely : Prop := fnExactRangeOfRow.holds Try.pinned (OpenSpec.ofChange fnExactRangeOfWrong)

/- THE SECOND FORM. 'bulk': how many values and letters a reading holds, each counted each time it is reached (what is shared counts as often as it is met; a slice's spare places count too). A statement '..UptoSaid' is the law's where the arguments, and the package variables that the reading takes, are together of bulk at most 1048576: NARROWER than '..Said'. Prove '..Said' where nothing that the law and all that it calls make is longer than what came in: it says more and counts as full. Else prove '..UptoSaid'. A law counts once. -/
mutual
def uptoBulk {H : Type} : DataW H → Nat
  | .lit (.string bytes) => bytes.length + 1
  | .lit _ => 1
  | .nil => 1
  | .ptr d => uptoBulk d + 1
  | .slice elems spare => uptoBulkAll elems + uptoBulkAll spare + 1
  | .agg parts => uptoBulkAll parts + 1
  | .iface _ d => uptoBulk d + 1
  | .map entries => uptoBulkEntries entries + 1
  | .held _ => 1
def uptoBulkAll {H : Type} : List (DataW H) → Nat
  | [] => 0
  | d :: r => uptoBulk d + uptoBulkAll r
def uptoBulkEntries {H : Type} : List (Lit × DataW H) → Nat
  | [] => 0
  | x :: r => uptoBulkEntry x + uptoBulkEntries r
def uptoBulkEntry {H : Type} : Lit × DataW H → Nat
  | (.string bytes, d) => bytes.length + uptoBulk d + 1
  | (_, d) => uptoBulk d + 1
 end
def uptoSmall : (H : Type) → List (DataW H) → Bool := fun _ ds => decide (uptoBulkAll ds ≤ 1048576)
def OpenSpec.upto (s : _root_.Go.ChangeSpec) : _root_.Go.OpenSpec := { _root_.Go.OpenSpec.ofChange s with cond := some uptoSmall }

/-- 'laws.FnExactValidTank', WHERE WHAT IT READS IS OF BULK AT MOST 1048576: true; the input reads as it did. -/
def fnExactValidTankUptoRow : OpenClaim := { program := "ytlmigknkcghpcaa", sum := "7cbea0cd1961d92ffe51a485d3045ea7dc9574d4e8bc1ad9ce73af26a16daea0", func := "loop.example/g01011/laws.FnExactValidTank", spec := "fnExactValidTank", apart := false, narrowed := true }
def FnExactValidTankUptoSaid : Prop := fnExactValidTankUptoRow.holds Try.pinned (OpenSpec.upto fnExactValidTankSpec)

/-- 'laws.FnExactGapOf', WHERE WHAT IT READS IS OF BULK AT MOST 1048576: true; the input reads as it did. -/
def fnExactGapOfUptoRow : OpenClaim := { program := "ytlmigknkcghpcaa", sum := "7cbea0cd1961d92ffe51a485d3045ea7dc9574d4e8bc1ad9ce73af26a16daea0", func := "loop.example/g01011/laws.FnExactGapOf", spec := "fnExactGapOf", apart := false, narrowed := true }
def FnExactGapOfUptoSaid : Prop := fnExactGapOfUptoRow.holds Try.pinned (OpenSpec.upto fnExactGapOfSpec)

/-- 'laws.FnExactCoatLoss', WHERE WHAT IT READS IS OF BULK AT MOST 1048576: true; the input reads as it did. -/
def fnExactCoatLossUptoRow : OpenClaim := { program := "ytlmigknkcghpcaa", sum := "7cbea0cd1961d92ffe51a485d3045ea7dc9574d4e8bc1ad9ce73af26a16daea0", func := "loop.example/g01011/laws.FnExactCoatLoss", spec := "fnExactCoatLoss", apart := false, narrowed := true }
def FnExactCoatLossUptoSaid : Prop := fnExactCoatLossUptoRow.holds Try.pinned (OpenSpec.upto fnExactCoatLossSpec)

/-- 'laws.FnExactValidSubstation', WHERE WHAT IT READS IS OF BULK AT MOST 1048576: true; the input reads as it did. -/
def fnExactValidSubstationUptoRow : OpenClaim := { program := "ytlmigknkcghpcaa", sum := "7cbea0cd1961d92ffe51a485d3045ea7dc9574d4e8bc1ad9ce73af26a16daea0", func := "loop.example/g01011/laws.FnExactValidSubstation", spec := "fnExactValidSubstation", apart := false, narrowed := true }
def FnExactValidSubstationUptoSaid : Prop := fnExactValidSubstationUptoRow.holds Try.pinned (OpenSpec.upto fnExactValidSubstationSpec)

/-- 'laws.FnExactSameWave', WHERE WHAT IT READS IS OF BULK AT MOST 1048576: true; the input reads as it did. -/
def fnExactSameWaveUptoRow : OpenClaim := { program := "ytlmigknkcghpcaa", sum := "7cbea0cd1961d92ffe51a485d3045ea7dc9574d4e8bc1ad9ce73af26a16daea0", func := "loop.example/g01011/laws.FnExactSameWave", spec := "fnExactSameWave", apart := false, narrowed := true }
def FnExactSameWaveUptoSaid : Prop := fnExactSameWaveUptoRow.holds Try.pinned (OpenSpec.upto fnExactSameWaveSpec)

/-- 'laws.FnExactValidWave', WHERE WHAT IT READS IS OF BULK AT MOST 1048576: true; the input reads as it did. -/
def fnExactValidWaveUptoRow : OpenClaim := { program := "ytlmigknkcghpcaa", sum := "7cbea0cd1961d92ffe51a485d3045ea7dc9574d4e8bc1ad9ce73af26a16daea0", func := "loop.example/g01011/laws.FnExactValidWave", spec := "fnExactValidWave", apart := false, narrowed := true }
def FnExactValidWaveUptoSaid : Prop := fnExactValidWaveUptoRow.holds Try.pinned (OpenSpec.upto fnExactValidWaveSpec)

/-- 'laws.FnExactLevelAfter', WHERE WHAT IT READS IS OF BULK AT MOST 1048576: true; the input reads as it did. -/
def fnExactLevelAfterUptoRow : OpenClaim := { program := "ytlmigknkcghpcaa", sum := "7cbea0cd1961d92ffe51a485d3045ea7dc9574d4e8bc1ad9ce73af26a16daea0", func := "loop.example/g01011/laws.FnExactLevelAfter", spec := "fnExactLevelAfter", apart := false, narrowed := true }
def FnExactLevelAfterUptoSaid : Prop := fnExactLevelAfterUptoRow.holds Try.pinned (OpenSpec.upto fnExactLevelAfterSpec)

/-- 'laws.FnExactAllowanceCost', WHERE WHAT IT READS IS OF BULK AT MOST 1048576: true; the input reads as it did. -/
def fnExactAllowanceCostUptoRow : OpenClaim := { program := "ytlmigknkcghpcaa", sum := "7cbea0cd1961d92ffe51a485d3045ea7dc9574d4e8bc1ad9ce73af26a16daea0", func := "loop.example/g01011/laws.FnExactAllowanceCost", spec := "fnExactAllowanceCost", unfollowed := true, recurses := true, apart := false, narrowed := true }
def FnExactAllowanceCostUptoSaid : Prop := fnExactAllowanceCostUptoRow.holds Try.pinned (OpenSpec.upto fnExactAllowanceCostSpec)

/-- 'laws.FnExactChargingCost', WHERE WHAT IT READS IS OF BULK AT MOST 1048576: true; the input reads as it did. -/
def fnExactChargingCostUptoRow : OpenClaim := { program := "ytlmigknkcghpcaa", sum := "7cbea0cd1961d92ffe51a485d3045ea7dc9574d4e8bc1ad9ce73af26a16daea0", func := "loop.example/g01011/laws.FnExactChargingCost", spec := "fnExactChargingCost", unfollowed := true, recurses := true, apart := false, narrowed := true }
def FnExactChargingCostUptoSaid : Prop := fnExactChargingCostUptoRow.holds Try.pinned (OpenSpec.upto fnExactChargingCostSpec)

/-- 'laws.FnAllowances', WHERE WHAT IT READS IS OF BULK AT MOST 1048576: true; the input reads as it did. -/
def fnAllowancesUptoRow : OpenClaim := { program := "ytlmigknkcghpcaa", sum := "7cbea0cd1961d92ffe51a485d3045ea7dc9574d4e8bc1ad9ce73af26a16daea0", func := "loop.example/g01011/laws.FnAllowances", spec := "fnAllowances", unfollowed := true, recurses := true, apart := false, narrowed := true }
def FnAllowancesUptoSaid : Prop := fnAllowancesUptoRow.holds Try.pinned (OpenSpec.upto fnAllowancesSpec)

/-- 'laws.FnExactFirstWarm', WHERE WHAT IT READS IS OF BULK AT MOST 1048576: true; the input reads as it did. -/
def fnExactFirstWarmUptoRow : OpenClaim := { program := "ytlmigknkcghpcaa", sum := "7cbea0cd1961d92ffe51a485d3045ea7dc9574d4e8bc1ad9ce73af26a16daea0", func := "loop.example/g01011/laws.FnExactFirstWarm", spec := "fnExactFirstWarm", apart := false, narrowed := true }
def FnExactFirstWarmUptoSaid : Prop := fnExactFirstWarmUptoRow.holds Try.pinned (OpenSpec.upto fnExactFirstWarmSpec)

/-- 'laws.FnExactRangeOf', WHERE WHAT IT READS IS OF BULK AT MOST 1048576: true; the input reads as it did. -/
def fnExactRangeOfUptoRow : OpenClaim := { program := "ytlmigknkcghpcaa", sum := "7cbea0cd1961d92ffe51a485d3045ea7dc9574d4e8bc1ad9ce73af26a16daea0", func := "loop.example/g01011/laws.FnExactRangeOf", spec := "fnExactRangeOf", apart := false, narrowed := true }
def FnExactRangeOfUptoSaid : Prop := fnExactRangeOfUptoRow.holds Try.pinned (OpenSpec.upto fnExactRangeOfSpec)

end Rows
end Go.Proofs.Ytlmigknkcghpcaa
