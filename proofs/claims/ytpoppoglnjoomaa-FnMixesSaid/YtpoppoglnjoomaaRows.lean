/-
  No cell of these rows narrows 'for every input' (looked for: loops, veiled, ifaces, maps, wideKeys, modest, calm, conditions, laid).
  DERIVED. THE GIVEN ROWS OF THIS SEAT. 9 by the template 'for every input the law returns true; each argument reads behind the call as it read before'; 0 by the template 'total and deterministic' (their statements: YtpoppoglnjoomaaTotals.lean).
  GIVEN WITH THE SEED: the statements are not yours to turn. If you find one false, say at which input.
  Laid BY PROGRAM, IN A SANDBOX (cutbox-rows.mjs): the forced cells as the released guide's own fill.sh prints them over the translation c62346bf673252c5… (all of the seat's roots in one cut). By AI agents, Wed Nov 11 2026. No macro, syntax, notation, axiom, sorry.
-/
import Derived.Test.YtpoppoglnjoomaaChecked
import GoSem.Claim
import GoSem.ClaimJoined
import GoSem.ClaimMapViews
import Derived.JoinedTies
import Derived.KernelRfl
namespace Go.Proofs.Ytpoppoglnjoomaa
/- THE CELL 'sum', in the pinned program and in every row, IS THE sha256 OF THE DUMP (.gsa) THAT YtpoppoglnjoomaaProg.lean LOADS. Nothing in Lean hashes anything: it is a label: what it is worth is what the hold of that sum in a sandbox is worth. -/
noncomputable def Try.pinned : Pinned := { name := "ytpoppoglnjoomaa", sum := "c62346bf673252c5e0f2213fae7ca7a2ac185140799a1ff3746aa332497ee4f5", checked := Try.checked }
namespace Rows
def none {H : Type} : Left H := { results := [], args := [] }

/-- 'laws.FnExactNetworkLoss': WHATEVER THE INPUT: true; the input reads as it did. -/
def fnExactNetworkLossSpec : ChangeSpec := { name := "fnExactNetworkLoss", fn := fun _ => fun
  | [d1, d2, d3] => { results := [.lit (.bool true)], args := [d1, d2, d3] }
  | _ => none }
def fnExactNetworkLossRow : OpenClaim := { program := "ytpoppoglnjoomaa", sum := "c62346bf673252c5e0f2213fae7ca7a2ac185140799a1ff3746aa332497ee4f5", func := "loop.example/g01011/laws.FnExactNetworkLoss", spec := "fnExactNetworkLoss", unfollowed := true, recurses := true, apart := false }
def FnExactNetworkLossSaid : Prop := fnExactNetworkLossRow.holds Try.pinned (OpenSpec.ofChange fnExactNetworkLossSpec)

/-- ITS FALSE NEIGHBOUR: 'it returns false'. Refute it at one input. -/
def fnExactNetworkLossWrong : ChangeSpec := { name := "fnExactNetworkLoss", fn := fun _ => fun
  | [d1, d2, d3] => { results := [.lit (.bool false)], args := [d1, d2, d3] }
  | _ => none }
def FnExactNetworkLossWrongFalsely : Prop := fnExactNetworkLossRow.holds Try.pinned (OpenSpec.ofChange fnExactNetworkLossWrong)

/-- 'laws.FnExactYearLoss': WHATEVER THE INPUT: true; the input reads as it did. -/
def fnExactYearLossSpec : ChangeSpec := { name := "fnExactYearLoss", fn := fun _ => fun
  | [d1, d2, d3] => { results := [.lit (.bool true)], args := [d1, d2, d3] }
  | _ => none }
def fnExactYearLossRow : OpenClaim := { program := "ytpoppoglnjoomaa", sum := "c62346bf673252c5e0f2213fae7ca7a2ac185140799a1ff3746aa332497ee4f5", func := "loop.example/g01011/laws.FnExactYearLoss", spec := "fnExactYearLoss", unfollowed := true, recurses := true, apart := false }
def FnExactYearLossSaid : Prop := fnExactYearLossRow.holds Try.pinned (OpenSpec.ofChange fnExactYearLossSpec)

/-- ITS FALSE NEIGHBOUR: 'it returns false'. Refute it at one input. -/
def fnExactYearLossWrong : ChangeSpec := { name := "fnExactYearLoss", fn := fun _ => fun
  | [d1, d2, d3] => { results := [.lit (.bool false)], args := [d1, d2, d3] }
  | _ => none }
def FnExactYearLossWrongFalsely : Prop := fnExactYearLossRow.holds Try.pinned (OpenSpec.ofChange fnExactYearLossWrong)

/-- 'laws.FnExactLossShares': WHATEVER THE INPUT: true; the input reads as it did. -/
def fnExactLossSharesSpec : ChangeSpec := { name := "fnExactLossShares", fn := fun _ => fun
  | [d1, d2, d3] => { results := [.lit (.bool true)], args := [d1, d2, d3] }
  | _ => none }
def fnExactLossSharesRow : OpenClaim := { program := "ytpoppoglnjoomaa", sum := "c62346bf673252c5e0f2213fae7ca7a2ac185140799a1ff3746aa332497ee4f5", func := "loop.example/g01011/laws.FnExactLossShares", spec := "fnExactLossShares", unfollowed := true, recurses := true, apart := false }
def FnExactLossSharesSaid : Prop := fnExactLossSharesRow.holds Try.pinned (OpenSpec.ofChange fnExactLossSharesSpec)

/-- ITS FALSE NEIGHBOUR: 'it returns false'. Refute it at one input. -/
def fnExactLossSharesWrong : ChangeSpec := { name := "fnExactLossShares", fn := fun _ => fun
  | [d1, d2, d3] => { results := [.lit (.bool false)], args := [d1, d2, d3] }
  | _ => none }
def FnExactLossSharesWrongFalsely : Prop := fnExactLossSharesRow.holds Try.pinned (OpenSpec.ofChange fnExactLossSharesWrong)

/-- 'laws.FnExactRenewPipes': WHATEVER THE INPUT: true; the input reads as it did. -/
def fnExactRenewPipesSpec : ChangeSpec := { name := "fnExactRenewPipes", fn := fun _ => fun
  | [d1, d2, d3] => { results := [.lit (.bool true)], args := [d1, d2, d3] }
  | _ => none }
def fnExactRenewPipesRow : OpenClaim := { program := "ytpoppoglnjoomaa", sum := "c62346bf673252c5e0f2213fae7ca7a2ac185140799a1ff3746aa332497ee4f5", func := "loop.example/g01011/laws.FnExactRenewPipes", spec := "fnExactRenewPipes", unfollowed := true, recurses := true, apart := false }
def FnExactRenewPipesSaid : Prop := fnExactRenewPipesRow.holds Try.pinned (OpenSpec.ofChange fnExactRenewPipesSpec)

/-- ITS FALSE NEIGHBOUR: 'it returns false'. Refute it at one input. -/
def fnExactRenewPipesWrong : ChangeSpec := { name := "fnExactRenewPipes", fn := fun _ => fun
  | [d1, d2, d3] => { results := [.lit (.bool false)], args := [d1, d2, d3] }
  | _ => none }
def FnExactRenewPipesWrongFalsely : Prop := fnExactRenewPipesRow.holds Try.pinned (OpenSpec.ofChange fnExactRenewPipesWrong)

/-- 'laws.FnExactWorstPipes': WHATEVER THE INPUT: true; the input reads as it did. -/
def fnExactWorstPipesSpec : ChangeSpec := { name := "fnExactWorstPipes", fn := fun _ => fun
  | [d1, d2] => { results := [.lit (.bool true)], args := [d1, d2] }
  | _ => none }
def fnExactWorstPipesRow : OpenClaim := { program := "ytpoppoglnjoomaa", sum := "c62346bf673252c5e0f2213fae7ca7a2ac185140799a1ff3746aa332497ee4f5", func := "loop.example/g01011/laws.FnExactWorstPipes", spec := "fnExactWorstPipes", unfollowed := true, recurses := true, apart := false }
def FnExactWorstPipesSaid : Prop := fnExactWorstPipesRow.holds Try.pinned (OpenSpec.ofChange fnExactWorstPipesSpec)

/-- ITS FALSE NEIGHBOUR: 'it returns false'. Refute it at one input. -/
def fnExactWorstPipesWrong : ChangeSpec := { name := "fnExactWorstPipes", fn := fun _ => fun
  | [d1, d2] => { results := [.lit (.bool false)], args := [d1, d2] }
  | _ => none }
def FnExactWorstPipesWrongFalsely : Prop := fnExactWorstPipesRow.holds Try.pinned (OpenSpec.ofChange fnExactWorstPipesWrong)

/-- 'laws.FnExactTrimWave': WHATEVER THE INPUT: true; the input reads as it did. -/
def fnExactTrimWaveSpec : ChangeSpec := { name := "fnExactTrimWave", fn := fun _ => fun
  | [d] => { results := [.lit (.bool true)], args := [d] }
  | _ => none }
def fnExactTrimWaveRow : OpenClaim := { program := "ytpoppoglnjoomaa", sum := "c62346bf673252c5e0f2213fae7ca7a2ac185140799a1ff3746aa332497ee4f5", func := "loop.example/g01011/laws.FnExactTrimWave", spec := "fnExactTrimWave", unfollowed := true, recurses := true, apart := false }
def FnExactTrimWaveSaid : Prop := fnExactTrimWaveRow.holds Try.pinned (OpenSpec.ofChange fnExactTrimWaveSpec)

/-- ITS FALSE NEIGHBOUR: 'it returns false'. Refute it at one input. -/
def fnExactTrimWaveWrong : ChangeSpec := { name := "fnExactTrimWave", fn := fun _ => fun
  | [d] => { results := [.lit (.bool false)], args := [d] }
  | _ => none }
def FnExactTrimWaveWrongFalsely : Prop := fnExactTrimWaveRow.holds Try.pinned (OpenSpec.ofChange fnExactTrimWaveWrong)

/-- 'laws.FnExactDelayWave': WHATEVER THE INPUT: true; the input reads as it did. -/
def fnExactDelayWaveSpec : ChangeSpec := { name := "fnExactDelayWave", fn := fun _ => fun
  | [d1, d2, d3] => { results := [.lit (.bool true)], args := [d1, d2, d3] }
  | _ => none }
def fnExactDelayWaveRow : OpenClaim := { program := "ytpoppoglnjoomaa", sum := "c62346bf673252c5e0f2213fae7ca7a2ac185140799a1ff3746aa332497ee4f5", func := "loop.example/g01011/laws.FnExactDelayWave", spec := "fnExactDelayWave", unfollowed := true, recurses := true, apart := false }
def FnExactDelayWaveSaid : Prop := fnExactDelayWaveRow.holds Try.pinned (OpenSpec.ofChange fnExactDelayWaveSpec)

/-- ITS FALSE NEIGHBOUR: 'it returns false'. Refute it at one input. -/
def fnExactDelayWaveWrong : ChangeSpec := { name := "fnExactDelayWave", fn := fun _ => fun
  | [d1, d2, d3] => { results := [.lit (.bool false)], args := [d1, d2, d3] }
  | _ => none }
def FnExactDelayWaveWrongFalsely : Prop := fnExactDelayWaveRow.holds Try.pinned (OpenSpec.ofChange fnExactDelayWaveWrong)

/-- 'laws.FnAllowances': WHATEVER THE INPUT: true; the input reads as it did. -/
def fnAllowancesSpec : ChangeSpec := { name := "fnAllowances", fn := fun _ => fun
  | [d] => { results := [.lit (.bool true)], args := [d] }
  | _ => none }
def fnAllowancesRow : OpenClaim := { program := "ytpoppoglnjoomaa", sum := "c62346bf673252c5e0f2213fae7ca7a2ac185140799a1ff3746aa332497ee4f5", func := "loop.example/g01011/laws.FnAllowances", spec := "fnAllowances", unfollowed := true, recurses := true, apart := false }
def FnAllowancesSaid : Prop := fnAllowancesRow.holds Try.pinned (OpenSpec.ofChange fnAllowancesSpec)

/-- ITS FALSE NEIGHBOUR: 'it returns false'. Refute it at one input. -/
def fnAllowancesWrong : ChangeSpec := { name := "fnAllowances", fn := fun _ => fun
  | [d] => { results := [.lit (.bool false)], args := [d] }
  | _ => none }
def FnAllowancesWrongFalsely : Prop := fnAllowancesRow.holds Try.pinned (OpenSpec.ofChange fnAllowancesWrong)

/-- 'laws.FnMixes': WHATEVER THE INPUT: true; the input reads as it did. -/
def fnMixesSpec : ChangeSpec := { name := "fnMixes", fn := fun _ => fun
  | [d1, d2] => { results := [.lit (.bool true)], args := [d1, d2] }
  | _ => none }
def fnMixesRow : OpenClaim := { program := "ytpoppoglnjoomaa", sum := "c62346bf673252c5e0f2213fae7ca7a2ac185140799a1ff3746aa332497ee4f5", func := "loop.example/g01011/laws.FnMixes", spec := "fnMixes", unfollowed := true, recurses := true, apart := false }
def FnMixesSaid : Prop := fnMixesRow.holds Try.pinned (OpenSpec.ofChange fnMixesSpec)

/-- ITS FALSE NEIGHBOUR: 'it returns false'. Refute it at one input. -/
def fnMixesWrong : ChangeSpec := { name := "fnMixes", fn := fun _ => fun
  | [d1, d2] => { results := [.lit (.bool false)], args := [d1, d2] }
  | _ => none }
def FnMixesWrongFalsely : Prop := fnMixesRow.holds Try.pinned (OpenSpec.ofChange fnMixesWrong)

/- THE SECOND FORM. 'bulk': how many values and letters a reading holds, each counted each time it is reached (what is shared counts as often as it is met; a slice's spare places count too). A statement '..UptoSaid' is the law's where the arguments, and the package variables that the reading takes, are together of bulk at most 1048576: NARROWER than '..Said'. Prove '..Said' where nothing that the law and all that it calls make is longer than what came in: it says more and counts as full. Else prove '..UptoSaid'. A law counts once. -/
mutual
def uptoBulk {H : Type} : DataW H → Nat
  | .lit (.string bytes) => bytes.length + 1
  | .lit _ => 1
  | .nil => 1
  | .ptr d => uptoBulk d + 1
  | .slice elems spare => uptoBulkAll elems + uptoBulkAll spare + 1
  | .agg parts => uptoBulkAll parts + 1
  | .iface _ d => uptoBulk d + 1
  | .map entries => uptoBulkEntries entries + 1
  | .held _ => 1
def uptoBulkAll {H : Type} : List (DataW H) → Nat
  | [] => 0
  | d :: r => uptoBulk d + uptoBulkAll r
def uptoBulkEntries {H : Type} : List (Lit × DataW H) → Nat
  | [] => 0
  | x :: r => uptoBulkEntry x + uptoBulkEntries r
def uptoBulkEntry {H : Type} : Lit × DataW H → Nat
  | (.string bytes, d) => bytes.length + uptoBulk d + 1
  | (_, d) => uptoBulk d + 1
 end
def uptoSmall : (H : Type) → List (DataW H) → Bool := fun _ ds => decide (uptoBulkAll ds ≤ 1048576)
def OpenSpec.upto (s : _root_.Go.ChangeSpec) : _root_.Go.OpenSpec := { _root_.Go.OpenSpec.ofChange s with cond := some uptoSmall }

/-- 'laws.FnExactNetworkLoss', WHERE WHAT IT READS IS OF BULK AT MOST 1048576: true; the input reads as it did. -/
def fnExactNetworkLossUptoRow : OpenClaim := { program := "ytpoppoglnjoomaa", sum := "c62346bf673252c5e0f2213fae7ca7a2ac185140799a1ff3746aa332497ee4f5", func := "loop.example/g01011/laws.FnExactNetworkLoss", spec := "fnExactNetworkLoss", unfollowed := true, recurses := true, apart := false, narrowed := true }
def FnExactNetworkLossUptoSaid : Prop := fnExactNetworkLossUptoRow.holds Try.pinned (OpenSpec.upto fnExactNetworkLossSpec)

/-- 'laws.FnExactYearLoss', WHERE WHAT IT READS IS OF BULK AT MOST 1048576: true; the input reads as it did. -/
def fnExactYearLossUptoRow : OpenClaim := { program := "ytpoppoglnjoomaa", sum := "c62346bf673252c5e0f2213fae7ca7a2ac185140799a1ff3746aa332497ee4f5", func := "loop.example/g01011/laws.FnExactYearLoss", spec := "fnExactYearLoss", unfollowed := true, recurses := true, apart := false, narrowed := true }
def FnExactYearLossUptoSaid : Prop := fnExactYearLossUptoRow.holds Try.pinned (OpenSpec.upto fnExactYearLossSpec)

/-- 'laws.FnExactLossShares', WHERE WHAT IT READS IS OF BULK AT MOST 1048576: true; the input reads as it did. -/
def fnExactLossSharesUptoRow : OpenClaim := { program := "ytpoppoglnjoomaa", sum := "c62346bf673252c5e0f2213fae7ca7a2ac185140799a1ff3746aa332497ee4f5", func := "loop.example/g01011/laws.FnExactLossShares", spec := "fnExactLossShares", unfollowed := true, recurses := true, apart := false, narrowed := true }
def FnExactLossSharesUptoSaid : Prop := fnExactLossSharesUptoRow.holds Try.pinned (OpenSpec.upto fnExactLossSharesSpec)

/-- 'laws.FnExactRenewPipes', WHERE WHAT IT READS IS OF BULK AT MOST 1048576: true; the input reads as it did. -/
def fnExactRenewPipesUptoRow : OpenClaim := { program := "ytpoppoglnjoomaa", sum := "c62346bf673252c5e0f2213fae7ca7a2ac185140799a1ff3746aa332497ee4f5", func := "loop.example/g01011/laws.FnExactRenewPipes", spec := "fnExactRenewPipes", unfollowed := true, recurses := true, apart := false, narrowed := true }
def FnExactRenewPipesUptoSaid : Prop := fnExactRenewPipesUptoRow.holds Try.pinned (OpenSpec.upto fnExactRenewPipesSpec)

/-- 'laws.FnExactWorstPipes', WHERE WHAT IT READS IS OF BULK AT MOST 1048576: true; the input reads as it did. -/
def fnExactWorstPipesUptoRow : OpenClaim := { program := "ytpoppoglnjoomaa", sum := "c62346bf673252c5e0f2213fae7ca7a2ac185140799a1ff3746aa332497ee4f5", func := "loop.example/g01011/laws.FnExactWorstPipes", spec := "fnExactWorstPipes", unfollowed := true, recurses := true, apart := false, narrowed := true }
def FnExactWorstPipesUptoSaid : Prop := fnExactWorstPipesUptoRow.holds Try.pinned (OpenSpec.upto fnExactWorstPipesSpec)

/-- 'laws.FnExactTrimWave', WHERE WHAT IT READS IS OF BULK AT MOST 1048576: true; the input reads as it did. -/
def fnExactTrimWaveUptoRow : OpenClaim := { program := "ytpoppoglnjoomaa", sum := "c62346bf673252c5e0f2213fae7ca7a2ac185140799a1ff3746aa332497ee4f5", func := "loop.example/g01011/laws.FnExactTrimWave", spec := "fnExactTrimWave", unfollowed := true, recurses := true, apart := false, narrowed := true }
def FnExactTrimWaveUptoSaid : Prop := fnExactTrimWaveUptoRow.holds Try.pinned (OpenSpec.upto fnExactTrimWaveSpec)

/-- 'laws.FnExactDelayWave', WHERE WHAT IT READS IS OF BULK AT MOST 1048576: true; the input reads as it did. -/
def fnExactDelayWaveUptoRow : OpenClaim := { program := "ytpoppoglnjoomaa", sum := "c62346bf673252c5e0f2213fae7ca7a2ac185140799a1ff3746aa332497ee4f5", func := "loop.example/g01011/laws.FnExactDelayWave", spec := "fnExactDelayWave", unfollowed := true, recurses := true, apart := false, narrowed := true }
def FnExactDelayWaveUptoSaid : Prop := fnExactDelayWaveUptoRow.holds Try.pinned (OpenSpec.upto fnExactDelayWaveSpec)

/-- 'laws.FnAllowances', WHERE WHAT IT READS IS OF BULK AT MOST 1048576: true; the input reads as it did. -/
def fnAllowancesUptoRow : OpenClaim := { program := "ytpoppoglnjoomaa", sum := "c62346bf673252c5e0f2213fae7ca7a2ac185140799a1ff3746aa332497ee4f5", func := "loop.example/g01011/laws.FnAllowances", spec := "fnAllowances", unfollowed := true, recurses := true, apart := false, narrowed := true }
def FnAllowancesUptoSaid : Prop := fnAllowancesUptoRow.holds Try.pinned (OpenSpec.upto fnAllowancesSpec)

/-- 'laws.FnMixes', WHERE WHAT IT READS IS OF BULK AT MOST 1048576: true; the input reads as it did. -/
def fnMixesUptoRow : OpenClaim := { program := "ytpoppoglnjoomaa", sum := "c62346bf673252c5e0f2213fae7ca7a2ac185140799a1ff3746aa332497ee4f5", func := "loop.example/g01011/laws.FnMixes", spec := "fnMixes", unfollowed := true, recurses := true, apart := false, narrowed := true }
def FnMixesUptoSaid : Prop := fnMixesUptoRow.holds Try.pinned (OpenSpec.upto fnMixesSpec)

end Rows
end Go.Proofs.Ytpoppoglnjoomaa
