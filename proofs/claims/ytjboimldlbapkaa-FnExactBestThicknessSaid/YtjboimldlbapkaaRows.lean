/-
  No cell of these rows narrows 'for every input' (looked for: loops, veiled, ifaces, maps, wideKeys, modest, calm, conditions, laid).
  DERIVED. THE GIVEN ROWS OF THIS SEAT. 10 by the template 'for every input the law returns true; each argument reads behind the call as it read before'; 0 by the template 'total and deterministic' (their statements: YtjboimldlbapkaaTotals.lean).
  GIVEN WITH THE SEED: the statements are not yours to turn. If you find one false, say at which input.
  Laid BY PROGRAM, IN A SANDBOX (cutbox-rows.mjs): the forced cells as the released guide's own fill.sh prints them over the translation d5249465c964ca47… (all of the seat's roots in one cut). By AI agents, Wed Nov 11 2026. No macro, syntax, notation, axiom, sorry.
-/
import Derived.Test.YtjboimldlbapkaaChecked
import GoSem.Claim
import GoSem.ClaimJoined
import GoSem.ClaimMapViews
import Derived.JoinedTies
import Derived.KernelRfl
namespace Go.Proofs.Ytjboimldlbapkaa
/- THE CELL 'sum', in the pinned program and in every row, IS THE sha256 OF THE DUMP (.gsa) THAT YtjboimldlbapkaaProg.lean LOADS. Nothing in Lean hashes anything: it is a label: what it is worth is what the hold of that sum in a sandbox is worth. -/
noncomputable def Try.pinned : Pinned := { name := "ytjboimldlbapkaa", sum := "d5249465c964ca475e1a9f1ee7b875d80e5b14dcf935865a14539a02e2479c18", checked := Try.checked }
namespace Rows
def none {H : Type} : Left H := { results := [], args := [] }

/-- 'laws.FnExactCoatCost': WHATEVER THE INPUT: true; the input reads as it did. -/
def fnExactCoatCostSpec : ChangeSpec := { name := "fnExactCoatCost", fn := fun _ => fun
  | [d1, d2, d3] => { results := [.lit (.bool true)], args := [d1, d2, d3] }
  | _ => none }
def fnExactCoatCostRow : OpenClaim := { program := "ytjboimldlbapkaa", sum := "d5249465c964ca475e1a9f1ee7b875d80e5b14dcf935865a14539a02e2479c18", func := "loop.example/g01011/laws.FnExactCoatCost", spec := "fnExactCoatCost", apart := false }
def FnExactCoatCostSaid : Prop := fnExactCoatCostRow.holds Try.pinned (OpenSpec.ofChange fnExactCoatCostSpec)

/-- ITS FALSE NEIGHBOUR: 'it returns false'. Refute it at one input. -/
def fnExactCoatCostWrong : ChangeSpec := { name := "fnExactCoatCost", fn := fun _ => fun
  | [d1, d2, d3] => { results := [.lit (.bool false)], args := [d1, d2, d3] }
  | _ => none }
def FnExactCoatCostWrongFalsely : Prop := fnExactCoatCostRow.holds Try.pinned (OpenSpec.ofChange fnExactCoatCostWrong)

/-- 'laws.FnExactBestThickness': WHATEVER THE INPUT: true; the input reads as it did. -/
def fnExactBestThicknessSpec : ChangeSpec := { name := "fnExactBestThickness", fn := fun _ => fun
  | [d1, d2, d3, d4, d5, d6, d7] => { results := [.lit (.bool true)], args := [d1, d2, d3, d4, d5, d6, d7] }
  | _ => none }
def fnExactBestThicknessRow : OpenClaim := { program := "ytjboimldlbapkaa", sum := "d5249465c964ca475e1a9f1ee7b875d80e5b14dcf935865a14539a02e2479c18", func := "loop.example/g01011/laws.FnExactBestThickness", spec := "fnExactBestThickness", apart := false }
def FnExactBestThicknessSaid : Prop := fnExactBestThicknessRow.holds Try.pinned (OpenSpec.ofChange fnExactBestThicknessSpec)

/-- ITS FALSE NEIGHBOUR: 'it returns false'. Refute it at one input. -/
def fnExactBestThicknessWrong : ChangeSpec := { name := "fnExactBestThickness", fn := fun _ => fun
  | [d1, d2, d3, d4, d5, d6, d7] => { results := [.lit (.bool false)], args := [d1, d2, d3, d4, d5, d6, d7] }
  | _ => none }
def FnExactBestThicknessWrongFalsely : Prop := fnExactBestThicknessRow.holds Try.pinned (OpenSpec.ofChange fnExactBestThicknessWrong)

/-- 'laws.FnExactNetworkLoss': WHATEVER THE INPUT: true; the input reads as it did. -/
def fnExactNetworkLossSpec : ChangeSpec := { name := "fnExactNetworkLoss", fn := fun _ => fun
  | [d1, d2, d3] => { results := [.lit (.bool true)], args := [d1, d2, d3] }
  | _ => none }
def fnExactNetworkLossRow : OpenClaim := { program := "ytjboimldlbapkaa", sum := "d5249465c964ca475e1a9f1ee7b875d80e5b14dcf935865a14539a02e2479c18", func := "loop.example/g01011/laws.FnExactNetworkLoss", spec := "fnExactNetworkLoss", unfollowed := true, recurses := true, apart := false }
def FnExactNetworkLossSaid : Prop := fnExactNetworkLossRow.holds Try.pinned (OpenSpec.ofChange fnExactNetworkLossSpec)

/-- ITS FALSE NEIGHBOUR: 'it returns false'. Refute it at one input. -/
def fnExactNetworkLossWrong : ChangeSpec := { name := "fnExactNetworkLoss", fn := fun _ => fun
  | [d1, d2, d3] => { results := [.lit (.bool false)], args := [d1, d2, d3] }
  | _ => none }
def FnExactNetworkLossWrongFalsely : Prop := fnExactNetworkLossRow.holds Try.pinned (OpenSpec.ofChange fnExactNetworkLossWrong)

/-- 'laws.FnExactYearLoss': WHATEVER THE INPUT: true; the input reads as it did. -/
def fnExactYearLossSpec : ChangeSpec := { name := "fnExactYearLoss", fn := fun _ => fun
  | [d1, d2, d3] => { results := [.lit (.bool true)], args := [d1, d2, d3] }
  | _ => none }
def fnExactYearLossRow : OpenClaim := { program := "ytjboimldlbapkaa", sum := "d5249465c964ca475e1a9f1ee7b875d80e5b14dcf935865a14539a02e2479c18", func := "loop.example/g01011/laws.FnExactYearLoss", spec := "fnExactYearLoss", unfollowed := true, recurses := true, apart := false }
def FnExactYearLossSaid : Prop := fnExactYearLossRow.holds Try.pinned (OpenSpec.ofChange fnExactYearLossSpec)

/-- ITS FALSE NEIGHBOUR: 'it returns false'. Refute it at one input. -/
def fnExactYearLossWrong : ChangeSpec := { name := "fnExactYearLoss", fn := fun _ => fun
  | [d1, d2, d3] => { results := [.lit (.bool false)], args := [d1, d2, d3] }
  | _ => none }
def FnExactYearLossWrongFalsely : Prop := fnExactYearLossRow.holds Try.pinned (OpenSpec.ofChange fnExactYearLossWrong)

/-- 'laws.FnExactLossShares': WHATEVER THE INPUT: true; the input reads as it did. -/
def fnExactLossSharesSpec : ChangeSpec := { name := "fnExactLossShares", fn := fun _ => fun
  | [d1, d2, d3] => { results := [.lit (.bool true)], args := [d1, d2, d3] }
  | _ => none }
def fnExactLossSharesRow : OpenClaim := { program := "ytjboimldlbapkaa", sum := "d5249465c964ca475e1a9f1ee7b875d80e5b14dcf935865a14539a02e2479c18", func := "loop.example/g01011/laws.FnExactLossShares", spec := "fnExactLossShares", unfollowed := true, recurses := true, apart := false }
def FnExactLossSharesSaid : Prop := fnExactLossSharesRow.holds Try.pinned (OpenSpec.ofChange fnExactLossSharesSpec)

/-- ITS FALSE NEIGHBOUR: 'it returns false'. Refute it at one input. -/
def fnExactLossSharesWrong : ChangeSpec := { name := "fnExactLossShares", fn := fun _ => fun
  | [d1, d2, d3] => { results := [.lit (.bool false)], args := [d1, d2, d3] }
  | _ => none }
def FnExactLossSharesWrongFalsely : Prop := fnExactLossSharesRow.holds Try.pinned (OpenSpec.ofChange fnExactLossSharesWrong)

/-- 'laws.FnExactRenewPipes': WHATEVER THE INPUT: true; the input reads as it did. -/
def fnExactRenewPipesSpec : ChangeSpec := { name := "fnExactRenewPipes", fn := fun _ => fun
  | [d1, d2, d3] => { results := [.lit (.bool true)], args := [d1, d2, d3] }
  | _ => none }
def fnExactRenewPipesRow : OpenClaim := { program := "ytjboimldlbapkaa", sum := "d5249465c964ca475e1a9f1ee7b875d80e5b14dcf935865a14539a02e2479c18", func := "loop.example/g01011/laws.FnExactRenewPipes", spec := "fnExactRenewPipes", unfollowed := true, recurses := true, apart := false }
def FnExactRenewPipesSaid : Prop := fnExactRenewPipesRow.holds Try.pinned (OpenSpec.ofChange fnExactRenewPipesSpec)

/-- ITS FALSE NEIGHBOUR: 'it returns false'. Refute it at one input. -/
def fnExactRenewPipesWrong : ChangeSpec := { name := "fnExactRenewPipes", fn := fun _ => fun
  | [d1, d2, d3] => { results := [.lit (.bool false)], args := [d1, d2, d3] }
  | _ => none }
def FnExactRenewPipesWrongFalsely : Prop := fnExactRenewPipesRow.holds Try.pinned (OpenSpec.ofChange fnExactRenewPipesWrong)

/-- 'laws.FnExactWorstPipes': WHATEVER THE INPUT: true; the input reads as it did. -/
def fnExactWorstPipesSpec : ChangeSpec := { name := "fnExactWorstPipes", fn := fun _ => fun
  | [d1, d2] => { results := [.lit (.bool true)], args := [d1, d2] }
  | _ => none }
def fnExactWorstPipesRow : OpenClaim := { program := "ytjboimldlbapkaa", sum := "d5249465c964ca475e1a9f1ee7b875d80e5b14dcf935865a14539a02e2479c18", func := "loop.example/g01011/laws.FnExactWorstPipes", spec := "fnExactWorstPipes", unfollowed := true, recurses := true, apart := false }
def FnExactWorstPipesSaid : Prop := fnExactWorstPipesRow.holds Try.pinned (OpenSpec.ofChange fnExactWorstPipesSpec)

/-- ITS FALSE NEIGHBOUR: 'it returns false'. Refute it at one input. -/
def fnExactWorstPipesWrong : ChangeSpec := { name := "fnExactWorstPipes", fn := fun _ => fun
  | [d1, d2] => { results := [.lit (.bool false)], args := [d1, d2] }
  | _ => none }
def FnExactWorstPipesWrongFalsely : Prop := fnExactWorstPipesRow.holds Try.pinned (OpenSpec.ofChange fnExactWorstPipesWrong)

/-- 'laws.FnWays': WHATEVER THE INPUT: true; the input reads as it did. -/
def fnWaysSpec : ChangeSpec := { name := "fnWays", fn := fun _ => fun
  | [d1, d2] => { results := [.lit (.bool true)], args := [d1, d2] }
  | _ => none }
def fnWaysRow : OpenClaim := { program := "ytjboimldlbapkaa", sum := "d5249465c964ca475e1a9f1ee7b875d80e5b14dcf935865a14539a02e2479c18", func := "loop.example/g01011/laws.FnWays", spec := "fnWays", unfollowed := true, recurses := true, apart := false }
def FnWaysSaid : Prop := fnWaysRow.holds Try.pinned (OpenSpec.ofChange fnWaysSpec)

/-- ITS FALSE NEIGHBOUR: 'it returns false'. Refute it at one input. -/
def fnWaysWrong : ChangeSpec := { name := "fnWays", fn := fun _ => fun
  | [d1, d2] => { results := [.lit (.bool false)], args := [d1, d2] }
  | _ => none }
def FnWaysWrongFalsely : Prop := fnWaysRow.holds Try.pinned (OpenSpec.ofChange fnWaysWrong)

/-- 'laws.FnExactNodeTemperatures': WHATEVER THE INPUT: true; the input reads as it did. -/
def fnExactNodeTemperaturesSpec : ChangeSpec := { name := "fnExactNodeTemperatures", fn := fun _ => fun
  | [d1, d2, d3, d4, d5] => { results := [.lit (.bool true)], args := [d1, d2, d3, d4, d5] }
  | _ => none }
def fnExactNodeTemperaturesRow : OpenClaim := { program := "ytjboimldlbapkaa", sum := "d5249465c964ca475e1a9f1ee7b875d80e5b14dcf935865a14539a02e2479c18", func := "loop.example/g01011/laws.FnExactNodeTemperatures", spec := "fnExactNodeTemperatures", unfollowed := true, recurses := true, apart := false }
def FnExactNodeTemperaturesSaid : Prop := fnExactNodeTemperaturesRow.holds Try.pinned (OpenSpec.ofChange fnExactNodeTemperaturesSpec)

/-- ITS FALSE NEIGHBOUR: 'it returns false'. Refute it at one input. -/
def fnExactNodeTemperaturesWrong : ChangeSpec := { name := "fnExactNodeTemperatures", fn := fun _ => fun
  | [d1, d2, d3, d4, d5] => { results := [.lit (.bool false)], args := [d1, d2, d3, d4, d5] }
  | _ => none }
def FnExactNodeTemperaturesWrongFalsely : Prop := fnExactNodeTemperaturesRow.holds Try.pinned (OpenSpec.ofChange fnExactNodeTemperaturesWrong)

/-- 'laws.FnHydraulics': WHATEVER THE INPUT: true; the input reads as it did. -/
def fnHydraulicsSpec : ChangeSpec := { name := "fnHydraulics", fn := fun _ => fun
  | [d1, d2] => { results := [.lit (.bool true)], args := [d1, d2] }
  | _ => none }
def fnHydraulicsRow : OpenClaim := { program := "ytjboimldlbapkaa", sum := "d5249465c964ca475e1a9f1ee7b875d80e5b14dcf935865a14539a02e2479c18", func := "loop.example/g01011/laws.FnHydraulics", spec := "fnHydraulics", unfollowed := true, recurses := true, apart := false }
def FnHydraulicsSaid : Prop := fnHydraulicsRow.holds Try.pinned (OpenSpec.ofChange fnHydraulicsSpec)

/-- ITS FALSE NEIGHBOUR: 'it returns false'. Refute it at one input. -/
def fnHydraulicsWrong : ChangeSpec := { name := "fnHydraulics", fn := fun _ => fun
  | [d1, d2] => { results := [.lit (.bool false)], args := [d1, d2] }
  | _ => none }
def FnHydraulicsWrongFalsely : Prop := fnHydraulicsRow.holds Try.pinned (OpenSpec.ofChange fnHydraulicsWrong)

/- THE SECOND FORM. 'bulk': how many values and letters a reading holds, each counted each time it is reached (what is shared counts as often as it is met; a slice's spare places count too). A statement '..UptoSaid' is the law's where the arguments, and the package variables that the reading takes, are together of bulk at most 1048576: NARROWER than '..Said'. Prove '..Said' where nothing that the law and all that it calls make is longer than what came in: it says more and counts as full. Else prove '..UptoSaid'. A law counts once. -/
mutual
def uptoBulk {H : Type} : DataW H → Nat
  | .lit (.string bytes) => bytes.length + 1
  | .lit _ => 1
  | .nil => 1
  | .ptr d => uptoBulk d + 1
  | .slice elems spare => uptoBulkAll elems + uptoBulkAll spare + 1
  | .agg parts => uptoBulkAll parts + 1
  | .iface _ d => uptoBulk d + 1
  | .map entries => uptoBulkEntries entries + 1
  | .held _ => 1
def uptoBulkAll {H : Type} : List (DataW H) → Nat
  | [] => 0
  | d :: r => uptoBulk d + uptoBulkAll r
def uptoBulkEntries {H : Type} : List (Lit × DataW H) → Nat
  | [] => 0
  | x :: r => uptoBulkEntry x + uptoBulkEntries r
def uptoBulkEntry {H : Type} : Lit × DataW H → Nat
  | (.string bytes, d) => bytes.length + uptoBulk d + 1
  | (_, d) => uptoBulk d + 1
 end
def uptoSmall : (H : Type) → List (DataW H) → Bool := fun _ ds => decide (uptoBulkAll ds ≤ 1048576)
def OpenSpec.upto (s : _root_.Go.ChangeSpec) : _root_.Go.OpenSpec := { _root_.Go.OpenSpec.ofChange s with cond := some uptoSmall }

/-- 'laws.FnExactCoatCost', WHERE WHAT IT READS IS OF BULK AT MOST 1048576: true; the input reads as it did. -/
def fnExactCoatCostUptoRow : OpenClaim := { program := "ytjboimldlbapkaa", sum := "d5249465c964ca475e1a9f1ee7b875d80e5b14dcf935865a14539a02e2479c18", func := "loop.example/g01011/laws.FnExactCoatCost", spec := "fnExactCoatCost", apart := false, narrowed := true }
def FnExactCoatCostUptoSaid : Prop := fnExactCoatCostUptoRow.holds Try.pinned (OpenSpec.upto fnExactCoatCostSpec)

/-- 'laws.FnExactBestThickness', WHERE WHAT IT READS IS OF BULK AT MOST 1048576: true; the input reads as it did. -/
def fnExactBestThicknessUptoRow : OpenClaim := { program := "ytjboimldlbapkaa", sum := "d5249465c964ca475e1a9f1ee7b875d80e5b14dcf935865a14539a02e2479c18", func := "loop.example/g01011/laws.FnExactBestThickness", spec := "fnExactBestThickness", apart := false, narrowed := true }
def FnExactBestThicknessUptoSaid : Prop := fnExactBestThicknessUptoRow.holds Try.pinned (OpenSpec.upto fnExactBestThicknessSpec)

/-- 'laws.FnExactNetworkLoss', WHERE WHAT IT READS IS OF BULK AT MOST 1048576: true; the input reads as it did. -/
def fnExactNetworkLossUptoRow : OpenClaim := { program := "ytjboimldlbapkaa", sum := "d5249465c964ca475e1a9f1ee7b875d80e5b14dcf935865a14539a02e2479c18", func := "loop.example/g01011/laws.FnExactNetworkLoss", spec := "fnExactNetworkLoss", unfollowed := true, recurses := true, apart := false, narrowed := true }
def FnExactNetworkLossUptoSaid : Prop := fnExactNetworkLossUptoRow.holds Try.pinned (OpenSpec.upto fnExactNetworkLossSpec)

/-- 'laws.FnExactYearLoss', WHERE WHAT IT READS IS OF BULK AT MOST 1048576: true; the input reads as it did. -/
def fnExactYearLossUptoRow : OpenClaim := { program := "ytjboimldlbapkaa", sum := "d5249465c964ca475e1a9f1ee7b875d80e5b14dcf935865a14539a02e2479c18", func := "loop.example/g01011/laws.FnExactYearLoss", spec := "fnExactYearLoss", unfollowed := true, recurses := true, apart := false, narrowed := true }
def FnExactYearLossUptoSaid : Prop := fnExactYearLossUptoRow.holds Try.pinned (OpenSpec.upto fnExactYearLossSpec)

/-- 'laws.FnExactLossShares', WHERE WHAT IT READS IS OF BULK AT MOST 1048576: true; the input reads as it did. -/
def fnExactLossSharesUptoRow : OpenClaim := { program := "ytjboimldlbapkaa", sum := "d5249465c964ca475e1a9f1ee7b875d80e5b14dcf935865a14539a02e2479c18", func := "loop.example/g01011/laws.FnExactLossShares", spec := "fnExactLossShares", unfollowed := true, recurses := true, apart := false, narrowed := true }
def FnExactLossSharesUptoSaid : Prop := fnExactLossSharesUptoRow.holds Try.pinned (OpenSpec.upto fnExactLossSharesSpec)

/-- 'laws.FnExactRenewPipes', WHERE WHAT IT READS IS OF BULK AT MOST 1048576: true; the input reads as it did. -/
def fnExactRenewPipesUptoRow : OpenClaim := { program := "ytjboimldlbapkaa", sum := "d5249465c964ca475e1a9f1ee7b875d80e5b14dcf935865a14539a02e2479c18", func := "loop.example/g01011/laws.FnExactRenewPipes", spec := "fnExactRenewPipes", unfollowed := true, recurses := true, apart := false, narrowed := true }
def FnExactRenewPipesUptoSaid : Prop := fnExactRenewPipesUptoRow.holds Try.pinned (OpenSpec.upto fnExactRenewPipesSpec)

/-- 'laws.FnExactWorstPipes', WHERE WHAT IT READS IS OF BULK AT MOST 1048576: true; the input reads as it did. -/
def fnExactWorstPipesUptoRow : OpenClaim := { program := "ytjboimldlbapkaa", sum := "d5249465c964ca475e1a9f1ee7b875d80e5b14dcf935865a14539a02e2479c18", func := "loop.example/g01011/laws.FnExactWorstPipes", spec := "fnExactWorstPipes", unfollowed := true, recurses := true, apart := false, narrowed := true }
def FnExactWorstPipesUptoSaid : Prop := fnExactWorstPipesUptoRow.holds Try.pinned (OpenSpec.upto fnExactWorstPipesSpec)

/-- 'laws.FnWays', WHERE WHAT IT READS IS OF BULK AT MOST 1048576: true; the input reads as it did. -/
def fnWaysUptoRow : OpenClaim := { program := "ytjboimldlbapkaa", sum := "d5249465c964ca475e1a9f1ee7b875d80e5b14dcf935865a14539a02e2479c18", func := "loop.example/g01011/laws.FnWays", spec := "fnWays", unfollowed := true, recurses := true, apart := false, narrowed := true }
def FnWaysUptoSaid : Prop := fnWaysUptoRow.holds Try.pinned (OpenSpec.upto fnWaysSpec)

/-- 'laws.FnExactNodeTemperatures', WHERE WHAT IT READS IS OF BULK AT MOST 1048576: true; the input reads as it did. -/
def fnExactNodeTemperaturesUptoRow : OpenClaim := { program := "ytjboimldlbapkaa", sum := "d5249465c964ca475e1a9f1ee7b875d80e5b14dcf935865a14539a02e2479c18", func := "loop.example/g01011/laws.FnExactNodeTemperatures", spec := "fnExactNodeTemperatures", unfollowed := true, recurses := true, apart := false, narrowed := true }
def FnExactNodeTemperaturesUptoSaid : Prop := fnExactNodeTemperaturesUptoRow.holds Try.pinned (OpenSpec.upto fnExactNodeTemperaturesSpec)

/-- 'laws.FnHydraulics', WHERE WHAT IT READS IS OF BULK AT MOST 1048576: true; the input reads as it did. -/
def fnHydraulicsUptoRow : OpenClaim := { program := "ytjboimldlbapkaa", sum := "d5249465c964ca475e1a9f1ee7b875d80e5b14dcf935865a14539a02e2479c18", func := "loop.example/g01011/laws.FnHydraulics", spec := "fnHydraulics", unfollowed := true, recurses := true, apart := false, narrowed := true }
def FnHydraulicsUptoSaid : Prop := fnHydraulicsUptoRow.holds Try.pinned (OpenSpec.upto fnHydraulicsSpec)

end Rows
end Go.Proofs.Ytjboimldlbapkaa
