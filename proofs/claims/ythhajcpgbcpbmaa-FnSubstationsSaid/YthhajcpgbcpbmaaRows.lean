/-
  No cell of these rows narrows 'for every input' (looked for: loops, veiled, ifaces, maps, wideKeys, modest, calm, conditions, laid).
  DERIVED. THE GIVEN ROWS OF THIS SEAT. 10 by the template 'for every input the law returns true; each argument reads behind the call as it read before'; 0 by the template 'total and deterministic' (their statements: YthhajcpgbcpbmaaTotals.lean).
  GIVEN WITH THE SEED: the statements are not yours to turn. If you find one false, say at which input.
  Laid BY PROGRAM, IN A SANDBOX (cutbox-rows.mjs): the forced cells as the released guide's own fill.sh prints them over the translation d58bc0944b37cfb0… (all of the seat's roots in one cut). By AI agents, Wed Nov 11 2026. No macro, syntax, notation, axiom, sorry.
-/
import Derived.Test.YthhajcpgbcpbmaaChecked
import GoSem.Claim
import GoSem.ClaimJoined
import GoSem.ClaimMapViews
import Derived.JoinedTies
import Derived.KernelRfl
namespace Go.Proofs.Ythhajcpgbcpbmaa
/- THE CELL 'sum', in the pinned program and in every row, IS THE sha256 OF THE DUMP (.gsa) THAT YthhajcpgbcpbmaaProg.lean LOADS. Nothing in Lean hashes anything: it is a label: what it is worth is what the hold of that sum in a sandbox is worth. -/
noncomputable def Try.pinned : Pinned := { name := "ythhajcpgbcpbmaa", sum := "d58bc0944b37cfb077f046e83ec7ceab8cc4d326935d17008b281c6332ca43f0", checked := Try.checked }
namespace Rows
def none {H : Type} : Left H := { results := [], args := [] }

/-- 'laws.FnExactMeanDifference': WHATEVER THE INPUT: true; the input reads as it did. -/
def fnExactMeanDifferenceSpec : ChangeSpec := { name := "fnExactMeanDifference", fn := fun _ => fun
  | [d1, d2, d3] => { results := [.lit (.bool true)], args := [d1, d2, d3] }
  | _ => none }
def fnExactMeanDifferenceRow : OpenClaim := { program := "ythhajcpgbcpbmaa", sum := "d58bc0944b37cfb077f046e83ec7ceab8cc4d326935d17008b281c6332ca43f0", func := "loop.example/g01011/laws.FnExactMeanDifference", spec := "fnExactMeanDifference", apart := false }
def FnExactMeanDifferenceSaid : Prop := fnExactMeanDifferenceRow.holds Try.pinned (OpenSpec.ofChange fnExactMeanDifferenceSpec)

/-- ITS FALSE NEIGHBOUR: 'it returns false'. Refute it at one input. -/
def fnExactMeanDifferenceWrong : ChangeSpec := { name := "fnExactMeanDifference", fn := fun _ => fun
  | [d1, d2, d3] => { results := [.lit (.bool false)], args := [d1, d2, d3] }
  | _ => none }
def FnExactMeanDifferenceWrongFalsely : Prop := fnExactMeanDifferenceRow.holds Try.pinned (OpenSpec.ofChange fnExactMeanDifferenceWrong)

/-- 'laws.FnExactValidSubstations': WHATEVER THE INPUT: true; the input reads as it did. -/
def fnExactValidSubstationsSpec : ChangeSpec := { name := "fnExactValidSubstations", fn := fun _ => fun
  | [d] => { results := [.lit (.bool true)], args := [d] }
  | _ => none }
def fnExactValidSubstationsRow : OpenClaim := { program := "ythhajcpgbcpbmaa", sum := "d58bc0944b37cfb077f046e83ec7ceab8cc4d326935d17008b281c6332ca43f0", func := "loop.example/g01011/laws.FnExactValidSubstations", spec := "fnExactValidSubstations", apart := false }
def FnExactValidSubstationsSaid : Prop := fnExactValidSubstationsRow.holds Try.pinned (OpenSpec.ofChange fnExactValidSubstationsSpec)

/-- ITS FALSE NEIGHBOUR: 'it returns false'. Refute it at one input. -/
def fnExactValidSubstationsWrong : ChangeSpec := { name := "fnExactValidSubstations", fn := fun _ => fun
  | [d] => { results := [.lit (.bool false)], args := [d] }
  | _ => none }
def FnExactValidSubstationsWrongFalsely : Prop := fnExactValidSubstationsRow.holds Try.pinned (OpenSpec.ofChange fnExactValidSubstationsWrong)

/-- 'laws.FnExactReturnAt': WHATEVER THE INPUT: true; the input reads as it did. -/
def fnExactReturnAtSpec : ChangeSpec := { name := "fnExactReturnAt", fn := fun _ => fun
  | [d1, d2, d3] => { results := [.lit (.bool true)], args := [d1, d2, d3] }
  | _ => none }
def fnExactReturnAtRow : OpenClaim := { program := "ythhajcpgbcpbmaa", sum := "d58bc0944b37cfb077f046e83ec7ceab8cc4d326935d17008b281c6332ca43f0", func := "loop.example/g01011/laws.FnExactReturnAt", spec := "fnExactReturnAt", unfollowed := true, recurses := true, apart := false }
def FnExactReturnAtSaid : Prop := fnExactReturnAtRow.holds Try.pinned (OpenSpec.ofChange fnExactReturnAtSpec)

/-- ITS FALSE NEIGHBOUR: 'it returns false'. Refute it at one input. -/
def fnExactReturnAtWrong : ChangeSpec := { name := "fnExactReturnAt", fn := fun _ => fun
  | [d1, d2, d3] => { results := [.lit (.bool false)], args := [d1, d2, d3] }
  | _ => none }
def FnExactReturnAtWrongFalsely : Prop := fnExactReturnAtRow.holds Try.pinned (OpenSpec.ofChange fnExactReturnAtWrong)

/-- 'laws.FnExactPowerAt': WHATEVER THE INPUT: true; the input reads as it did. -/
def fnExactPowerAtSpec : ChangeSpec := { name := "fnExactPowerAt", fn := fun _ => fun
  | [d1, d2, d3] => { results := [.lit (.bool true)], args := [d1, d2, d3] }
  | _ => none }
def fnExactPowerAtRow : OpenClaim := { program := "ythhajcpgbcpbmaa", sum := "d58bc0944b37cfb077f046e83ec7ceab8cc4d326935d17008b281c6332ca43f0", func := "loop.example/g01011/laws.FnExactPowerAt", spec := "fnExactPowerAt", unfollowed := true, recurses := true, apart := false }
def FnExactPowerAtSaid : Prop := fnExactPowerAtRow.holds Try.pinned (OpenSpec.ofChange fnExactPowerAtSpec)

/-- ITS FALSE NEIGHBOUR: 'it returns false'. Refute it at one input. -/
def fnExactPowerAtWrong : ChangeSpec := { name := "fnExactPowerAt", fn := fun _ => fun
  | [d1, d2, d3] => { results := [.lit (.bool false)], args := [d1, d2, d3] }
  | _ => none }
def FnExactPowerAtWrongFalsely : Prop := fnExactPowerAtRow.holds Try.pinned (OpenSpec.ofChange fnExactPowerAtWrong)

/-- 'laws.FnExactLeastPrimary': WHATEVER THE INPUT: true; the input reads as it did. -/
def fnExactLeastPrimarySpec : ChangeSpec := { name := "fnExactLeastPrimary", fn := fun _ => fun
  | [d1, d2, d3] => { results := [.lit (.bool true)], args := [d1, d2, d3] }
  | _ => none }
def fnExactLeastPrimaryRow : OpenClaim := { program := "ythhajcpgbcpbmaa", sum := "d58bc0944b37cfb077f046e83ec7ceab8cc4d326935d17008b281c6332ca43f0", func := "loop.example/g01011/laws.FnExactLeastPrimary", spec := "fnExactLeastPrimary", unfollowed := true, recurses := true, apart := false }
def FnExactLeastPrimarySaid : Prop := fnExactLeastPrimaryRow.holds Try.pinned (OpenSpec.ofChange fnExactLeastPrimarySpec)

/-- ITS FALSE NEIGHBOUR: 'it returns false'. Refute it at one input. -/
def fnExactLeastPrimaryWrong : ChangeSpec := { name := "fnExactLeastPrimary", fn := fun _ => fun
  | [d1, d2, d3] => { results := [.lit (.bool false)], args := [d1, d2, d3] }
  | _ => none }
def FnExactLeastPrimaryWrongFalsely : Prop := fnExactLeastPrimaryRow.holds Try.pinned (OpenSpec.ofChange fnExactLeastPrimaryWrong)

/-- 'laws.FnExactLeastTransfer': WHATEVER THE INPUT: true; the input reads as it did. -/
def fnExactLeastTransferSpec : ChangeSpec := { name := "fnExactLeastTransfer", fn := fun _ => fun
  | [d1, d2, d3] => { results := [.lit (.bool true)], args := [d1, d2, d3] }
  | _ => none }
def fnExactLeastTransferRow : OpenClaim := { program := "ythhajcpgbcpbmaa", sum := "d58bc0944b37cfb077f046e83ec7ceab8cc4d326935d17008b281c6332ca43f0", func := "loop.example/g01011/laws.FnExactLeastTransfer", spec := "fnExactLeastTransfer", unfollowed := true, recurses := true, apart := false }
def FnExactLeastTransferSaid : Prop := fnExactLeastTransferRow.holds Try.pinned (OpenSpec.ofChange fnExactLeastTransferSpec)

/-- ITS FALSE NEIGHBOUR: 'it returns false'. Refute it at one input. -/
def fnExactLeastTransferWrong : ChangeSpec := { name := "fnExactLeastTransfer", fn := fun _ => fun
  | [d1, d2, d3] => { results := [.lit (.bool false)], args := [d1, d2, d3] }
  | _ => none }
def FnExactLeastTransferWrongFalsely : Prop := fnExactLeastTransferRow.holds Try.pinned (OpenSpec.ofChange fnExactLeastTransferWrong)

/-- 'laws.FnExactPrimaryFlow': WHATEVER THE INPUT: true; the input reads as it did. -/
def fnExactPrimaryFlowSpec : ChangeSpec := { name := "fnExactPrimaryFlow", fn := fun _ => fun
  | [d1, d2, d3] => { results := [.lit (.bool true)], args := [d1, d2, d3] }
  | _ => none }
def fnExactPrimaryFlowRow : OpenClaim := { program := "ythhajcpgbcpbmaa", sum := "d58bc0944b37cfb077f046e83ec7ceab8cc4d326935d17008b281c6332ca43f0", func := "loop.example/g01011/laws.FnExactPrimaryFlow", spec := "fnExactPrimaryFlow", unfollowed := true, recurses := true, apart := false }
def FnExactPrimaryFlowSaid : Prop := fnExactPrimaryFlowRow.holds Try.pinned (OpenSpec.ofChange fnExactPrimaryFlowSpec)

/-- ITS FALSE NEIGHBOUR: 'it returns false'. Refute it at one input. -/
def fnExactPrimaryFlowWrong : ChangeSpec := { name := "fnExactPrimaryFlow", fn := fun _ => fun
  | [d1, d2, d3] => { results := [.lit (.bool false)], args := [d1, d2, d3] }
  | _ => none }
def FnExactPrimaryFlowWrongFalsely : Prop := fnExactPrimaryFlowRow.holds Try.pinned (OpenSpec.ofChange fnExactPrimaryFlowWrong)

/-- 'laws.FnExactReturnMix': WHATEVER THE INPUT: true; the input reads as it did. -/
def fnExactReturnMixSpec : ChangeSpec := { name := "fnExactReturnMix", fn := fun _ => fun
  | [d1, d2, d3] => { results := [.lit (.bool true)], args := [d1, d2, d3] }
  | _ => none }
def fnExactReturnMixRow : OpenClaim := { program := "ythhajcpgbcpbmaa", sum := "d58bc0944b37cfb077f046e83ec7ceab8cc4d326935d17008b281c6332ca43f0", func := "loop.example/g01011/laws.FnExactReturnMix", spec := "fnExactReturnMix", unfollowed := true, recurses := true, apart := false }
def FnExactReturnMixSaid : Prop := fnExactReturnMixRow.holds Try.pinned (OpenSpec.ofChange fnExactReturnMixSpec)

/-- ITS FALSE NEIGHBOUR: 'it returns false'. Refute it at one input. -/
def fnExactReturnMixWrong : ChangeSpec := { name := "fnExactReturnMix", fn := fun _ => fun
  | [d1, d2, d3] => { results := [.lit (.bool false)], args := [d1, d2, d3] }
  | _ => none }
def FnExactReturnMixWrongFalsely : Prop := fnExactReturnMixRow.holds Try.pinned (OpenSpec.ofChange fnExactReturnMixWrong)

/-- 'laws.FnExactWeakSubstations': WHATEVER THE INPUT: true; the input reads as it did. -/
def fnExactWeakSubstationsSpec : ChangeSpec := { name := "fnExactWeakSubstations", fn := fun _ => fun
  | [d1, d2, d3] => { results := [.lit (.bool true)], args := [d1, d2, d3] }
  | _ => none }
def fnExactWeakSubstationsRow : OpenClaim := { program := "ythhajcpgbcpbmaa", sum := "d58bc0944b37cfb077f046e83ec7ceab8cc4d326935d17008b281c6332ca43f0", func := "loop.example/g01011/laws.FnExactWeakSubstations", spec := "fnExactWeakSubstations", unfollowed := true, recurses := true, apart := false }
def FnExactWeakSubstationsSaid : Prop := fnExactWeakSubstationsRow.holds Try.pinned (OpenSpec.ofChange fnExactWeakSubstationsSpec)

/-- ITS FALSE NEIGHBOUR: 'it returns false'. Refute it at one input. -/
def fnExactWeakSubstationsWrong : ChangeSpec := { name := "fnExactWeakSubstations", fn := fun _ => fun
  | [d1, d2, d3] => { results := [.lit (.bool false)], args := [d1, d2, d3] }
  | _ => none }
def FnExactWeakSubstationsWrongFalsely : Prop := fnExactWeakSubstationsRow.holds Try.pinned (OpenSpec.ofChange fnExactWeakSubstationsWrong)

/-- 'laws.FnSubstations': WHATEVER THE INPUT: true; the input reads as it did. -/
def fnSubstationsSpec : ChangeSpec := { name := "fnSubstations", fn := fun _ => fun
  | [d1, d2] => { results := [.lit (.bool true)], args := [d1, d2] }
  | _ => none }
def fnSubstationsRow : OpenClaim := { program := "ythhajcpgbcpbmaa", sum := "d58bc0944b37cfb077f046e83ec7ceab8cc4d326935d17008b281c6332ca43f0", func := "loop.example/g01011/laws.FnSubstations", spec := "fnSubstations", unfollowed := true, recurses := true, apart := false }
def FnSubstationsSaid : Prop := fnSubstationsRow.holds Try.pinned (OpenSpec.ofChange fnSubstationsSpec)

/-- ITS FALSE NEIGHBOUR: 'it returns false'. Refute it at one input. -/
def fnSubstationsWrong : ChangeSpec := { name := "fnSubstations", fn := fun _ => fun
  | [d1, d2] => { results := [.lit (.bool false)], args := [d1, d2] }
  | _ => none }
def FnSubstationsWrongFalsely : Prop := fnSubstationsRow.holds Try.pinned (OpenSpec.ofChange fnSubstationsWrong)

/- THE SECOND FORM. 'bulk': how many values and letters a reading holds, each counted each time it is reached (what is shared counts as often as it is met; a slice's spare places count too). A statement '..UptoSaid' is the law's where the arguments, and the package variables that the reading takes, are together of bulk at most 1048576: NARROWER than '..Said'. Prove '..Said' where nothing that the law and all that it calls make is longer than what came in: it says more and counts as full. Else prove '..UptoSaid'. A law counts once. -/
mutual
def uptoBulk {H : Type} : DataW H → Nat
  | .lit (.string bytes) => bytes.length + 1
  | .lit _ => 1
  | .nil => 1
  | .ptr d => uptoBulk d + 1
  | .slice elems spare => uptoBulkAll elems + uptoBulkAll spare + 1
  | .agg parts => uptoBulkAll parts + 1
  | .iface _ d => uptoBulk d + 1
  | .map entries => uptoBulkEntries entries + 1
  | .held _ => 1
def uptoBulkAll {H : Type} : List (DataW H) → Nat
  | [] => 0
  | d :: r => uptoBulk d + uptoBulkAll r
def uptoBulkEntries {H : Type} : List (Lit × DataW H) → Nat
  | [] => 0
  | x :: r => uptoBulkEntry x + uptoBulkEntries r
def uptoBulkEntry {H : Type} : Lit × DataW H → Nat
  | (.string bytes, d) => bytes.length + uptoBulk d + 1
  | (_, d) => uptoBulk d + 1
 end
def uptoSmall : (H : Type) → List (DataW H) → Bool := fun _ ds => decide (uptoBulkAll ds ≤ 1048576)
def OpenSpec.upto (s : _root_.Go.ChangeSpec) : _root_.Go.OpenSpec := { _root_.Go.OpenSpec.ofChange s with cond := some uptoSmall }

/-- 'laws.FnExactMeanDifference', WHERE WHAT IT READS IS OF BULK AT MOST 1048576: true; the input reads as it did. -/
def fnExactMeanDifferenceUptoRow : OpenClaim := { program := "ythhajcpgbcpbmaa", sum := "d58bc0944b37cfb077f046e83ec7ceab8cc4d326935d17008b281c6332ca43f0", func := "loop.example/g01011/laws.FnExactMeanDifference", spec := "fnExactMeanDifference", apart := false, narrowed := true }
def FnExactMeanDifferenceUptoSaid : Prop := fnExactMeanDifferenceUptoRow.holds Try.pinned (OpenSpec.upto fnExactMeanDifferenceSpec)

/-- 'laws.FnExactValidSubstations', WHERE WHAT IT READS IS OF BULK AT MOST 1048576: true; the input reads as it did. -/
def fnExactValidSubstationsUptoRow : OpenClaim := { program := "ythhajcpgbcpbmaa", sum := "d58bc0944b37cfb077f046e83ec7ceab8cc4d326935d17008b281c6332ca43f0", func := "loop.example/g01011/laws.FnExactValidSubstations", spec := "fnExactValidSubstations", apart := false, narrowed := true }
def FnExactValidSubstationsUptoSaid : Prop := fnExactValidSubstationsUptoRow.holds Try.pinned (OpenSpec.upto fnExactValidSubstationsSpec)

/-- 'laws.FnExactReturnAt', WHERE WHAT IT READS IS OF BULK AT MOST 1048576: true; the input reads as it did. -/
def fnExactReturnAtUptoRow : OpenClaim := { program := "ythhajcpgbcpbmaa", sum := "d58bc0944b37cfb077f046e83ec7ceab8cc4d326935d17008b281c6332ca43f0", func := "loop.example/g01011/laws.FnExactReturnAt", spec := "fnExactReturnAt", unfollowed := true, recurses := true, apart := false, narrowed := true }
def FnExactReturnAtUptoSaid : Prop := fnExactReturnAtUptoRow.holds Try.pinned (OpenSpec.upto fnExactReturnAtSpec)

/-- 'laws.FnExactPowerAt', WHERE WHAT IT READS IS OF BULK AT MOST 1048576: true; the input reads as it did. -/
def fnExactPowerAtUptoRow : OpenClaim := { program := "ythhajcpgbcpbmaa", sum := "d58bc0944b37cfb077f046e83ec7ceab8cc4d326935d17008b281c6332ca43f0", func := "loop.example/g01011/laws.FnExactPowerAt", spec := "fnExactPowerAt", unfollowed := true, recurses := true, apart := false, narrowed := true }
def FnExactPowerAtUptoSaid : Prop := fnExactPowerAtUptoRow.holds Try.pinned (OpenSpec.upto fnExactPowerAtSpec)

/-- 'laws.FnExactLeastPrimary', WHERE WHAT IT READS IS OF BULK AT MOST 1048576: true; the input reads as it did. -/
def fnExactLeastPrimaryUptoRow : OpenClaim := { program := "ythhajcpgbcpbmaa", sum := "d58bc0944b37cfb077f046e83ec7ceab8cc4d326935d17008b281c6332ca43f0", func := "loop.example/g01011/laws.FnExactLeastPrimary", spec := "fnExactLeastPrimary", unfollowed := true, recurses := true, apart := false, narrowed := true }
def FnExactLeastPrimaryUptoSaid : Prop := fnExactLeastPrimaryUptoRow.holds Try.pinned (OpenSpec.upto fnExactLeastPrimarySpec)

/-- 'laws.FnExactLeastTransfer', WHERE WHAT IT READS IS OF BULK AT MOST 1048576: true; the input reads as it did. -/
def fnExactLeastTransferUptoRow : OpenClaim := { program := "ythhajcpgbcpbmaa", sum := "d58bc0944b37cfb077f046e83ec7ceab8cc4d326935d17008b281c6332ca43f0", func := "loop.example/g01011/laws.FnExactLeastTransfer", spec := "fnExactLeastTransfer", unfollowed := true, recurses := true, apart := false, narrowed := true }
def FnExactLeastTransferUptoSaid : Prop := fnExactLeastTransferUptoRow.holds Try.pinned (OpenSpec.upto fnExactLeastTransferSpec)

/-- 'laws.FnExactPrimaryFlow', WHERE WHAT IT READS IS OF BULK AT MOST 1048576: true; the input reads as it did. -/
def fnExactPrimaryFlowUptoRow : OpenClaim := { program := "ythhajcpgbcpbmaa", sum := "d58bc0944b37cfb077f046e83ec7ceab8cc4d326935d17008b281c6332ca43f0", func := "loop.example/g01011/laws.FnExactPrimaryFlow", spec := "fnExactPrimaryFlow", unfollowed := true, recurses := true, apart := false, narrowed := true }
def FnExactPrimaryFlowUptoSaid : Prop := fnExactPrimaryFlowUptoRow.holds Try.pinned (OpenSpec.upto fnExactPrimaryFlowSpec)

/-- 'laws.FnExactReturnMix', WHERE WHAT IT READS IS OF BULK AT MOST 1048576: true; the input reads as it did. -/
def fnExactReturnMixUptoRow : OpenClaim := { program := "ythhajcpgbcpbmaa", sum := "d58bc0944b37cfb077f046e83ec7ceab8cc4d326935d17008b281c6332ca43f0", func := "loop.example/g01011/laws.FnExactReturnMix", spec := "fnExactReturnMix", unfollowed := true, recurses := true, apart := false, narrowed := true }
def FnExactReturnMixUptoSaid : Prop := fnExactReturnMixUptoRow.holds Try.pinned (OpenSpec.upto fnExactReturnMixSpec)

/-- 'laws.FnExactWeakSubstations', WHERE WHAT IT READS IS OF BULK AT MOST 1048576: true; the input reads as it did. -/
def fnExactWeakSubstationsUptoRow : OpenClaim := { program := "ythhajcpgbcpbmaa", sum := "d58bc0944b37cfb077f046e83ec7ceab8cc4d326935d17008b281c6332ca43f0", func := "loop.example/g01011/laws.FnExactWeakSubstations", spec := "fnExactWeakSubstations", unfollowed := true, recurses := true, apart := false, narrowed := true }
def FnExactWeakSubstationsUptoSaid : Prop := fnExactWeakSubstationsUptoRow.holds Try.pinned (OpenSpec.upto fnExactWeakSubstationsSpec)

/-- 'laws.FnSubstations', WHERE WHAT IT READS IS OF BULK AT MOST 1048576: true; the input reads as it did. -/
def fnSubstationsUptoRow : OpenClaim := { program := "ythhajcpgbcpbmaa", sum := "d58bc0944b37cfb077f046e83ec7ceab8cc4d326935d17008b281c6332ca43f0", func := "loop.example/g01011/laws.FnSubstations", spec := "fnSubstations", unfollowed := true, recurses := true, apart := false, narrowed := true }
def FnSubstationsUptoSaid : Prop := fnSubstationsUptoRow.holds Try.pinned (OpenSpec.upto fnSubstationsSpec)

end Rows
end Go.Proofs.Ythhajcpgbcpbmaa
