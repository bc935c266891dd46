/-
  No cell of these rows narrows 'for every input' (looked for: loops, veiled, ifaces, maps, wideKeys, modest, calm, conditions, laid).
  DERIVED. THE GIVEN ROWS OF THIS SEAT. 7 by the template 'for every input the law returns true; each argument reads behind the call as it read before'; 0 by the template 'total and deterministic' (their statements: YtliocgdpefmpdaaTotals.lean).
  GIVEN WITH THE SEED: the statements are not yours to turn. If you find one false, say at which input.
  Laid BY PROGRAM, IN A SANDBOX (cutbox-rows.mjs): the forced cells as the released guide's own fill.sh prints them over the translation c86db66d1e04e08f… (all of the seat's roots in one cut). By AI agents, Wed Nov 11 2026. No macro, syntax, notation, axiom, sorry.
-/
import Derived.Test.YtliocgdpefmpdaaChecked
import GoSem.Claim
import GoSem.ClaimJoined
import GoSem.ClaimMapViews
import Derived.JoinedTies
import Derived.KernelRfl
namespace Go.Proofs.Ytliocgdpefmpdaa
/- THE CELL 'sum', in the pinned program and in every row, IS THE sha256 OF THE DUMP (.gsa) THAT YtliocgdpefmpdaaProg.lean LOADS. Nothing in Lean hashes anything: it is a label: what it is worth is what the hold of that sum in a sandbox is worth. -/
noncomputable def Try.pinned : Pinned := { name := "ytliocgdpefmpdaa", sum := "c86db66d1e04e08f1f42118a37212795d39832c2bb7c21380df8a7c97163b14b", checked := Try.checked }
namespace Rows
def none {H : Type} : Left H := { results := [], args := [] }

/-- 'laws.FnExactTooHigh': WHATEVER THE INPUT: true; the input reads as it did. -/
def fnExactTooHighSpec : ChangeSpec := { name := "fnExactTooHigh", fn := fun _ => fun
  | [d1, d2] => { results := [.lit (.bool true)], args := [d1, d2] }
  | _ => none }
def fnExactTooHighRow : OpenClaim := { program := "ytliocgdpefmpdaa", sum := "c86db66d1e04e08f1f42118a37212795d39832c2bb7c21380df8a7c97163b14b", func := "loop.example/g01011/laws.FnExactTooHigh", spec := "fnExactTooHigh", unfollowed := true, recurses := true, apart := false }
def FnExactTooHighSaid : Prop := fnExactTooHighRow.holds Try.pinned (OpenSpec.ofChange fnExactTooHighSpec)

/-- ITS FALSE NEIGHBOUR: 'it returns false'. Refute it at one input. -/
def fnExactTooHighWrong : ChangeSpec := { name := "fnExactTooHigh", fn := fun _ => fun
  | [d1, d2] => { results := [.lit (.bool false)], args := [d1, d2] }
  | _ => none }
def FnExactTooHighWrongFalsely : Prop := fnExactTooHighRow.holds Try.pinned (OpenSpec.ofChange fnExactTooHighWrong)

/-- 'laws.FnExactHottestWater': WHATEVER THE INPUT: true; the input reads as it did. -/
def fnExactHottestWaterSpec : ChangeSpec := { name := "fnExactHottestWater", fn := fun _ => fun
  | [d1, d2] => { results := [.lit (.bool true)], args := [d1, d2] }
  | _ => none }
def fnExactHottestWaterRow : OpenClaim := { program := "ytliocgdpefmpdaa", sum := "c86db66d1e04e08f1f42118a37212795d39832c2bb7c21380df8a7c97163b14b", func := "loop.example/g01011/laws.FnExactHottestWater", spec := "fnExactHottestWater", unfollowed := true, recurses := true, apart := false }
def FnExactHottestWaterSaid : Prop := fnExactHottestWaterRow.holds Try.pinned (OpenSpec.ofChange fnExactHottestWaterSpec)

/-- ITS FALSE NEIGHBOUR: 'it returns false'. Refute it at one input. -/
def fnExactHottestWaterWrong : ChangeSpec := { name := "fnExactHottestWater", fn := fun _ => fun
  | [d1, d2] => { results := [.lit (.bool false)], args := [d1, d2] }
  | _ => none }
def FnExactHottestWaterWrongFalsely : Prop := fnExactHottestWaterRow.holds Try.pinned (OpenSpec.ofChange fnExactHottestWaterWrong)

/-- 'laws.FnExactLeastMargin': WHATEVER THE INPUT: true; the input reads as it did. -/
def fnExactLeastMarginSpec : ChangeSpec := { name := "fnExactLeastMargin", fn := fun _ => fun
  | [d1, d2] => { results := [.lit (.bool true)], args := [d1, d2] }
  | _ => none }
def fnExactLeastMarginRow : OpenClaim := { program := "ytliocgdpefmpdaa", sum := "c86db66d1e04e08f1f42118a37212795d39832c2bb7c21380df8a7c97163b14b", func := "loop.example/g01011/laws.FnExactLeastMargin", spec := "fnExactLeastMargin", unfollowed := true, recurses := true, apart := false }
def FnExactLeastMarginSaid : Prop := fnExactLeastMarginRow.holds Try.pinned (OpenSpec.ofChange fnExactLeastMarginSpec)

/-- ITS FALSE NEIGHBOUR: 'it returns false'. Refute it at one input. -/
def fnExactLeastMarginWrong : ChangeSpec := { name := "fnExactLeastMargin", fn := fun _ => fun
  | [d1, d2] => { results := [.lit (.bool false)], args := [d1, d2] }
  | _ => none }
def FnExactLeastMarginWrongFalsely : Prop := fnExactLeastMarginRow.holds Try.pinned (OpenSpec.ofChange fnExactLeastMarginWrong)

/-- 'laws.FnExactBoilingNodes': WHATEVER THE INPUT: true; the input reads as it did. -/
def fnExactBoilingNodesSpec : ChangeSpec := { name := "fnExactBoilingNodes", fn := fun _ => fun
  | [d1, d2, d3] => { results := [.lit (.bool true)], args := [d1, d2, d3] }
  | _ => none }
def fnExactBoilingNodesRow : OpenClaim := { program := "ytliocgdpefmpdaa", sum := "c86db66d1e04e08f1f42118a37212795d39832c2bb7c21380df8a7c97163b14b", func := "loop.example/g01011/laws.FnExactBoilingNodes", spec := "fnExactBoilingNodes", unfollowed := true, recurses := true, apart := false }
def FnExactBoilingNodesSaid : Prop := fnExactBoilingNodesRow.holds Try.pinned (OpenSpec.ofChange fnExactBoilingNodesSpec)

/-- ITS FALSE NEIGHBOUR: 'it returns false'. Refute it at one input. -/
def fnExactBoilingNodesWrong : ChangeSpec := { name := "fnExactBoilingNodes", fn := fun _ => fun
  | [d1, d2, d3] => { results := [.lit (.bool false)], args := [d1, d2, d3] }
  | _ => none }
def FnExactBoilingNodesWrongFalsely : Prop := fnExactBoilingNodesRow.holds Try.pinned (OpenSpec.ofChange fnExactBoilingNodesWrong)

/-- 'laws.FnExactPressureRoom': WHATEVER THE INPUT: true; the input reads as it did. -/
def fnExactPressureRoomSpec : ChangeSpec := { name := "fnExactPressureRoom", fn := fun _ => fun
  | [d1, d2, d3, d4] => { results := [.lit (.bool true)], args := [d1, d2, d3, d4] }
  | _ => none }
def fnExactPressureRoomRow : OpenClaim := { program := "ytliocgdpefmpdaa", sum := "c86db66d1e04e08f1f42118a37212795d39832c2bb7c21380df8a7c97163b14b", func := "loop.example/g01011/laws.FnExactPressureRoom", spec := "fnExactPressureRoom", unfollowed := true, recurses := true, apart := false }
def FnExactPressureRoomSaid : Prop := fnExactPressureRoomRow.holds Try.pinned (OpenSpec.ofChange fnExactPressureRoomSpec)

/-- ITS FALSE NEIGHBOUR: 'it returns false'. Refute it at one input. -/
def fnExactPressureRoomWrong : ChangeSpec := { name := "fnExactPressureRoom", fn := fun _ => fun
  | [d1, d2, d3, d4] => { results := [.lit (.bool false)], args := [d1, d2, d3, d4] }
  | _ => none }
def FnExactPressureRoomWrongFalsely : Prop := fnExactPressureRoomRow.holds Try.pinned (OpenSpec.ofChange fnExactPressureRoomWrong)

/-- 'laws.FnExactStillPressure': WHATEVER THE INPUT: true; the input reads as it did. -/
def fnExactStillPressureSpec : ChangeSpec := { name := "fnExactStillPressure", fn := fun _ => fun
  | [d1, d2, d3, d4] => { results := [.lit (.bool true)], args := [d1, d2, d3, d4] }
  | _ => none }
def fnExactStillPressureRow : OpenClaim := { program := "ytliocgdpefmpdaa", sum := "c86db66d1e04e08f1f42118a37212795d39832c2bb7c21380df8a7c97163b14b", func := "loop.example/g01011/laws.FnExactStillPressure", spec := "fnExactStillPressure", unfollowed := true, recurses := true, apart := false }
def FnExactStillPressureSaid : Prop := fnExactStillPressureRow.holds Try.pinned (OpenSpec.ofChange fnExactStillPressureSpec)

/-- ITS FALSE NEIGHBOUR: 'it returns false'. Refute it at one input. -/
def fnExactStillPressureWrong : ChangeSpec := { name := "fnExactStillPressure", fn := fun _ => fun
  | [d1, d2, d3, d4] => { results := [.lit (.bool false)], args := [d1, d2, d3, d4] }
  | _ => none }
def FnExactStillPressureWrongFalsely : Prop := fnExactStillPressureRow.holds Try.pinned (OpenSpec.ofChange fnExactStillPressureWrong)

/-- 'laws.FnMixes': WHATEVER THE INPUT: true; the input reads as it did. -/
def fnMixesSpec : ChangeSpec := { name := "fnMixes", fn := fun _ => fun
  | [d1, d2] => { results := [.lit (.bool true)], args := [d1, d2] }
  | _ => none }
def fnMixesRow : OpenClaim := { program := "ytliocgdpefmpdaa", sum := "c86db66d1e04e08f1f42118a37212795d39832c2bb7c21380df8a7c97163b14b", func := "loop.example/g01011/laws.FnMixes", spec := "fnMixes", unfollowed := true, recurses := true, apart := false }
def FnMixesSaid : Prop := fnMixesRow.holds Try.pinned (OpenSpec.ofChange fnMixesSpec)

/-- ITS FALSE NEIGHBOUR: 'it returns false'. Refute it at one input. -/
def fnMixesWrong : ChangeSpec := { name := "fnMixes", fn := fun _ => fun
  | [d1, d2] => { results := [.lit (.bool false)], args := [d1, d2] }
  | _ => none }
def FnMixesWrongFalsely : Prop := fnMixesRow.holds Try.pinned (OpenSpec.ofChange fnMixesWrong)

/- THE SECOND FORM. 'bulk': how many values and letters a reading holds, each counted each time it is reached (what is shared counts as often as it is met; a slice's spare places count too). A statement '..UptoSaid' is the law's where the arguments, and the package variables that the reading takes, are together of bulk at most 1048576: NARROWER than '..Said'. Prove '..Said' where nothing that the law and all that it calls make is longer than what came in: it says more and counts as full. Else prove '..UptoSaid'. A law counts once. -/
mutual
def uptoBulk {H : Type} : DataW H → Nat
  | .lit (.string bytes) => bytes.length + 1
  | .lit _ => 1
  | .nil => 1
  | .ptr d => uptoBulk d + 1
  | .slice elems spare => uptoBulkAll elems + uptoBulkAll spare + 1
  | .agg parts => uptoBulkAll parts + 1
  | .iface _ d => uptoBulk d + 1
  | .map entries => uptoBulkEntries entries + 1
  | .held _ => 1
def uptoBulkAll {H : Type} : List (DataW H) → Nat
  | [] => 0
  | d :: r => uptoBulk d + uptoBulkAll r
def uptoBulkEntries {H : Type} : List (Lit × DataW H) → Nat
  | [] => 0
  | x :: r => uptoBulkEntry x + uptoBulkEntries r
def uptoBulkEntry {H : Type} : Lit × DataW H → Nat
  | (.string bytes, d) => bytes.length + uptoBulk d + 1
  | (_, d) => uptoBulk d + 1
 end
def uptoSmall : (H : Type) → List (DataW H) → Bool := fun _ ds => decide (uptoBulkAll ds ≤ 1048576)
def OpenSpec.upto (s : _root_.Go.ChangeSpec) : _root_.Go.OpenSpec := { _root_.Go.OpenSpec.ofChange s with cond := some uptoSmall }

/-- 'laws.FnExactTooHigh', WHERE WHAT IT READS IS OF BULK AT MOST 1048576: true; the input reads as it did. -/
def fnExactTooHighUptoRow : OpenClaim := { program := "ytliocgdpefmpdaa", sum := "c86db66d1e04e08f1f42118a37212795d39832c2bb7c21380df8a7c97163b14b", func := "loop.example/g01011/laws.FnExactTooHigh", spec := "fnExactTooHigh", unfollowed := true, recurses := true, apart := false, narrowed := true }
def FnExactTooHighUptoSaid : Prop := fnExactTooHighUptoRow.holds Try.pinned (OpenSpec.upto fnExactTooHighSpec)

/-- 'laws.FnExactHottestWater', WHERE WHAT IT READS IS OF BULK AT MOST 1048576: true; the input reads as it did. -/
def fnExactHottestWaterUptoRow : OpenClaim := { program := "ytliocgdpefmpdaa", sum := "c86db66d1e04e08f1f42118a37212795d39832c2bb7c21380df8a7c97163b14b", func := "loop.example/g01011/laws.FnExactHottestWater", spec := "fnExactHottestWater", unfollowed := true, recurses := true, apart := false, narrowed := true }
def FnExactHottestWaterUptoSaid : Prop := fnExactHottestWaterUptoRow.holds Try.pinned (OpenSpec.upto fnExactHottestWaterSpec)

/-- 'laws.FnExactLeastMargin', WHERE WHAT IT READS IS OF BULK AT MOST 1048576: true; the input reads as it did. -/
def fnExactLeastMarginUptoRow : OpenClaim := { program := "ytliocgdpefmpdaa", sum := "c86db66d1e04e08f1f42118a37212795d39832c2bb7c21380df8a7c97163b14b", func := "loop.example/g01011/laws.FnExactLeastMargin", spec := "fnExactLeastMargin", unfollowed := true, recurses := true, apart := false, narrowed := true }
def FnExactLeastMarginUptoSaid : Prop := fnExactLeastMarginUptoRow.holds Try.pinned (OpenSpec.upto fnExactLeastMarginSpec)

/-- 'laws.FnExactBoilingNodes', WHERE WHAT IT READS IS OF BULK AT MOST 1048576: true; the input reads as it did. -/
def fnExactBoilingNodesUptoRow : OpenClaim := { program := "ytliocgdpefmpdaa", sum := "c86db66d1e04e08f1f42118a37212795d39832c2bb7c21380df8a7c97163b14b", func := "loop.example/g01011/laws.FnExactBoilingNodes", spec := "fnExactBoilingNodes", unfollowed := true, recurses := true, apart := false, narrowed := true }
def FnExactBoilingNodesUptoSaid : Prop := fnExactBoilingNodesUptoRow.holds Try.pinned (OpenSpec.upto fnExactBoilingNodesSpec)

/-- 'laws.FnExactPressureRoom', WHERE WHAT IT READS IS OF BULK AT MOST 1048576: true; the input reads as it did. -/
def fnExactPressureRoomUptoRow : OpenClaim := { program := "ytliocgdpefmpdaa", sum := "c86db66d1e04e08f1f42118a37212795d39832c2bb7c21380df8a7c97163b14b", func := "loop.example/g01011/laws.FnExactPressureRoom", spec := "fnExactPressureRoom", unfollowed := true, recurses := true, apart := false, narrowed := true }
def FnExactPressureRoomUptoSaid : Prop := fnExactPressureRoomUptoRow.holds Try.pinned (OpenSpec.upto fnExactPressureRoomSpec)

/-- 'laws.FnExactStillPressure', WHERE WHAT IT READS IS OF BULK AT MOST 1048576: true; the input reads as it did. -/
def fnExactStillPressureUptoRow : OpenClaim := { program := "ytliocgdpefmpdaa", sum := "c86db66d1e04e08f1f42118a37212795d39832c2bb7c21380df8a7c97163b14b", func := "loop.example/g01011/laws.FnExactStillPressure", spec := "fnExactStillPressure", unfollowed := true, recurses := true, apart := false, narrowed := true }
def FnExactStillPressureUptoSaid : Prop := fnExactStillPressureUptoRow.holds Try.pinned (OpenSpec.upto fnExactStillPressureSpec)

/-- 'laws.FnMixes', WHERE WHAT IT READS IS OF BULK AT MOST 1048576: true; the input reads as it did. -/
def fnMixesUptoRow : OpenClaim := { program := "ytliocgdpefmpdaa", sum := "c86db66d1e04e08f1f42118a37212795d39832c2bb7c21380df8a7c97163b14b", func := "loop.example/g01011/laws.FnMixes", spec := "fnMixes", unfollowed := true, recurses := true, apart := false, narrowed := true }
def FnMixesUptoSaid : Prop := fnMixesUptoRow.holds Try.pinned (OpenSpec.upto fnMixesSpec)

end Rows
end Go.Proofs.Ytliocgdpefmpdaa
