/-
  No cell of these rows narrows 'for every input' (looked for: loops, veiled, ifaces, maps, wideKeys, modest, calm, conditions, laid).
  DERIVED. THE GIVEN ROWS OF THIS SEAT. 5 by the template 'for every input the law returns true; each argument reads behind the call as it read before'; 0 by the template 'total and deterministic' (their statements: YtkgnbjgnddfojaaTotals.lean).
  GIVEN WITH THE SEED: the statements are not yours to turn. If you find one false, say at which input.
  Laid BY PROGRAM, IN A SANDBOX (cutbox-rows.mjs): the forced cells as the released guide's own fill.sh prints them over the translation 482d00efe7a8b7c3… (all of the seat's roots in one cut). By AI agents, Wed Nov 11 2026. No macro, syntax, notation, axiom, sorry.
-/
import Derived.Test.YtkgnbjgnddfojaaChecked
import GoSem.Claim
import GoSem.ClaimJoined
import GoSem.ClaimMapViews
import Derived.JoinedTies
import Derived.KernelRfl
namespace Go.Proofs.Ytkgnbjgnddfojaa
/- THE CELL 'sum', in the pinned program and in every row, IS THE sha256 OF THE DUMP (.gsa) THAT YtkgnbjgnddfojaaProg.lean LOADS. Nothing in Lean hashes anything: it is a label: what it is worth is what the hold of that sum in a sandbox is worth. -/
noncomputable def Try.pinned : Pinned := { name := "ytkgnbjgnddfojaa", sum := "482d00efe7a8b7c37569125a109ee26bfe6f9db536450424efae3cc9ff0ab3ab", checked := Try.checked }
namespace Rows
def none {H : Type} : Left H := { results := [], args := [] }

/-- 'laws.FnExactNodeTemperatures': WHATEVER THE INPUT: true; the input reads as it did. -/
def fnExactNodeTemperaturesSpec : ChangeSpec := { name := "fnExactNodeTemperatures", fn := fun _ => fun
  | [d1, d2, d3, d4, d5] => { results := [.lit (.bool true)], args := [d1, d2, d3, d4, d5] }
  | _ => none }
def fnExactNodeTemperaturesRow : OpenClaim := { program := "ytkgnbjgnddfojaa", sum := "482d00efe7a8b7c37569125a109ee26bfe6f9db536450424efae3cc9ff0ab3ab", func := "loop.example/g01011/laws.FnExactNodeTemperatures", spec := "fnExactNodeTemperatures", unfollowed := true, recurses := true, apart := false }
def FnExactNodeTemperaturesSaid : Prop := fnExactNodeTemperaturesRow.holds Try.pinned (OpenSpec.ofChange fnExactNodeTemperaturesSpec)

/-- ITS FALSE NEIGHBOUR: 'it returns false'. Refute it at one input. -/
def fnExactNodeTemperaturesWrong : ChangeSpec := { name := "fnExactNodeTemperatures", fn := fun _ => fun
  | [d1, d2, d3, d4, d5] => { results := [.lit (.bool false)], args := [d1, d2, d3, d4, d5] }
  | _ => none }
def FnExactNodeTemperaturesWrongFalsely : Prop := fnExactNodeTemperaturesRow.holds Try.pinned (OpenSpec.ofChange fnExactNodeTemperaturesWrong)

/-- 'laws.FnHydraulics': WHATEVER THE INPUT: true; the input reads as it did. -/
def fnHydraulicsSpec : ChangeSpec := { name := "fnHydraulics", fn := fun _ => fun
  | [d1, d2] => { results := [.lit (.bool true)], args := [d1, d2] }
  | _ => none }
def fnHydraulicsRow : OpenClaim := { program := "ytkgnbjgnddfojaa", sum := "482d00efe7a8b7c37569125a109ee26bfe6f9db536450424efae3cc9ff0ab3ab", func := "loop.example/g01011/laws.FnHydraulics", spec := "fnHydraulics", unfollowed := true, recurses := true, apart := false }
def FnHydraulicsSaid : Prop := fnHydraulicsRow.holds Try.pinned (OpenSpec.ofChange fnHydraulicsSpec)

/-- ITS FALSE NEIGHBOUR: 'it returns false'. Refute it at one input. -/
def fnHydraulicsWrong : ChangeSpec := { name := "fnHydraulics", fn := fun _ => fun
  | [d1, d2] => { results := [.lit (.bool false)], args := [d1, d2] }
  | _ => none }
def FnHydraulicsWrongFalsely : Prop := fnHydraulicsRow.holds Try.pinned (OpenSpec.ofChange fnHydraulicsWrong)

/-- 'laws.FnWays': WHATEVER THE INPUT: true; the input reads as it did. -/
def fnWaysSpec : ChangeSpec := { name := "fnWays", fn := fun _ => fun
  | [d1, d2] => { results := [.lit (.bool true)], args := [d1, d2] }
  | _ => none }
def fnWaysRow : OpenClaim := { program := "ytkgnbjgnddfojaa", sum := "482d00efe7a8b7c37569125a109ee26bfe6f9db536450424efae3cc9ff0ab3ab", func := "loop.example/g01011/laws.FnWays", spec := "fnWays", unfollowed := true, recurses := true, apart := false }
def FnWaysSaid : Prop := fnWaysRow.holds Try.pinned (OpenSpec.ofChange fnWaysSpec)

/-- ITS FALSE NEIGHBOUR: 'it returns false'. Refute it at one input. -/
def fnWaysWrong : ChangeSpec := { name := "fnWays", fn := fun _ => fun
  | [d1, d2] => { results := [.lit (.bool false)], args := [d1, d2] }
  | _ => none }
def FnWaysWrongFalsely : Prop := fnWaysRow.holds Try.pinned (OpenSpec.ofChange fnWaysWrong)

/-- 'laws.FnExactPumpsInRow': WHATEVER THE INPUT: true; the input reads as it did. -/
def fnExactPumpsInRowSpec : ChangeSpec := { name := "fnExactPumpsInRow", fn := fun _ => fun
  | [d1, d2] => { results := [.lit (.bool true)], args := [d1, d2] }
  | _ => none }
def fnExactPumpsInRowRow : OpenClaim := { program := "ytkgnbjgnddfojaa", sum := "482d00efe7a8b7c37569125a109ee26bfe6f9db536450424efae3cc9ff0ab3ab", func := "loop.example/g01011/laws.FnExactPumpsInRow", spec := "fnExactPumpsInRow", recurses := true, apart := false }
def FnExactPumpsInRowSaid : Prop := fnExactPumpsInRowRow.holds Try.pinned (OpenSpec.ofChange fnExactPumpsInRowSpec)

/-- ITS FALSE NEIGHBOUR: 'it returns false'. Refute it at one input. -/
def fnExactPumpsInRowWrong : ChangeSpec := { name := "fnExactPumpsInRow", fn := fun _ => fun
  | [d1, d2] => { results := [.lit (.bool false)], args := [d1, d2] }
  | _ => none }
def FnExactPumpsInRowWrongFalsely : Prop := fnExactPumpsInRowRow.holds Try.pinned (OpenSpec.ofChange fnExactPumpsInRowWrong)

/-- 'laws.FnExactMixWaves': WHATEVER THE INPUT: true; the input reads as it did. -/
def fnExactMixWavesSpec : ChangeSpec := { name := "fnExactMixWaves", fn := fun _ => fun
  | [d1, d2] => { results := [.lit (.bool true)], args := [d1, d2] }
  | _ => none }
def fnExactMixWavesRow : OpenClaim := { program := "ytkgnbjgnddfojaa", sum := "482d00efe7a8b7c37569125a109ee26bfe6f9db536450424efae3cc9ff0ab3ab", func := "loop.example/g01011/laws.FnExactMixWaves", spec := "fnExactMixWaves", unfollowed := true, recurses := true, apart := false }
def FnExactMixWavesSaid : Prop := fnExactMixWavesRow.holds Try.pinned (OpenSpec.ofChange fnExactMixWavesSpec)

/-- ITS FALSE NEIGHBOUR: 'it returns false'. Refute it at one input. -/
def fnExactMixWavesWrong : ChangeSpec := { name := "fnExactMixWaves", fn := fun _ => fun
  | [d1, d2] => { results := [.lit (.bool false)], args := [d1, d2] }
  | _ => none }
def FnExactMixWavesWrongFalsely : Prop := fnExactMixWavesRow.holds Try.pinned (OpenSpec.ofChange fnExactMixWavesWrong)

/- THE SECOND FORM. 'bulk': how many values and letters a reading holds, each counted each time it is reached (what is shared counts as often as it is met; a slice's spare places count too). A statement '..UptoSaid' is the law's where the arguments, and the package variables that the reading takes, are together of bulk at most 1048576: NARROWER than '..Said'. Prove '..Said' where nothing that the law and all that it calls make is longer than what came in: it says more and counts as full. Else prove '..UptoSaid'. A law counts once. -/
mutual
def uptoBulk {H : Type} : DataW H → Nat
  | .lit (.string bytes) => bytes.length + 1
  | .lit _ => 1
  | .nil => 1
  | .ptr d => uptoBulk d + 1
  | .slice elems spare => uptoBulkAll elems + uptoBulkAll spare + 1
  | .agg parts => uptoBulkAll parts + 1
  | .iface _ d => uptoBulk d + 1
  | .map entries => uptoBulkEntries entries + 1
  | .held _ => 1
def uptoBulkAll {H : Type} : List (DataW H) → Nat
  | [] => 0
  | d :: r => uptoBulk d + uptoBulkAll r
def uptoBulkEntries {H : Type} : List (Lit × DataW H) → Nat
  | [] => 0
  | x :: r => uptoBulkEntry x + uptoBulkEntries r
def uptoBulkEntry {H : Type} : Lit × DataW H → Nat
  | (.string bytes, d) => bytes.length + uptoBulk d + 1
  | (_, d) => uptoBulk d + 1
 end
def uptoSmall : (H : Type) → List (DataW H) → Bool := fun _ ds => decide (uptoBulkAll ds ≤ 1048576)
def OpenSpec.upto (s : _root_.Go.ChangeSpec) : _root_.Go.OpenSpec := { _root_.Go.OpenSpec.ofChange s with cond := some uptoSmall }

/-- 'laws.FnExactNodeTemperatures', WHERE WHAT IT READS IS OF BULK AT MOST 1048576: true; the input reads as it did. -/
def fnExactNodeTemperaturesUptoRow : OpenClaim := { program := "ytkgnbjgnddfojaa", sum := "482d00efe7a8b7c37569125a109ee26bfe6f9db536450424efae3cc9ff0ab3ab", func := "loop.example/g01011/laws.FnExactNodeTemperatures", spec := "fnExactNodeTemperatures", unfollowed := true, recurses := true, apart := false, narrowed := true }
def FnExactNodeTemperaturesUptoSaid : Prop := fnExactNodeTemperaturesUptoRow.holds Try.pinned (OpenSpec.upto fnExactNodeTemperaturesSpec)

/-- 'laws.FnHydraulics', WHERE WHAT IT READS IS OF BULK AT MOST 1048576: true; the input reads as it did. -/
def fnHydraulicsUptoRow : OpenClaim := { program := "ytkgnbjgnddfojaa", sum := "482d00efe7a8b7c37569125a109ee26bfe6f9db536450424efae3cc9ff0ab3ab", func := "loop.example/g01011/laws.FnHydraulics", spec := "fnHydraulics", unfollowed := true, recurses := true, apart := false, narrowed := true }
def FnHydraulicsUptoSaid : Prop := fnHydraulicsUptoRow.holds Try.pinned (OpenSpec.upto fnHydraulicsSpec)

/-- 'laws.FnWays', WHERE WHAT IT READS IS OF BULK AT MOST 1048576: true; the input reads as it did. -/
def fnWaysUptoRow : OpenClaim := { program := "ytkgnbjgnddfojaa", sum := "482d00efe7a8b7c37569125a109ee26bfe6f9db536450424efae3cc9ff0ab3ab", func := "loop.example/g01011/laws.FnWays", spec := "fnWays", unfollowed := true, recurses := true, apart := false, narrowed := true }
def FnWaysUptoSaid : Prop := fnWaysUptoRow.holds Try.pinned (OpenSpec.upto fnWaysSpec)

/-- 'laws.FnExactPumpsInRow', WHERE WHAT IT READS IS OF BULK AT MOST 1048576: true; the input reads as it did. -/
def fnExactPumpsInRowUptoRow : OpenClaim := { program := "ytkgnbjgnddfojaa", sum := "482d00efe7a8b7c37569125a109ee26bfe6f9db536450424efae3cc9ff0ab3ab", func := "loop.example/g01011/laws.FnExactPumpsInRow", spec := "fnExactPumpsInRow", recurses := true, apart := false, narrowed := true }
def FnExactPumpsInRowUptoSaid : Prop := fnExactPumpsInRowUptoRow.holds Try.pinned (OpenSpec.upto fnExactPumpsInRowSpec)

/-- 'laws.FnExactMixWaves', WHERE WHAT IT READS IS OF BULK AT MOST 1048576: true; the input reads as it did. -/
def fnExactMixWavesUptoRow : OpenClaim := { program := "ytkgnbjgnddfojaa", sum := "482d00efe7a8b7c37569125a109ee26bfe6f9db536450424efae3cc9ff0ab3ab", func := "loop.example/g01011/laws.FnExactMixWaves", spec := "fnExactMixWaves", unfollowed := true, recurses := true, apart := false, narrowed := true }
def FnExactMixWavesUptoSaid : Prop := fnExactMixWavesUptoRow.holds Try.pinned (OpenSpec.upto fnExactMixWavesSpec)

end Rows
end Go.Proofs.Ytkgnbjgnddfojaa
