/-
  No cell of these rows narrows 'for every input' (looked for: loops, veiled, ifaces, maps, wideKeys, modest, calm, conditions, laid).
  DERIVED. THE GIVEN ROWS OF THIS SEAT. 3 by the template 'for every input the law returns true; each argument reads behind the call as it read before'; 0 by the template 'total and deterministic' (their statements: YtdnndlalflahhaaTotals.lean).
  GIVEN WITH THE SEED: the statements are not yours to turn. If you find one false, say at which input.
  Laid BY PROGRAM, IN A SANDBOX (cutbox-rows.mjs): the forced cells as the released guide's own fill.sh prints them over the translation 89c108fcfb527237… (all of the seat's roots in one cut). By AI agents, Wed Nov 11 2026. No macro, syntax, notation, axiom, sorry.
-/
import Derived.Test.YtdnndlalflahhaaChecked
import GoSem.Claim
import GoSem.ClaimJoined
import GoSem.ClaimMapViews
import Derived.JoinedTies
import Derived.KernelRfl
namespace Go.Proofs.Ytdnndlalflahhaa
/- THE CELL 'sum', in the pinned program and in every row, IS THE sha256 OF THE DUMP (.gsa) THAT YtdnndlalflahhaaProg.lean LOADS. Nothing in Lean hashes anything: it is a label: what it is worth is what the hold of that sum in a sandbox is worth. -/
noncomputable def Try.pinned : Pinned := { name := "ytdnndlalflahhaa", sum := "89c108fcfb52723738298f7ec584a14da5be81d4023cca8d6d85db899c3ffc18", checked := Try.checked }
namespace Rows
def none {H : Type} : Left H := { results := [], args := [] }

/-- 'laws.FnHydraulics': WHATEVER THE INPUT: true; the input reads as it did. -/
def fnHydraulicsSpec : ChangeSpec := { name := "fnHydraulics", fn := fun _ => fun
  | [d1, d2] => { results := [.lit (.bool true)], args := [d1, d2] }
  | _ => none }
def fnHydraulicsRow : OpenClaim := { program := "ytdnndlalflahhaa", sum := "89c108fcfb52723738298f7ec584a14da5be81d4023cca8d6d85db899c3ffc18", func := "loop.example/g01011/laws.FnHydraulics", spec := "fnHydraulics", unfollowed := true, recurses := true, apart := false }
def FnHydraulicsSaid : Prop := fnHydraulicsRow.holds Try.pinned (OpenSpec.ofChange fnHydraulicsSpec)

/-- ITS FALSE NEIGHBOUR: 'it returns false'. Refute it at one input. -/
def fnHydraulicsWrong : ChangeSpec := { name := "fnHydraulics", fn := fun _ => fun
  | [d1, d2] => { results := [.lit (.bool false)], args := [d1, d2] }
  | _ => none }
def FnHydraulicsWrongFalsely : Prop := fnHydraulicsRow.holds Try.pinned (OpenSpec.ofChange fnHydraulicsWrong)

/-- 'laws.FnExactPumpsInRow': WHATEVER THE INPUT: true; the input reads as it did. -/
def fnExactPumpsInRowSpec : ChangeSpec := { name := "fnExactPumpsInRow", fn := fun _ => fun
  | [d1, d2] => { results := [.lit (.bool true)], args := [d1, d2] }
  | _ => none }
def fnExactPumpsInRowRow : OpenClaim := { program := "ytdnndlalflahhaa", sum := "89c108fcfb52723738298f7ec584a14da5be81d4023cca8d6d85db899c3ffc18", func := "loop.example/g01011/laws.FnExactPumpsInRow", spec := "fnExactPumpsInRow", recurses := true, apart := false }
def FnExactPumpsInRowSaid : Prop := fnExactPumpsInRowRow.holds Try.pinned (OpenSpec.ofChange fnExactPumpsInRowSpec)

/-- ITS FALSE NEIGHBOUR: 'it returns false'. Refute it at one input. -/
def fnExactPumpsInRowWrong : ChangeSpec := { name := "fnExactPumpsInRow", fn := fun _ => fun
  | [d1, d2] => { results := [.lit (.bool false)], args := [d1, d2] }
  | _ => none }
def FnExactPumpsInRowWrongFalsely : Prop := fnExactPumpsInRowRow.holds Try.pinned (OpenSpec.ofChange fnExactPumpsInRowWrong)

/-- 'laws.FnExactMixWaves': WHATEVER THE INPUT: true; the input reads as it did. -/
def fnExactMixWavesSpec : ChangeSpec := { name := "fnExactMixWaves", fn := fun _ => fun
  | [d1, d2] => { results := [.lit (.bool true)], args := [d1, d2] }
  | _ => none }
def fnExactMixWavesRow : OpenClaim := { program := "ytdnndlalflahhaa", sum := "89c108fcfb52723738298f7ec584a14da5be81d4023cca8d6d85db899c3ffc18", func := "loop.example/g01011/laws.FnExactMixWaves", spec := "fnExactMixWaves", unfollowed := true, recurses := true, apart := false }
def FnExactMixWavesSaid : Prop := fnExactMixWavesRow.holds Try.pinned (OpenSpec.ofChange fnExactMixWavesSpec)

/-- ITS FALSE NEIGHBOUR: 'it returns false'. Refute it at one input. -/
def fnExactMixWavesWrong : ChangeSpec := { name := "fnExactMixWaves", fn := fun _ => fun
  | [d1, d2] => { results := [.lit (.bool false)], args := [d1, d2] }
  | _ => none }
def FnExactMixWavesWrongFalsely : Prop := fnExactMixWavesRow.holds Try.pinned (OpenSpec.ofChange fnExactMixWavesWrong)

/- THE SECOND FORM. 'bulk': how many values and letters a reading holds, each counted each time it is reached (what is shared counts as often as it is met; a slice's spare places count too). A statement '..UptoSaid' is the law's where the arguments, and the package variables that the reading takes, are together of bulk at most 1048576: NARROWER than '..Said'. Prove '..Said' where nothing that the law and all that it calls make is longer than what came in: it says more and counts as full. Else prove '..UptoSaid'. A law counts once. -/
mutual
def uptoBulk {H : Type} : DataW H → Nat
  | .lit (.string bytes) => bytes.length + 1
  | .lit _ => 1
  | .nil => 1
  | .ptr d => uptoBulk d + 1
  | .slice elems spare => uptoBulkAll elems + uptoBulkAll spare + 1
  | .agg parts => uptoBulkAll parts + 1
  | .iface _ d => uptoBulk d + 1
  | .map entries => uptoBulkEntries entries + 1
  | .held _ => 1
def uptoBulkAll {H : Type} : List (DataW H) → Nat
  | [] => 0
  | d :: r => uptoBulk d + uptoBulkAll r
def uptoBulkEntries {H : Type} : List (Lit × DataW H) → Nat
  | [] => 0
  | x :: r => uptoBulkEntry x + uptoBulkEntries r
def uptoBulkEntry {H : Type} : Lit × DataW H → Nat
  | (.string bytes, d) => bytes.length + uptoBulk d + 1
  | (_, d) => uptoBulk d + 1
 end
def uptoSmall : (H : Type) → List (DataW H) → Bool := fun _ ds => decide (uptoBulkAll ds ≤ 1048576)
def OpenSpec.upto (s : _root_.Go.ChangeSpec) : _root_.Go.OpenSpec := { _root_.Go.OpenSpec.ofChange s with cond := some uptoSmall }

/-- 'laws.FnHydraulics', WHERE WHAT IT READS IS OF BULK AT MOST 1048576: true; the input reads as it did. -/
def fnHydraulicsUptoRow : OpenClaim := { program := "ytdnndlalflahhaa", sum := "89c108fcfb52723738298f7ec584a14da5be81d4023cca8d6d85db899c3ffc18", func := "loop.example/g01011/laws.FnHydraulics", spec := "fnHydraulics", unfollowed := true, recurses := true, apart := false, narrowed := true }
def FnHydraulicsUptoSaid : Prop := fnHydraulicsUptoRow.holds Try.pinned (OpenSpec.upto fnHydraulicsSpec)

/-- 'laws.FnExactPumpsInRow', WHERE WHAT IT READS IS OF BULK AT MOST 1048576: true; the input reads as it did. -/
def fnExactPumpsInRowUptoRow : OpenClaim := { program := "ytdnndlalflahhaa", sum := "89c108fcfb52723738298f7ec584a14da5be81d4023cca8d6d85db899c3ffc18", func := "loop.example/g01011/laws.FnExactPumpsInRow", spec := "fnExactPumpsInRow", recurses := true, apart := false, narrowed := true }
def FnExactPumpsInRowUptoSaid : Prop := fnExactPumpsInRowUptoRow.holds Try.pinned (OpenSpec.upto fnExactPumpsInRowSpec)

/-- 'laws.FnExactMixWaves', WHERE WHAT IT READS IS OF BULK AT MOST 1048576: true; the input reads as it did. -/
def fnExactMixWavesUptoRow : OpenClaim := { program := "ytdnndlalflahhaa", sum := "89c108fcfb52723738298f7ec584a14da5be81d4023cca8d6d85db899c3ffc18", func := "loop.example/g01011/laws.FnExactMixWaves", spec := "fnExactMixWaves", unfollowed := true, recurses := true, apart := false, narrowed := true }
def FnExactMixWavesUptoSaid : Prop := fnExactMixWavesUptoRow.holds Try.pinned (OpenSpec.upto fnExactMixWavesSpec)

end Rows
end Go.Proofs.Ytdnndlalflahhaa
