/-
  No cell of these rows narrows 'for every input' (looked for: loops, veiled, ifaces, maps, wideKeys, modest, calm, conditions, laid).
  DERIVED. THE GIVEN ROWS OF THIS SEAT. 5 by the template 'for every input the law returns true; each argument reads behind the call as it read before'; 0 by the template 'total and deterministic' (their statements: YtpfmfcjfbppjgaaTotals.lean).
  GIVEN WITH THE SEED: the statements are not yours to turn. If you find one false, say at which input.
  Laid BY PROGRAM, IN A SANDBOX (cutbox-rows.mjs): the forced cells as the released guide's own fill.sh prints them over the translation 007a9637b74480e0… (all of the seat's roots in one cut). By AI agents, Wed Nov 11 2026. No macro, syntax, notation, axiom, sorry.
-/
import Derived.Test.YtpfmfcjfbppjgaaChecked
import GoSem.Claim
import GoSem.ClaimJoined
import GoSem.ClaimMapViews
import Derived.JoinedTies
import Derived.KernelRfl
namespace Go.Proofs.Ytpfmfcjfbppjgaa
/- THE CELL 'sum', in the pinned program and in every row, IS THE sha256 OF THE DUMP (.gsa) THAT YtpfmfcjfbppjgaaProg.lean LOADS. Nothing in Lean hashes anything: it is a label: what it is worth is what the hold of that sum in a sandbox is worth. -/
noncomputable def Try.pinned : Pinned := { name := "ytpfmfcjfbppjgaa", sum := "007a9637b74480e0cbbb362f9c9d8563aad655e919b3543aec14b2168b7bf364", checked := Try.checked }
namespace Rows
def none {H : Type} : Left H := { results := [], args := [] }

/-- 'laws.FnExactWaveAt': WHATEVER THE INPUT: true; the input reads as it did. -/
def fnExactWaveAtSpec : ChangeSpec := { name := "fnExactWaveAt", fn := fun _ => fun
  | [d1, d2] => { results := [.lit (.bool true)], args := [d1, d2] }
  | _ => none }
def fnExactWaveAtRow : OpenClaim := { program := "ytpfmfcjfbppjgaa", sum := "007a9637b74480e0cbbb362f9c9d8563aad655e919b3543aec14b2168b7bf364", func := "loop.example/g01011/laws.FnExactWaveAt", spec := "fnExactWaveAt", apart := false }
def FnExactWaveAtSaid : Prop := fnExactWaveAtRow.holds Try.pinned (OpenSpec.ofChange fnExactWaveAtSpec)

/-- ITS FALSE NEIGHBOUR: 'it returns false'. Refute it at one input. -/
def fnExactWaveAtWrong : ChangeSpec := { name := "fnExactWaveAt", fn := fun _ => fun
  | [d1, d2] => { results := [.lit (.bool false)], args := [d1, d2] }
  | _ => none }
def FnExactWaveAtWrongFalsely : Prop := fnExactWaveAtRow.holds Try.pinned (OpenSpec.ofChange fnExactWaveAtWrong)

/-- 'laws.FnExactMeanOf': WHATEVER THE INPUT: true; the input reads as it did. -/
def fnExactMeanOfSpec : ChangeSpec := { name := "fnExactMeanOf", fn := fun _ => fun
  | [d1, d2, d3] => { results := [.lit (.bool true)], args := [d1, d2, d3] }
  | _ => none }
def fnExactMeanOfRow : OpenClaim := { program := "ytpfmfcjfbppjgaa", sum := "007a9637b74480e0cbbb362f9c9d8563aad655e919b3543aec14b2168b7bf364", func := "loop.example/g01011/laws.FnExactMeanOf", spec := "fnExactMeanOf", apart := false }
def FnExactMeanOfSaid : Prop := fnExactMeanOfRow.holds Try.pinned (OpenSpec.ofChange fnExactMeanOfSpec)

/-- ITS FALSE NEIGHBOUR: 'it returns false'. Refute it at one input. -/
def fnExactMeanOfWrong : ChangeSpec := { name := "fnExactMeanOf", fn := fun _ => fun
  | [d1, d2, d3] => { results := [.lit (.bool false)], args := [d1, d2, d3] }
  | _ => none }
def FnExactMeanOfWrongFalsely : Prop := fnExactMeanOfRow.holds Try.pinned (OpenSpec.ofChange fnExactMeanOfWrong)

/-- 'laws.FnExactTrimWave': WHATEVER THE INPUT: true; the input reads as it did. -/
def fnExactTrimWaveSpec : ChangeSpec := { name := "fnExactTrimWave", fn := fun _ => fun
  | [d] => { results := [.lit (.bool true)], args := [d] }
  | _ => none }
def fnExactTrimWaveRow : OpenClaim := { program := "ytpfmfcjfbppjgaa", sum := "007a9637b74480e0cbbb362f9c9d8563aad655e919b3543aec14b2168b7bf364", func := "loop.example/g01011/laws.FnExactTrimWave", spec := "fnExactTrimWave", unfollowed := true, recurses := true, apart := false }
def FnExactTrimWaveSaid : Prop := fnExactTrimWaveRow.holds Try.pinned (OpenSpec.ofChange fnExactTrimWaveSpec)

/-- ITS FALSE NEIGHBOUR: 'it returns false'. Refute it at one input. -/
def fnExactTrimWaveWrong : ChangeSpec := { name := "fnExactTrimWave", fn := fun _ => fun
  | [d] => { results := [.lit (.bool false)], args := [d] }
  | _ => none }
def FnExactTrimWaveWrongFalsely : Prop := fnExactTrimWaveRow.holds Try.pinned (OpenSpec.ofChange fnExactTrimWaveWrong)

/-- 'laws.FnExactDelayWave': WHATEVER THE INPUT: true; the input reads as it did. -/
def fnExactDelayWaveSpec : ChangeSpec := { name := "fnExactDelayWave", fn := fun _ => fun
  | [d1, d2, d3] => { results := [.lit (.bool true)], args := [d1, d2, d3] }
  | _ => none }
def fnExactDelayWaveRow : OpenClaim := { program := "ytpfmfcjfbppjgaa", sum := "007a9637b74480e0cbbb362f9c9d8563aad655e919b3543aec14b2168b7bf364", func := "loop.example/g01011/laws.FnExactDelayWave", spec := "fnExactDelayWave", unfollowed := true, recurses := true, apart := false }
def FnExactDelayWaveSaid : Prop := fnExactDelayWaveRow.holds Try.pinned (OpenSpec.ofChange fnExactDelayWaveSpec)

/-- ITS FALSE NEIGHBOUR: 'it returns false'. Refute it at one input. -/
def fnExactDelayWaveWrong : ChangeSpec := { name := "fnExactDelayWave", fn := fun _ => fun
  | [d1, d2, d3] => { results := [.lit (.bool false)], args := [d1, d2, d3] }
  | _ => none }
def FnExactDelayWaveWrongFalsely : Prop := fnExactDelayWaveRow.holds Try.pinned (OpenSpec.ofChange fnExactDelayWaveWrong)

/-- 'laws.FnExactMixWaves': WHATEVER THE INPUT: true; the input reads as it did. -/
def fnExactMixWavesSpec : ChangeSpec := { name := "fnExactMixWaves", fn := fun _ => fun
  | [d1, d2] => { results := [.lit (.bool true)], args := [d1, d2] }
  | _ => none }
def fnExactMixWavesRow : OpenClaim := { program := "ytpfmfcjfbppjgaa", sum := "007a9637b74480e0cbbb362f9c9d8563aad655e919b3543aec14b2168b7bf364", func := "loop.example/g01011/laws.FnExactMixWaves", spec := "fnExactMixWaves", unfollowed := true, recurses := true, apart := false }
def FnExactMixWavesSaid : Prop := fnExactMixWavesRow.holds Try.pinned (OpenSpec.ofChange fnExactMixWavesSpec)

/-- ITS FALSE NEIGHBOUR: 'it returns false'. Refute it at one input. -/
def fnExactMixWavesWrong : ChangeSpec := { name := "fnExactMixWaves", fn := fun _ => fun
  | [d1, d2] => { results := [.lit (.bool false)], args := [d1, d2] }
  | _ => none }
def FnExactMixWavesWrongFalsely : Prop := fnExactMixWavesRow.holds Try.pinned (OpenSpec.ofChange fnExactMixWavesWrong)

/- THE SECOND FORM. 'bulk': how many values and letters a reading holds, each counted each time it is reached (what is shared counts as often as it is met; a slice's spare places count too). A statement '..UptoSaid' is the law's where the arguments, and the package variables that the reading takes, are together of bulk at most 1048576: NARROWER than '..Said'. Prove '..Said' where nothing that the law and all that it calls make is longer than what came in: it says more and counts as full. Else prove '..UptoSaid'. A law counts once. -/
mutual
def uptoBulk {H : Type} : DataW H → Nat
  | .lit (.string bytes) => bytes.length + 1
  | .lit _ => 1
  | .nil => 1
  | .ptr d => uptoBulk d + 1
  | .slice elems spare => uptoBulkAll elems + uptoBulkAll spare + 1
  | .agg parts => uptoBulkAll parts + 1
  | .iface _ d => uptoBulk d + 1
  | .map entries => uptoBulkEntries entries + 1
  | .held _ => 1
def uptoBulkAll {H : Type} : List (DataW H) → Nat
  | [] => 0
  | d :: r => uptoBulk d + uptoBulkAll r
def uptoBulkEntries {H : Type} : List (Lit × DataW H) → Nat
  | [] => 0
  | x :: r => uptoBulkEntry x + uptoBulkEntries r
def uptoBulkEntry {H : Type} : Lit × DataW H → Nat
  | (.string bytes, d) => bytes.length + uptoBulk d + 1
  | (_, d) => uptoBulk d + 1
 end
def uptoSmall : (H : Type) → List (DataW H) → Bool := fun _ ds => decide (uptoBulkAll ds ≤ 1048576)
def OpenSpec.upto (s : _root_.Go.ChangeSpec) : _root_.Go.OpenSpec := { _root_.Go.OpenSpec.ofChange s with cond := some uptoSmall }

/-- 'laws.FnExactWaveAt', WHERE WHAT IT READS IS OF BULK AT MOST 1048576: true; the input reads as it did. -/
def fnExactWaveAtUptoRow : OpenClaim := { program := "ytpfmfcjfbppjgaa", sum := "007a9637b74480e0cbbb362f9c9d8563aad655e919b3543aec14b2168b7bf364", func := "loop.example/g01011/laws.FnExactWaveAt", spec := "fnExactWaveAt", apart := false, narrowed := true }
def FnExactWaveAtUptoSaid : Prop := fnExactWaveAtUptoRow.holds Try.pinned (OpenSpec.upto fnExactWaveAtSpec)

/-- 'laws.FnExactMeanOf', WHERE WHAT IT READS IS OF BULK AT MOST 1048576: true; the input reads as it did. -/
def fnExactMeanOfUptoRow : OpenClaim := { program := "ytpfmfcjfbppjgaa", sum := "007a9637b74480e0cbbb362f9c9d8563aad655e919b3543aec14b2168b7bf364", func := "loop.example/g01011/laws.FnExactMeanOf", spec := "fnExactMeanOf", apart := false, narrowed := true }
def FnExactMeanOfUptoSaid : Prop := fnExactMeanOfUptoRow.holds Try.pinned (OpenSpec.upto fnExactMeanOfSpec)

/-- 'laws.FnExactTrimWave', WHERE WHAT IT READS IS OF BULK AT MOST 1048576: true; the input reads as it did. -/
def fnExactTrimWaveUptoRow : OpenClaim := { program := "ytpfmfcjfbppjgaa", sum := "007a9637b74480e0cbbb362f9c9d8563aad655e919b3543aec14b2168b7bf364", func := "loop.example/g01011/laws.FnExactTrimWave", spec := "fnExactTrimWave", unfollowed := true, recurses := true, apart := false, narrowed := true }
def FnExactTrimWaveUptoSaid : Prop := fnExactTrimWaveUptoRow.holds Try.pinned (OpenSpec.upto fnExactTrimWaveSpec)

/-- 'laws.FnExactDelayWave', WHERE WHAT IT READS IS OF BULK AT MOST 1048576: true; the input reads as it did. -/
def fnExactDelayWaveUptoRow : OpenClaim := { program := "ytpfmfcjfbppjgaa", sum := "007a9637b74480e0cbbb362f9c9d8563aad655e919b3543aec14b2168b7bf364", func := "loop.example/g01011/laws.FnExactDelayWave", spec := "fnExactDelayWave", unfollowed := true, recurses := true, apart := false, narrowed := true }
def FnExactDelayWaveUptoSaid : Prop := fnExactDelayWaveUptoRow.holds Try.pinned (OpenSpec.upto fnExactDelayWaveSpec)

/-- 'laws.FnExactMixWaves', WHERE WHAT IT READS IS OF BULK AT MOST 1048576: true; the input reads as it did. -/
def fnExactMixWavesUptoRow : OpenClaim := { program := "ytpfmfcjfbppjgaa", sum := "007a9637b74480e0cbbb362f9c9d8563aad655e919b3543aec14b2168b7bf364", func := "loop.example/g01011/laws.FnExactMixWaves", spec := "fnExactMixWaves", unfollowed := true, recurses := true, apart := false, narrowed := true }
def FnExactMixWavesUptoSaid : Prop := fnExactMixWavesUptoRow.holds Try.pinned (OpenSpec.upto fnExactMixWavesSpec)

end Rows
end Go.Proofs.Ytpfmfcjfbppjgaa
