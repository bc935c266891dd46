/- The law FnExactTrimWave of the program g01011 holds: for every input it returns true, and its arguments read as before. No condition. -/
import Derived.Test.YtpoppoglnjoomaaEvN
import Derived.Test.YtpoppoglnjoomaaDFnExactTrimWave
import Derived.Test.YtpoppoglnjoomaaRows
import Derived.WalkKit
import Derived.ProofKit
import Derived.OpenShut
set_option linter.unusedVariables false
set_option linter.unusedSimpArgs false
namespace Go.Proofs.Ytpoppoglnjoomaa.LFnExactTrimWave
open Go Go.RowKit Go.Proofs Go.Proofs.Ytpoppoglnjoomaa Go.Proofs.Ytpoppoglnjoomaa.Ev Go.Proofs.Ytpoppoglnjoomaa.DFnExactTrimWave
theorem own : ownKnob Try.prog.godebug = none := by kernel_rfl
theorem laid : laidOutB Try.prog = true := by kernel_rfl
theorem lifted (os : Os) (started : os.Started) (H : Type) (enc : TypeId × Value → H) :
    ReturnsInHanded {} Try.checked os 8 .any (Rows.fnExactTrimWaveSpec.pre6 enc Try.prog Try.f8 Rows.fnExactTrimWaveRow.domain false) (Rows.fnExactTrimWaveSpec.post enc Try.prog Try.f8 false true false false) := by
  refine lifted_of (C := Try.checked) (tb := 4) [.slc 16 (.agg [.int .i64, .int .i64])] own started (by kernel_rfl) Try.func8
    (ChangeSpec.witness6 (enc := enc) (C := Try.checked) false ⟨#[], #[.slice none 0 0], []⟩ 8 (by kernel_rfl) (by kernel_rfl) (by kernel_rfl) (by kernel_rfl))
    rfl (fun ds h => by match ds, h with | [_], _ => rfl) rfl Try.underlying4 laid (by kernel_rfl) (by kernel_rfl) (by kernel_rfl) ?_
  intro xs hx
  simp only [isAll, Sh.is, Sh.iss, Sh.wrap, Sh.size, Sh.sizes] at hx
  obtain ⟨_, _, rfl, ⟨a0, rfl, h0, b0, l0⟩, rfl⟩ := hx
  obtain ⟨xs, rfl, hxs⟩ := ex_map (f := stp) (p := fun _ => True) (fun e he => by obtain ⟨c, rfl, _, _, rfl, ⟨m, rfl, _⟩, _, _, rfl, ⟨n, rfl, _⟩, rfl⟩ := h0 e he; exact ⟨(m, n), rfl, trivial⟩)
  exact D_laws_FnExactTrimWave xs (by simp only [reachBytes, List.length_map] at *; omega)
theorem over : Rows.fnExactTrimWaveRow.holds Try.pinned (OpenSpec.ofChange Rows.fnExactTrimWaveSpec) :=
  OpenClaim.holds_of_wide 8 Try.f8 rfl rfl rfl rfl rfl rfl rfl ⟨rfl, rfl, rfl, rfl, rfl⟩ rfl rfl rfl rfl rfl (by kernel_rfl) Try.func8 (by kernel_rfl)
    (of_decide_eq_true (by kernel_rfl)) (by unfold Func.isWrapper; first | (rw [if_pos (by decide +kernel)]; kernel_rfl) | (rw [if_neg (by decide +kernel)]; exact ⟨rfl, rfl⟩))
    (fun os started H enc _ => lifted os started H enc)
theorem proved : Rows.FnExactTrimWaveSaid := over
#print axioms proved
end Go.Proofs.Ytpoppoglnjoomaa.LFnExactTrimWave
