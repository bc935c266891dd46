/- The law FnExactDelayWave of the program g01011 holds: for every input it returns true, and its arguments read as before. No condition. -/
import Derived.Test.YtpoppoglnjoomaaEvN
import Derived.Test.YtpoppoglnjoomaaDFnExactDelayWave
import Derived.Test.YtpoppoglnjoomaaRows
import Derived.WalkKit
import Derived.ProofKit
import Derived.OpenShut
set_option linter.unusedVariables false
set_option linter.unusedSimpArgs false
namespace Go.Proofs.Ytpoppoglnjoomaa.LFnExactDelayWave
open Go Go.RowKit Go.Proofs Go.Proofs.Ytpoppoglnjoomaa Go.Proofs.Ytpoppoglnjoomaa.Ev Go.Proofs.Ytpoppoglnjoomaa.DFnExactDelayWave
theorem own : ownKnob Try.prog.godebug = none := by kernel_rfl
theorem laid : laidOutB Try.prog = true := by kernel_rfl
theorem lifted (os : Os) (started : os.Started) (H : Type) (enc : TypeId × Value → H) :
    ReturnsInHanded {} Try.checked os 9 .any (Rows.fnExactDelayWaveSpec.pre6 enc Try.prog Try.f9 Rows.fnExactDelayWaveRow.domain false) (Rows.fnExactDelayWaveSpec.post enc Try.prog Try.f9 false true false false) := by
  refine lifted_of (C := Try.checked) (tb := 4) [.slc 16 (.agg [.int .i64, .int .i64]), .int .i64, .int .i64] own started (by kernel_rfl) Try.func9
    (ChangeSpec.witness6 (enc := enc) (C := Try.checked) false ⟨#[], #[.slice none 0 0, .int .i64 0, .int .i64 0], []⟩ 8 (by kernel_rfl) (by kernel_rfl) (by kernel_rfl) (by kernel_rfl))
    rfl (fun ds h => by match ds, h with | [_, _, _], _ => rfl) rfl Try.underlying4 laid (by kernel_rfl) (by kernel_rfl) (by kernel_rfl) ?_
  intro xs hx
  simp only [isAll, Sh.is, Sh.iss, Sh.wrap, Sh.size, Sh.sizes] at hx
  obtain ⟨_, _, rfl, ⟨a0, rfl, h0, b0, l0⟩, ⟨_, _, rfl, ⟨a1, rfl, h1⟩, ⟨_, _, rfl, ⟨a2, rfl, h2⟩, rfl⟩⟩⟩ := hx
  obtain ⟨xs, rfl, hxs⟩ := ex_map (f := stp) (p := fun _ => True) (fun e he => by obtain ⟨c, rfl, _, _, rfl, ⟨m, rfl, _⟩, _, _, rfl, ⟨n, rfl, _⟩, rfl⟩ := h0 e he; exact ⟨(m, n), rfl, trivial⟩)
  exact D_laws_FnExactDelayWave xs _ _ (by simp only [reachBytes, List.length_map] at *; omega)
theorem over : Rows.fnExactDelayWaveRow.holds Try.pinned (OpenSpec.ofChange Rows.fnExactDelayWaveSpec) :=
  OpenClaim.holds_of_wide 9 Try.f9 rfl rfl rfl rfl rfl rfl rfl ⟨rfl, rfl, rfl, rfl, rfl⟩ rfl rfl rfl rfl rfl (by kernel_rfl) Try.func9 (by kernel_rfl)
    (of_decide_eq_true (by kernel_rfl)) (by unfold Func.isWrapper; first | (rw [if_pos (by decide +kernel)]; kernel_rfl) | (rw [if_neg (by decide +kernel)]; exact ⟨rfl, rfl⟩))
    (fun os started H enc _ => lifted os started H enc)
theorem proved : Rows.FnExactDelayWaveSaid := over
#print axioms proved
end Go.Proofs.Ytpoppoglnjoomaa.LFnExactDelayWave
