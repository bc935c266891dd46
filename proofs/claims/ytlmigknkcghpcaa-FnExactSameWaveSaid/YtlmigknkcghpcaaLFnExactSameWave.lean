/- The law FnExactSameWave of the program g01011 holds: for every input it returns true, and its arguments read as before. No condition. -/
import Derived.Test.YtlmigknkcghpcaaEvN
import Derived.Test.YtlmigknkcghpcaaDFnExactSameWave
import Derived.Test.YtlmigknkcghpcaaRows
import Derived.WalkKit
import Derived.ProofKit
import Derived.OpenShut
set_option linter.unusedVariables false
set_option linter.unusedSimpArgs false
namespace Go.Proofs.Ytlmigknkcghpcaa.LFnExactSameWave
open Go Go.RowKit Go.Proofs Go.Proofs.Ytlmigknkcghpcaa Go.Proofs.Ytlmigknkcghpcaa.Ev Go.Proofs.Ytlmigknkcghpcaa.DFnExactSameWave
theorem own : ownKnob Try.prog.godebug = none := by kernel_rfl
theorem laid : laidOutB Try.prog = true := by kernel_rfl
theorem lifted (os : Os) (started : os.Started) (H : Type) (enc : TypeId × Value → H) :
    ReturnsInHanded {} Try.checked os 7 .any (Rows.fnExactSameWaveSpec.pre6 enc Try.prog Try.f7 Rows.fnExactSameWaveRow.domain false) (Rows.fnExactSameWaveSpec.post enc Try.prog Try.f7 false true false false) := by
  refine lifted_of (C := Try.checked) (tb := 4) [.slc 16 (.agg [.int .i64, .int .i64]), .slc 16 (.agg [.int .i64, .int .i64])] own started (by kernel_rfl) Try.func7
    (ChangeSpec.witness6 (enc := enc) (C := Try.checked) false ⟨#[], #[.slice none 0 0, .slice none 0 0], []⟩ 8 (by kernel_rfl) (by kernel_rfl) (by kernel_rfl) (by kernel_rfl))
    rfl (fun ds h => by match ds, h with | [_, _], _ => rfl) rfl Try.underlying4 laid (by kernel_rfl) (by kernel_rfl) ?_
  intro xs hx
  simp only [isAll, Sh.is, Sh.iss, Sh.wrap, Sh.size, Sh.sizes] at hx
  obtain ⟨_, _, rfl, ⟨a0, rfl, h0, b0, l0⟩, ⟨_, _, rfl, ⟨a1, rfl, h1, b1, l1⟩, rfl⟩⟩ := hx
  obtain ⟨xs, rfl, hxs⟩ := ex_map (f := stp) (p := fun _ => True) (fun e he => by obtain ⟨c, rfl, _, _, rfl, ⟨m, rfl, _⟩, _, _, rfl, ⟨n, rfl, _⟩, rfl⟩ := h0 e he; exact ⟨(m, n), rfl, trivial⟩)
  obtain ⟨ys, rfl, hys⟩ := ex_map (f := stp) (p := fun _ => True) (fun e he => by obtain ⟨c, rfl, _, _, rfl, ⟨m, rfl, _⟩, _, _, rfl, ⟨n, rfl, _⟩, rfl⟩ := h1 e he; exact ⟨(m, n), rfl, trivial⟩)
  exact D_laws_FnExactSameWave xs ys (by simp only [reachBytes, List.length_map] at *; omega) (by simp only [reachBytes, List.length_map] at *; omega)
theorem over : Rows.fnExactSameWaveRow.holds Try.pinned (OpenSpec.ofChange Rows.fnExactSameWaveSpec) :=
  OpenClaim.holds_of_wide 7 Try.f7 rfl rfl rfl rfl rfl rfl rfl ⟨rfl, rfl, rfl, rfl, rfl⟩ rfl rfl rfl rfl rfl (by kernel_rfl) Try.func7 (by kernel_rfl)
    (of_decide_eq_true (by kernel_rfl)) (by unfold Func.isWrapper; first | (rw [if_pos (by decide +kernel)]; kernel_rfl) | (rw [if_neg (by decide +kernel)]; exact ⟨rfl, rfl⟩))
    (fun os started H enc _ => lifted os started H enc)
theorem proved : Rows.FnExactSameWaveSaid := over
#print axioms proved
end Go.Proofs.Ytlmigknkcghpcaa.LFnExactSameWave
