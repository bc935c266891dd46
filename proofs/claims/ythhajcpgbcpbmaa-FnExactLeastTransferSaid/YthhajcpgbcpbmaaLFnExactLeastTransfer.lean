/- The law FnExactLeastTransfer of the program g01011 holds: for every input it returns true, and its arguments read as before. No condition. -/
import Derived.Test.YthhajcpgbcpbmaaEvN
import Derived.Test.YthhajcpgbcpbmaaDFnExactLeastTransfer
import Derived.Test.YthhajcpgbcpbmaaRows
import Derived.WalkKit
import Derived.ProofKit
import Derived.OpenShut
set_option linter.unusedVariables false
set_option linter.unusedSimpArgs false
namespace Go.Proofs.Ythhajcpgbcpbmaa.LFnExactLeastTransfer
open Go Go.RowKit Go.Proofs Go.Proofs.Ythhajcpgbcpbmaa Go.Proofs.Ythhajcpgbcpbmaa.Ev Go.Proofs.Ythhajcpgbcpbmaa.DFnExactLeastTransfer
theorem own : ownKnob Try.prog.godebug = none := by kernel_rfl
theorem laid : laidOutB Try.prog = true := by kernel_rfl
theorem lifted (os : Os) (started : os.Started) (H : Type) (enc : TypeId × Value → H) :
    ReturnsInHanded {} Try.checked os 8 .any (Rows.fnExactLeastTransferSpec.pre6 enc Try.prog Try.f8 Rows.fnExactLeastTransferRow.domain false) (Rows.fnExactLeastTransferSpec.post enc Try.prog Try.f8 false true false false) := by
  refine lifted_of (C := Try.checked) (tb := 4) [.agg [.str, .int .i64, .int .i64, .int .i64, .int .i64], .int .i64, .int .i64] own started (by kernel_rfl) Try.func8
    (ChangeSpec.witness6 (enc := enc) (C := Try.checked) false ⟨#[], #[.agg #[.string ⟨#[]⟩, .int .i64 0, .int .i64 0, .int .i64 0, .int .i64 0], .int .i64 0, .int .i64 0], []⟩ 8 (by kernel_rfl) (by kernel_rfl) (by kernel_rfl) (by kernel_rfl))
    rfl (fun ds h => by match ds, h with | [_, _, _], _ => rfl) rfl Try.underlying4 laid (by kernel_rfl) (by kernel_rfl) ?_
  intro xs hx
  simp only [isAll, Sh.is, Sh.iss, Sh.wrap, Sh.size, Sh.sizes] at hx
  obtain ⟨_, _, rfl, ⟨_, _, rfl, ⟨a0, rfl, h0⟩, ⟨_, _, rfl, ⟨a1, rfl, h1⟩, ⟨_, _, rfl, ⟨a2, rfl, h2⟩, ⟨_, _, rfl, ⟨a3, rfl, h3⟩, ⟨_, _, rfl, ⟨a4, rfl, h4⟩, rfl⟩⟩⟩⟩⟩, ⟨_, _, rfl, ⟨a5, rfl, h5⟩, ⟨_, _, rfl, ⟨a6, rfl, h6⟩, rfl⟩⟩⟩ := hx
  exact D_laws_FnExactLeastTransfer _ _ _ _ _ _ _ (by simp only [reachBytes] at *; omega)
theorem over : Rows.fnExactLeastTransferRow.holds Try.pinned (OpenSpec.ofChange Rows.fnExactLeastTransferSpec) :=
  OpenClaim.holds_of_wide 8 Try.f8 rfl rfl rfl rfl rfl rfl rfl ⟨rfl, rfl, rfl, rfl, rfl⟩ rfl rfl rfl rfl rfl (by kernel_rfl) Try.func8 (by kernel_rfl)
    (of_decide_eq_true (by kernel_rfl)) (by unfold Func.isWrapper; first | (rw [if_pos (by decide +kernel)]; kernel_rfl) | (rw [if_neg (by decide +kernel)]; exact ⟨rfl, rfl⟩))
    (fun os started H enc _ => lifted os started H enc)
theorem proved : Rows.FnExactLeastTransferSaid := over
#print axioms proved
end Go.Proofs.Ythhajcpgbcpbmaa.LFnExactLeastTransfer
