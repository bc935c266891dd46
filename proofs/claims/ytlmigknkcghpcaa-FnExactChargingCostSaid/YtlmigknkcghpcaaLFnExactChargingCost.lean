/- The law FnExactChargingCost of the program g01011 holds: for every input it returns true, and its arguments read as before. No condition. -/
import Derived.Test.YtlmigknkcghpcaaEvN
import Derived.Test.YtlmigknkcghpcaaDFnExactChargingCost
import Derived.Test.YtlmigknkcghpcaaRows
import Derived.WalkKit
import Derived.ProofKit
import Derived.OpenShut
set_option linter.unusedVariables false
set_option linter.unusedSimpArgs false
namespace Go.Proofs.Ytlmigknkcghpcaa.LFnExactChargingCost
open Go Go.RowKit Go.Proofs Go.Proofs.Ytlmigknkcghpcaa Go.Proofs.Ytlmigknkcghpcaa.Ev Go.Proofs.Ytlmigknkcghpcaa.DFnExactChargingCost
theorem own : ownKnob Try.prog.godebug = none := by kernel_rfl
theorem laid : laidOutB Try.prog = true := by kernel_rfl
theorem lifted (os : Os) (started : os.Started) (H : Type) (enc : TypeId × Value → H) :
    ReturnsInHanded {} Try.checked os 11 .any (Rows.fnExactChargingCostSpec.pre6 enc Try.prog Try.f11 Rows.fnExactChargingCostRow.domain false) (Rows.fnExactChargingCostSpec.post enc Try.prog Try.f11 false true false false) := by
  refine lifted_of (C := Try.checked) (tb := 4) [.slc 8 (.int .i64), .slc 8 (.int .i64), .slc 8 (.int .i64)] own started (by kernel_rfl) Try.func11
    (ChangeSpec.witness6 (enc := enc) (C := Try.checked) false ⟨#[], #[.slice none 0 0, .slice none 0 0, .slice none 0 0], []⟩ 8 (by kernel_rfl) (by kernel_rfl) (by kernel_rfl) (by kernel_rfl))
    rfl (fun ds h => by match ds, h with | [_, _, _], _ => rfl) rfl Try.underlying4 laid (by kernel_rfl) (by kernel_rfl) ?_
  intro xs hx
  simp only [isAll, Sh.is, Sh.iss, Sh.wrap, Sh.size, Sh.sizes] at hx
  obtain ⟨_, _, rfl, ⟨a0, rfl, h0, b0, l0⟩, ⟨_, _, rfl, ⟨a1, rfl, h1, b1, l1⟩, ⟨_, _, rfl, ⟨a2, rfl, h2, b2, l2⟩, rfl⟩⟩⟩ := hx
  obtain ⟨xs, rfl, hxs⟩ := ex_map (f := ci) (p := fun n => -9223372036854775808 ≤ n ∧ n ≤ 9223372036854775807) (fun e he => by obtain ⟨c, rfl, n, rfl, hn⟩ := h0 e he; exact ⟨n, rfl, wf64 hn⟩)
  obtain ⟨ds, rfl, hds⟩ := ex_map (f := ci) (p := fun n => -9223372036854775808 ≤ n ∧ n ≤ 9223372036854775807) (fun e he => by obtain ⟨c, rfl, n, rfl, hn⟩ := h1 e he; exact ⟨n, rfl, wf64 hn⟩)
  obtain ⟨ps, rfl, hps⟩ := ex_map (f := ci) (p := fun n => -9223372036854775808 ≤ n ∧ n ≤ 9223372036854775807) (fun e he => by obtain ⟨c, rfl, n, rfl, hn⟩ := h2 e he; exact ⟨n, rfl, wf64 hn⟩)
  exact D_laws_FnExactChargingCost xs ds ps
theorem over : Rows.fnExactChargingCostRow.holds Try.pinned (OpenSpec.ofChange Rows.fnExactChargingCostSpec) :=
  OpenClaim.holds_of_wide 11 Try.f11 rfl rfl rfl rfl rfl rfl rfl ⟨rfl, rfl, rfl, rfl, rfl⟩ rfl rfl rfl rfl rfl (by kernel_rfl) Try.func11 (by kernel_rfl)
    (of_decide_eq_true (by kernel_rfl)) (by unfold Func.isWrapper; first | (rw [if_pos (by decide +kernel)]; kernel_rfl) | (rw [if_neg (by decide +kernel)]; exact ⟨rfl, rfl⟩))
    (fun os started H enc _ => lifted os started H enc)
theorem proved : Rows.FnExactChargingCostSaid := over
#print axioms proved
end Go.Proofs.Ytlmigknkcghpcaa.LFnExactChargingCost
