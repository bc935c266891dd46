/- The law FnExactWeakSubstations of the program g01011 holds: for every input it returns true, and its arguments read as before. No condition. -/
import Derived.Test.YthhajcpgbcpbmaaEvN
import Derived.Test.YthhajcpgbcpbmaaDFnExactWeakSubstations
import Derived.Test.YthhajcpgbcpbmaaRows
import Derived.WalkKit
import Derived.ProofKit
import Derived.OpenShut
set_option linter.unusedVariables false
set_option linter.unusedSimpArgs false
namespace Go.Proofs.Ythhajcpgbcpbmaa.LFnExactWeakSubstations
open Go Go.RowKit Go.Proofs Go.Proofs.Ythhajcpgbcpbmaa Go.Proofs.Ythhajcpgbcpbmaa.Ev Go.Proofs.Ythhajcpgbcpbmaa.DFnExactWeakSubstations
theorem own : ownKnob Try.prog.godebug = none := by kernel_rfl
theorem laid : laidOutB Try.prog = true := by kernel_rfl
theorem lifted (os : Os) (started : os.Started) (H : Type) (enc : TypeId × Value → H) :
    ReturnsInHanded {} Try.checked os 11 .any (Rows.fnExactWeakSubstationsSpec.pre6 enc Try.prog Try.f11 Rows.fnExactWeakSubstationsRow.domain false) (Rows.fnExactWeakSubstationsSpec.post enc Try.prog Try.f11 false true false false) := by
  refine lifted_of (C := Try.checked) (tb := 4) [.slc 48 (.agg [.str, .int .i64, .int .i64, .int .i64, .int .i64]), .int .i64, .slc 8 (.int .i64)] own started (by kernel_rfl) Try.func11
    (ChangeSpec.witness6 (enc := enc) (C := Try.checked) false ⟨#[], #[.slice none 0 0, .int .i64 0, .slice none 0 0], []⟩ 8 (by kernel_rfl) (by kernel_rfl) (by kernel_rfl) (by kernel_rfl))
    rfl (fun ds h => by match ds, h with | [_, _, _], _ => rfl) rfl Try.underlying4 laid (by kernel_rfl) (by kernel_rfl) ?_
  intro xs hx
  simp only [isAll, Sh.is, Sh.iss, Sh.wrap, Sh.size, Sh.sizes] at hx
  obtain ⟨_, _, rfl, ⟨a0, rfl, h0, b0, l0⟩, ⟨_, _, rfl, ⟨a1, rfl, h1⟩, ⟨_, _, rfl, ⟨a2, rfl, h2, b2, l2⟩, rfl⟩⟩⟩ := hx
  obtain ⟨xs, rfl, hxs⟩ := ex_map (f := sbA) (p := fun x => x.id.size ≤ reachBytes) (fun e he => by obtain ⟨c, rfl, _, _, rfl, ⟨t, rfl, ht⟩, _, _, rfl, ⟨a, rfl, _⟩, _, _, rfl, ⟨b, rfl, _⟩, _, _, rfl, ⟨c, rfl, _⟩, _, _, rfl, ⟨d, rfl, _⟩, rfl⟩ := h0 e he; exact ⟨⟨t, a, b, c, d⟩, rfl, ht⟩)
  obtain ⟨ds, rfl, hdss⟩ := ex_map (f := ci) (p := fun _ => True) (fun e he => by obtain ⟨c, rfl, n, rfl, _⟩ := h2 e he; exact ⟨n, rfl, trivial⟩)
  exact D_laws_FnExactWeakSubstations xs ds _ (by simp only [reachBytes, List.length_map] at *; omega) (fun j x h => by have := hxs x (List.mem_of_getElem? h); simp only [reachBytes] at this; omega) (by simp only [reachBytes, List.length_map] at *; omega)
theorem over : Rows.fnExactWeakSubstationsRow.holds Try.pinned (OpenSpec.ofChange Rows.fnExactWeakSubstationsSpec) :=
  OpenClaim.holds_of_wide 11 Try.f11 rfl rfl rfl rfl rfl rfl rfl ⟨rfl, rfl, rfl, rfl, rfl⟩ rfl rfl rfl rfl rfl (by kernel_rfl) Try.func11 (by kernel_rfl)
    (of_decide_eq_true (by kernel_rfl)) (by unfold Func.isWrapper; first | (rw [if_pos (by decide +kernel)]; kernel_rfl) | (rw [if_neg (by decide +kernel)]; exact ⟨rfl, rfl⟩))
    (fun os started H enc _ => lifted os started H enc)
theorem proved : Rows.FnExactWeakSubstationsSaid := over
#print axioms proved
end Go.Proofs.Ythhajcpgbcpbmaa.LFnExactWeakSubstations
