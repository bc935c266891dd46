/- The law FnExactPressureRoom of the program g01011 holds: for every input it returns true, and its arguments read as before. No condition. -/
import Derived.Test.YtliocgdpefmpdaaEvN
import Derived.Test.YtliocgdpefmpdaaDFnExactPressureRoom
import Derived.Test.YtliocgdpefmpdaaRows
import Derived.WalkKit
import Derived.ProofKit
import Derived.OpenShut
set_option linter.unusedVariables false
set_option linter.unusedSimpArgs false
namespace Go.Proofs.Ytliocgdpefmpdaa.LFnExactPressureRoom
open Go Go.RowKit Go.Proofs Go.Proofs.Ytliocgdpefmpdaa Go.Proofs.Ytliocgdpefmpdaa.Ev Go.Proofs.Ytliocgdpefmpdaa.DFnExactPressureRoom
theorem own : ownKnob Try.prog.godebug = none := by kernel_rfl
theorem laid : laidOutB Try.prog = true := by kernel_rfl
theorem lifted (os : Os) (started : os.Started) (H : Type) (enc : TypeId × Value → H) :
    ReturnsInHanded {} Try.checked os 7 .any (Rows.fnExactPressureRoomSpec.pre6 enc Try.prog Try.f7 Rows.fnExactPressureRoomRow.domain false) (Rows.fnExactPressureRoomSpec.post enc Try.prog Try.f7 false true false false) := by
  refine lifted_of (C := Try.checked) (tb := 4) [.slc 8 (.int .i64), .slc 8 (.int .i64), .int .i64, .int .i64] own started (by kernel_rfl) Try.func7
    (ChangeSpec.witness6 (enc := enc) (C := Try.checked) false ⟨#[], #[.slice none 0 0, .slice none 0 0, .int .i64 0, .int .i64 0], []⟩ 8 (by kernel_rfl) (by kernel_rfl) (by kernel_rfl) (by kernel_rfl))
    rfl (fun ds h => by match ds, h with | [_, _, _, _], _ => rfl) rfl Try.underlying4 laid (by kernel_rfl) (by kernel_rfl) ?_
  intro xs hx
  simp only [isAll, Sh.is, Sh.iss, Sh.wrap, Sh.size, Sh.sizes] at hx
  obtain ⟨_, _, rfl, ⟨a0, rfl, h0, b0, l0⟩, ⟨_, _, rfl, ⟨a1, rfl, h1, b1, l1⟩, ⟨_, _, rfl, ⟨a2, rfl, h2⟩, ⟨_, _, rfl, ⟨a3, rfl, h3⟩, rfl⟩⟩⟩⟩ := hx
  obtain ⟨xs, rfl, hxss⟩ := ex_map (f := ci) (p := fun _ => True) (fun e he => by obtain ⟨c, rfl, n, rfl, _⟩ := h0 e he; exact ⟨n, rfl, trivial⟩)
  obtain ⟨ds, rfl, hdss⟩ := ex_map (f := ci) (p := fun _ => True) (fun e he => by obtain ⟨c, rfl, n, rfl, _⟩ := h1 e he; exact ⟨n, rfl, trivial⟩)
  exact D_laws_FnExactPressureRoom xs ds _ _ (by simp only [reachBytes, List.length_map] at *; omega) (by simp only [reachBytes, List.length_map] at *; omega)
theorem over : Rows.fnExactPressureRoomRow.holds Try.pinned (OpenSpec.ofChange Rows.fnExactPressureRoomSpec) :=
  OpenClaim.holds_of_wide 7 Try.f7 rfl rfl rfl rfl rfl rfl rfl ⟨rfl, rfl, rfl, rfl, rfl⟩ rfl rfl rfl rfl rfl (by kernel_rfl) Try.func7 (by kernel_rfl)
    (of_decide_eq_true (by kernel_rfl)) (by unfold Func.isWrapper; first | (rw [if_pos (by decide +kernel)]; kernel_rfl) | (rw [if_neg (by decide +kernel)]; exact ⟨rfl, rfl⟩))
    (fun os started H enc _ => lifted os started H enc)
theorem proved : Rows.FnExactPressureRoomSaid := over
#print axioms proved
end Go.Proofs.Ytliocgdpefmpdaa.LFnExactPressureRoom
