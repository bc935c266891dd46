/- The law FnExactHottestWater of the program g01011 holds: for every input it returns true, and its arguments read as before. No condition. -/
import Derived.Test.YtliocgdpefmpdaaEvN
import Derived.Test.YtliocgdpefmpdaaDFnExactHottestWater
import Derived.Test.YtliocgdpefmpdaaRows
import Derived.WalkKit
import Derived.ProofKit
import Derived.OpenShut
set_option linter.unusedVariables false
set_option linter.unusedSimpArgs false
namespace Go.Proofs.Ytliocgdpefmpdaa.LFnExactHottestWater
open Go Go.RowKit Go.Proofs Go.Proofs.Ytliocgdpefmpdaa Go.Proofs.Ytliocgdpefmpdaa.Ev Go.Proofs.Ytliocgdpefmpdaa.DFnExactHottestWater
theorem own : ownKnob Try.prog.godebug = none := by kernel_rfl
theorem laid : laidOutB Try.prog = true := by kernel_rfl
theorem lifted (os : Os) (started : os.Started) (H : Type) (enc : TypeId × Value → H) :
    ReturnsInHanded {} Try.checked os 4 .any (Rows.fnExactHottestWaterSpec.pre6 enc Try.prog Try.f4 Rows.fnExactHottestWaterRow.domain false) (Rows.fnExactHottestWaterSpec.post enc Try.prog Try.f4 false true false false) := by
  refine lifted_of (C := Try.checked) (tb := 4) [.int .i64, .int .i64] own started (by kernel_rfl) Try.func4
    (ChangeSpec.witness6 (enc := enc) (C := Try.checked) false ⟨#[], #[.int .i64 0, .int .i64 0], []⟩ 8 (by kernel_rfl) (by kernel_rfl) (by kernel_rfl) (by kernel_rfl))
    rfl (fun ds h => by match ds, h with | [_, _], _ => rfl) rfl Try.underlying4 laid (by kernel_rfl) (by kernel_rfl) ?_
  intro xs hx
  simp only [isAll, Sh.is, Sh.iss, Sh.wrap, Sh.size, Sh.sizes] at hx
  obtain ⟨_, _, rfl, ⟨a0, rfl, h0⟩, ⟨_, _, rfl, ⟨a1, rfl, h1⟩, rfl⟩⟩ := hx
  exact D_laws_FnExactHottestWater a0 a1
theorem over : Rows.fnExactHottestWaterRow.holds Try.pinned (OpenSpec.ofChange Rows.fnExactHottestWaterSpec) :=
  OpenClaim.holds_of_wide 4 Try.f4 rfl rfl rfl rfl rfl rfl rfl ⟨rfl, rfl, rfl, rfl, rfl⟩ rfl rfl rfl rfl rfl (by kernel_rfl) Try.func4 (by kernel_rfl)
    (of_decide_eq_true (by kernel_rfl)) (by unfold Func.isWrapper; first | (rw [if_pos (by decide +kernel)]; kernel_rfl) | (rw [if_neg (by decide +kernel)]; exact ⟨rfl, rfl⟩))
    (fun os started H enc _ => lifted os started H enc)
theorem proved : Rows.FnExactHottestWaterSaid := over
#print axioms proved
end Go.Proofs.Ytliocgdpefmpdaa.LFnExactHottestWater
