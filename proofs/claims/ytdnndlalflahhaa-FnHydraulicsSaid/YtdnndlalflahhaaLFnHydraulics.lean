/- The law FnHydraulics of the program g01011 holds: for every input it returns true, and its arguments read as before. No condition. -/
import Derived.Test.YtdnndlalflahhaaEvN
import Derived.Test.YtdnndlalflahhaaDFnHydraulics
import Derived.Test.YtdnndlalflahhaaRows
import Derived.WalkKit
import Derived.ProofKit
import Derived.OpenShut
set_option linter.unusedVariables false
set_option linter.unusedSimpArgs false
namespace Go.Proofs.Ytdnndlalflahhaa.LFnHydraulics
open Go Go.RowKit Go.Proofs Go.Proofs.Ytdnndlalflahhaa Go.Proofs.Ytdnndlalflahhaa.Ev Go.Proofs.Ytdnndlalflahhaa.DFnHydraulics
theorem own : ownKnob Try.prog.godebug = none := by kernel_rfl
theorem laid : laidOutB Try.prog = true := by kernel_rfl
theorem wf8 {n : Int} (h : (Lit.int .u8 n).wf = true) : 0 ≤ n ∧ n ≤ 255 := by
  simp [Lit.wf, IntKind.min, IntKind.max, IntKind.signed, IntKind.bits] at h
  omega
theorem lifted (os : Os) (started : os.Started) (H : Type) (enc : TypeId × Value → H) :
    ReturnsInHanded {} Try.checked os 3 .any (Rows.fnHydraulicsSpec.pre6 enc Try.prog Try.f3 Rows.fnHydraulicsRow.domain false) (Rows.fnHydraulicsSpec.post enc Try.prog Try.f3 false true false false) := by
  refine lifted_of (C := Try.checked) (tb := 4) [.slc 1 (.int .u8), .slc 1 (.int .u8)] own started (by kernel_rfl) Try.func3
    (ChangeSpec.witness6 (enc := enc) (C := Try.checked) false ⟨#[], #[.slice none 0 0, .slice none 0 0], []⟩ 8 (by kernel_rfl) (by kernel_rfl) (by kernel_rfl) (by kernel_rfl))
    rfl (fun ds h => by match ds, h with | [_, _], _ => rfl) rfl Try.underlying4 laid (by kernel_rfl) (by kernel_rfl) (by kernel_rfl) ?_
  intro xs hx
  simp only [isAll, Sh.is, Sh.iss, Sh.wrap, Sh.size, Sh.sizes] at hx
  obtain ⟨_, _, rfl, ⟨a0, rfl, h0, b0, l0⟩, ⟨_, _, rfl, ⟨a1, rfl, h1, b1, l1⟩, rfl⟩⟩ := hx
  obtain ⟨cs, rfl, hcss⟩ := ex_map (f := cb) (p := fun n => 0 ≤ n ∧ n ≤ 255) (fun e he => by obtain ⟨c, rfl, n, rfl, hn⟩ := h0 e he; exact ⟨n, rfl, wf8 hn⟩)
  obtain ⟨ds, rfl, hdss⟩ := ex_map (f := cb) (p := fun n => 0 ≤ n ∧ n ≤ 255) (fun e he => by obtain ⟨c, rfl, n, rfl, hn⟩ := h1 e he; exact ⟨n, rfl, wf8 hn⟩)
  exact D_laws_FnHydraulics cs ds hcss hdss
theorem over : Rows.fnHydraulicsRow.holds Try.pinned (OpenSpec.ofChange Rows.fnHydraulicsSpec) :=
  OpenClaim.holds_of_wide 3 Try.f3 rfl rfl rfl rfl rfl rfl rfl ⟨rfl, rfl, rfl, rfl, rfl⟩ rfl rfl rfl rfl rfl (by kernel_rfl) Try.func3 (by kernel_rfl)
    (of_decide_eq_true (by kernel_rfl)) (by unfold Func.isWrapper; first | (rw [if_pos (by decide +kernel)]; kernel_rfl) | (rw [if_neg (by decide +kernel)]; exact ⟨rfl, rfl⟩))
    (fun os started H enc _ => lifted os started H enc)
theorem proved : Rows.FnHydraulicsSaid := over
#print axioms proved
end Go.Proofs.Ytdnndlalflahhaa.LFnHydraulics
