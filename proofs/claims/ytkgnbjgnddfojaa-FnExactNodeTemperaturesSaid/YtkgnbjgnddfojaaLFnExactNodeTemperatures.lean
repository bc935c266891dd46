/- The law FnExactNodeTemperatures of the program g01011 holds: for every input it returns true, and its arguments read as before. No condition. -/
import Derived.Test.YtkgnbjgnddfojaaEvN
import Derived.Test.YtkgnbjgnddfojaaDFnExactNodeTemperatures
import Derived.Test.YtkgnbjgnddfojaaRows
import Derived.WalkKit
import Derived.ProofKit
import Derived.OpenShut
set_option linter.unusedVariables false
set_option linter.unusedSimpArgs false
namespace Go.Proofs.Ytkgnbjgnddfojaa.LFnExactNodeTemperatures
open Go Go.RowKit Go.Proofs Go.Proofs.Ytkgnbjgnddfojaa Go.Proofs.Ytkgnbjgnddfojaa.Ev Go.Proofs.Ytkgnbjgnddfojaa.DFnExactNodeTemperatures
theorem own : ownKnob Try.prog.godebug = none := by kernel_rfl
theorem laid : laidOutB Try.prog = true := by kernel_rfl
theorem lifted (os : Os) (started : os.Started) (H : Type) (enc : TypeId × Value → H) :
    ReturnsInHanded {} Try.checked os 3 .any (Rows.fnExactNodeTemperaturesSpec.pre6 enc Try.prog Try.f3 Rows.fnExactNodeTemperaturesRow.domain false) (Rows.fnExactNodeTemperaturesSpec.post enc Try.prog Try.f3 false true false false) := by
  refine lifted_of (C := Try.checked) (tb := 4) [.agg [.slc 8 (.int .i64), .slc 56 (.agg [.str, .int .i64, .int .i64, .int .i64, .int .i64, .int .i64])], .int .i64, .slc 8 (.int .i64), .int .i64, .int .i64] own started (by kernel_rfl) Try.func3
    (ChangeSpec.witness6 (enc := enc) (C := Try.checked) false ⟨#[], #[.agg #[.slice none 0 0, .slice none 0 0], .int .i64 0, .slice none 0 0, .int .i64 0, .int .i64 0], []⟩ 8 (by kernel_rfl) (by kernel_rfl) (by kernel_rfl) (by kernel_rfl))
    rfl (fun ds h => by match ds, h with | [_, _, _, _, _], _ => rfl) rfl Try.underlying4 laid (by kernel_rfl) (by kernel_rfl) (by kernel_rfl) ?_
  intro xs hx
  simp only [isAll, Sh.is, Sh.iss, Sh.wrap, Sh.size, Sh.sizes] at hx
  obtain ⟨_, _, rfl, ⟨_, _, rfl, ⟨a0, rfl, h0, b0, l0⟩, ⟨_, _, rfl, ⟨a1, rfl, h1, b1, l1⟩, rfl⟩⟩, ⟨_, _, rfl, ⟨a2, rfl, h2⟩, ⟨_, _, rfl, ⟨a3, rfl, h3, b3, l3⟩, ⟨_, _, rfl, ⟨a4, rfl, h4⟩, ⟨_, _, rfl, ⟨a5, rfl, h5⟩, rfl⟩⟩⟩⟩⟩ := hx
  obtain ⟨ns, rfl, hnss⟩ := ex_map (f := ci) (p := fun _ => True) (fun e he => by obtain ⟨c, rfl, n, rfl, _⟩ := h0 e he; exact ⟨n, rfl, trivial⟩)
  obtain ⟨ps, rfl, hps⟩ := ex_map (f := piA) (p := fun x => x.id.size ≤ reachBytes) (fun e he => by obtain ⟨c, rfl, _, _, rfl, ⟨t, rfl, ht⟩, _, _, rfl, ⟨a, rfl, _⟩, _, _, rfl, ⟨b, rfl, _⟩, _, _, rfl, ⟨c, rfl, _⟩, _, _, rfl, ⟨d, rfl, _⟩, _, _, rfl, ⟨f, rfl, _⟩, rfl⟩ := h1 e he; exact ⟨⟨t, a, b, c, d, f⟩, rfl, ht⟩)
  obtain ⟨fl, rfl, hfls⟩ := ex_map (f := ci) (p := fun _ => True) (fun e he => by obtain ⟨c, rfl, n, rfl, _⟩ := h3 e he; exact ⟨n, rfl, trivial⟩)
  exact D_laws_FnExactNodeTemperatures ns ps _ fl _ _ (by simp only [reachBytes, List.length_map] at *; omega) (by simp only [reachBytes, List.length_map] at *; omega) (fun j x h => by have := hps x (List.mem_of_getElem? h); simp only [reachBytes] at this; omega) (by simp only [reachBytes, List.length_map] at *; omega)
theorem over : Rows.fnExactNodeTemperaturesRow.holds Try.pinned (OpenSpec.ofChange Rows.fnExactNodeTemperaturesSpec) :=
  OpenClaim.holds_of_wide 3 Try.f3 rfl rfl rfl rfl rfl rfl rfl ⟨rfl, rfl, rfl, rfl, rfl⟩ rfl rfl rfl rfl rfl (by kernel_rfl) Try.func3 (by kernel_rfl)
    (of_decide_eq_true (by kernel_rfl)) (by unfold Func.isWrapper; first | (rw [if_pos (by decide +kernel)]; kernel_rfl) | (rw [if_neg (by decide +kernel)]; exact ⟨rfl, rfl⟩))
    (fun os started H enc _ => lifted os started H enc)
theorem proved : Rows.FnExactNodeTemperaturesSaid := over
#print axioms proved
end Go.Proofs.Ytkgnbjgnddfojaa.LFnExactNodeTemperatures
