/- The law FnExactSourcePressure of the program g01011 holds: for every input it returns true, and its arguments read as before. No condition. -/
import Derived.Test.YtkgnbjgnddfojaaGreatEvN
import Derived.Test.YtkgnbjgnddfojaaGreatDFnExactSourcePressure
import Derived.Test.YtkgnbjgnddfojaaGreatRows
import Derived.WalkKit
import Derived.ProofKit
import Derived.OpenShut
set_option linter.unusedVariables false
set_option linter.unusedSimpArgs false
namespace Go.Proofs.YtkgnbjgnddfojaaGreat.LFnExactSourcePressure
open Go Go.RowKit Go.Proofs Go.Proofs.YtkgnbjgnddfojaaGreat Go.Proofs.YtkgnbjgnddfojaaGreat.Ev Go.Proofs.YtkgnbjgnddfojaaGreat.DFnExactSourcePressure
theorem own : ownKnob Tryz.prog.godebug = none := by kernel_rfl
theorem laid : laidOutB Tryz.prog = true := by kernel_rfl
theorem lifted (os : Os) (started : os.Started) (H : Type) (enc : TypeId × Value → H) :
    ReturnsInHanded {} Tryz.checked os 3 .any (Rows.fnExactSourcePressureSpec.pre6 enc Tryz.prog Tryz.f3 Rows.fnExactSourcePressureRow.domain false) (Rows.fnExactSourcePressureSpec.post enc Tryz.prog Tryz.f3 false true false false) := by
  refine lifted_of (C := Tryz.checked) (tb := 4) [.agg [.slc 8 (.int .i64), .slc 56 (.agg [.str, .int .i64, .int .i64, .int .i64, .int .i64, .int .i64])], .int .i64, .slc 8 (.int .i64), .slc 8 (.int .i64), .int .i64] own started (by kernel_rfl) Tryz.func3
    (ChangeSpec.witness6 (enc := enc) (C := Tryz.checked) false ⟨#[], #[.agg #[.slice none 0 0, .slice none 0 0], .int .i64 0, .slice none 0 0, .slice none 0 0, .int .i64 0], []⟩ 8 (by kernel_rfl) (by kernel_rfl) (by kernel_rfl) (by kernel_rfl))
    rfl (fun ds h => by match ds, h with | [_, _, _, _, _], _ => rfl) rfl Tryz.underlying4 laid (by kernel_rfl) (by kernel_rfl) (by kernel_rfl) ?_
  intro xs hx
  simp only [isAll, Sh.is, Sh.iss, Sh.wrap, Sh.size, Sh.sizes] at hx
  obtain ⟨_, _, rfl, ⟨_, _, rfl, ⟨a0, rfl, h0, b0, l0⟩, ⟨_, _, rfl, ⟨a1, rfl, h1, b1, l1⟩, rfl⟩⟩, ⟨_, _, rfl, ⟨a2, rfl, h2⟩, ⟨_, _, rfl, ⟨a3, rfl, h3, b3, l3⟩, ⟨_, _, rfl, ⟨a4, rfl, h4, b4, l4⟩, ⟨_, _, rfl, ⟨a5, rfl, h5⟩, rfl⟩⟩⟩⟩⟩ := hx
  obtain ⟨ns, rfl, hnss⟩ := ex_map (f := ci) (p := fun _ => True) (fun e he => by obtain ⟨c, rfl, n, rfl, _⟩ := h0 e he; exact ⟨n, rfl, trivial⟩)
  obtain ⟨ps, rfl, hps⟩ := ex_map (f := piA) (p := fun x => x.id.size ≤ reachBytes) (fun e he => by obtain ⟨c, rfl, _, _, rfl, ⟨t, rfl, ht⟩, _, _, rfl, ⟨a, rfl, _⟩, _, _, rfl, ⟨b, rfl, _⟩, _, _, rfl, ⟨c, rfl, _⟩, _, _, rfl, ⟨d, rfl, _⟩, _, _, rfl, ⟨f, rfl, _⟩, rfl⟩ := h1 e he; exact ⟨⟨t, a, b, c, d, f⟩, rfl, ht⟩)
  obtain ⟨fl, rfl, hfls⟩ := ex_map (f := ci) (p := fun _ => True) (fun e he => by obtain ⟨c, rfl, n, rfl, _⟩ := h3 e he; exact ⟨n, rfl, trivial⟩)
  obtain ⟨ds, rfl, hdss⟩ := ex_map (f := ci) (p := fun _ => True) (fun e he => by obtain ⟨c, rfl, n, rfl, _⟩ := h4 e he; exact ⟨n, rfl, trivial⟩)
  exact D_laws_FnExactSourcePressure ns ps _ fl ds _ (by simp only [reachBytes, List.length_map] at *; omega) (by simp only [reachBytes, List.length_map] at *; omega) (fun j x h => by have := hps x (List.mem_of_getElem? h); simp only [reachBytes] at this; omega) (by simp only [reachBytes, List.length_map] at *; omega) (by simp only [reachBytes, List.length_map] at *; omega)
theorem over : Rows.fnExactSourcePressureRow.holds Tryz.pinned (OpenSpec.ofChange Rows.fnExactSourcePressureSpec) :=
  OpenClaim.holds_of_wide 3 Tryz.f3 rfl rfl rfl rfl rfl rfl rfl ⟨rfl, rfl, rfl, rfl, rfl⟩ rfl rfl rfl rfl rfl (by kernel_rfl) Tryz.func3 (by kernel_rfl)
    (of_decide_eq_true (by kernel_rfl)) (by unfold Func.isWrapper; first | (rw [if_pos (by decide +kernel)]; kernel_rfl) | (rw [if_neg (by decide +kernel)]; exact ⟨rfl, rfl⟩))
    (fun os started H enc _ => lifted os started H enc)
theorem proved : Rows.FnExactSourcePressureSaid := over
#print axioms proved
end Go.Proofs.YtkgnbjgnddfojaaGreat.LFnExactSourcePressure
