/- What a listed table gives of the watched variables. -/
import Derived.Test.YtodghlkodiidaaaDoorEvU
import Derived.Test.YtodghlkodiidaaaDoorEvW
set_option linter.unusedVariables false
set_option linter.unusedSimpArgs false
namespace Go.Proofs.YtodghlkodiidaaaDoor.Ev
open Go Go.RowKit
/-- What a listed table and the world's shape give of the watched variables. -/
theorem glb_of {P : Program} {W : World} {gp : Nat} (hgp : P.globalNamed "internal/strconv.uint64pow10" = some gp)
    (htab : Lib.TabIs P W "internal/strconv.uint64pow10" .u64 ((List.range 20).map fun i => ((10 ^ i : Nat) : Int)))
    (hlen : ∀ g, P.globalNamed "internal/bytealg.MaxLen" = some g → ∃ m, W.cell? ⟨g, 0, none⟩ = some (.int .i64 m)) : Glb P W (fun _ => True) := by
  intro n g hn hg
  refine ⟨trivial, ?_⟩
  have cellE : ∀ {v : Value}, W.cell? ⟨g, 0, none⟩ = some v → ∃ cs ty fr, W.heap[g]? = some (.cells cs ty fr) ∧ cs[0]? = some v := fun {v} h => by
    obtain ⟨_, arr, ty, fr, h1, h2⟩ := cell_obj h
    exact ⟨arr, ty, fr, h1, h2⟩
  simp only [watched, List.mem_cons, List.not_mem_nil, or_false] at hn
  rcases hn with rfl | rfl
  · unfold Lib.TabIs World.var? at htab
    rw [hg] at htab
    simp only [Option.bind_some] at htab
    split at htab
    · rename_i cs ty fr hb
      refine ⟨cs, ty, fr, hb, ?_⟩
      unfold goodVar
      rw [if_pos rfl]
      rw [Option.some.inj htab, List.map_map]; rfl
    · cases htab
  · obtain ⟨m, h⟩ := hlen g hg
    obtain ⟨cs, ty, fr, h1, h2⟩ := cellE h
    refine ⟨cs, ty, fr, h1, ?_⟩
    unfold goodVar
    rw [if_neg (by decide), if_pos rfl]
    exact ⟨m, h2⟩
end Go.Proofs.YtodghlkodiidaaaDoor.Ev
