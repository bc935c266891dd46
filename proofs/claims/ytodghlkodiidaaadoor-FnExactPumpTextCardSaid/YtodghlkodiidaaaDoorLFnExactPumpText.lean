/- The law FnExactPumpText of the program g01011 holds: for every input it returns true, and its arguments read as before. Condition: the listed tables of the library read as its own text lays them, which the card ties. -/
import Derived.Test.YtodghlkodiidaaaDoorEvY
import Derived.Test.YtodghlkodiidaaaDoorDFnExactPumpText
import Derived.Test.YtodghlkodiidaaaDoorCards
import Derived.Test.YtodghlkodiidaaaDoorTie
import Derived.WalkKit
import Derived.ProofKit
import Derived.OpenShut
import Derived.LaidMore
import Derived.Stop.Joined
import Derived.SevenTiedAt
set_option linter.unusedVariables false
set_option linter.unusedSimpArgs false
namespace Go.Proofs.YtodghlkodiidaaaDoor.LFnExactPumpText
open Go Go.RowKit Go.Proofs Go.Proofs.YtodghlkodiidaaaDoor Go.Proofs.YtodghlkodiidaaaDoor.Ev Go.Proofs.YtodghlkodiidaaaDoor.DFnExactPumpText
theorem own : ownKnob Tryd.prog.godebug = none := by kernel_rfl
theorem laid : laidOutB Tryd.prog = true := by kernel_rfl
theorem door_met (os : Os) (args : Array Value) : laidMetH Tryd.prog Rows.fnExactPumpTextRow.laid ((World.doorLaid Tryd.prog 400 os).forCall (fun _ _ => 0) ⟨#[], args, []⟩).memory :=
  laidMetH_of_parts3 (fuel := 8) (laidMet_of_run' 8 (by kernel_rfl) (by kernel_rfl)) (by kernel_rfl) (by kernel_rfl)
theorem tab_of {W : World} (h : laidMetH Tryd.prog Rows.fnExactPumpTextRow.laid W) : Lib.TabIs Tryd.prog W "internal/strconv.uint64pow10" .u64 ((List.range 20).map fun i => ((10 ^ i : Nat) : Int)) := by
  rw [MakeChecks.laidMetH_plain _ _ _ (by kernel_rfl)] at h
  have h2 := laidMet.tail (laidMet.tail (h))
  have e : (Rows.laid_internal_strconv_uint64pow10 : DataW Unit) = Lib.tabData .u64 ((List.range 20).map fun i => ((10 ^ i : Nat) : Int)) := by rfl
  rw [e] at h2
  exact Lib.tabIs_of_head (P := Tryd.prog) (g := 3) (t := 168) (e := 131) (n := 20) (by kernel_rfl) (by kernel_rfl) Tryd.underlying168 Tryd.underlying131 (by kernel_rfl) (by kernel_rfl) h2
theorem glbs (W : World) (h : laidMetH Tryd.prog Rows.fnExactPumpTextRow.laid W) (hs : W.ShapedOpen Tryd.prog) : Glb Tryd.prog W (fun _ => True) :=
  glb_of (gp := 3) (by kernel_rfl) (tab_of h) (fun g hg => by
    obtain ⟨m, hm⟩ := Tryd.laysM145.s1_3 W hs
    have e := Tryd.laysM145.m1
    rw [hg] at e
    rw [Option.some.inj e]; exact ⟨m, hm⟩)
set_option maxRecDepth 100000 in
theorem lifted (os : Os) (started : os.Started) (H : Type) (enc : TypeId × Value → H) :
    ReturnsInHanded {} Tryd.checked os 6 .any (fun w args => (Rows.fnExactPumpTextSpec.pre enc Tryd.prog Tryd.f6 [] false w args ∧ laidMetH Tryd.prog Rows.fnExactPumpTextRow.laid w) ∧ sizedMet enc Tryd.prog Tryd.f6 (OpenSpec.ofChange Rows.fnExactPumpTextSpec) false w args) (Rows.fnExactPumpTextSpec.post enc Tryd.prog Tryd.f6 false true false false) := by
  refine lifted_ofL (C := Tryd.checked) (tb := 4) Rows.fnExactPumpTextRow.laid [.agg [.str, .slc 24 (.slc 8 (.int .i64))]] own started (by kernel_rfl) Tryd.func6
    (ChangeSpec.witness_shaped (enc := enc) (C := Tryd.checked) (os := os) (X := fun w _ => laidMetH Tryd.prog Rows.fnExactPumpTextRow.laid w) false (World.doorLaid Tryd.prog 400 os) #[.agg #[.string ⟨#[]⟩, .slice none 0 0]] 8 rfl (World.shaped_of_RefB (by kernel_rfl) (by kernel_rfl)) (by kernel_rfl) (by kernel_rfl) (by kernel_rfl) (door_met os _))
    rfl (fun ds h => by match ds, h with | [_], _ => rfl) rfl Tryd.underlying4 laid (by kernel_rfl) (by kernel_rfl) glbs ?_
  intro xs hx
  simp only [isAll, Sh.is, Sh.iss, Sh.wrap, Sh.size, Sh.sizes] at hx
  obtain ⟨_, _, rfl, ⟨_, _, rfl, ⟨a0, rfl, h0⟩, ⟨_, _, rfl, ⟨a1, rfl, h1, b1, l1⟩, rfl⟩⟩, rfl⟩ := hx
  obtain ⟨cs, rfl, hcs⟩ := ex_map (f := lsI) (p := fun c => c.length ≤ 17592186044416) (fun e he => by
    obtain ⟨c, rfl, es, rfl, g1, g2, g3⟩ := h1 e he
    obtain ⟨xs, rfl, _⟩ := ex_map (f := ci) (p := fun _ => True) (fun e he => by obtain ⟨c, rfl, m, rfl, _⟩ := g1 e he; exact ⟨m, rfl, trivial⟩)
    exact ⟨xs, rfl, by simp only [reachBytes, List.length_map] at *; omega⟩)
  exact D_laws_FnExactPumpText _ cs (by simp only [reachBytes] at *; omega) (by simp only [reachBytes, List.length_map] at *; omega) (fun j c h => hcs c (List.mem_of_getElem? h))
theorem said : Rows.FnExactPumpTextSaid :=
  OpenClaim.holds_of_wide 6 Tryd.f6 rfl rfl rfl rfl rfl rfl rfl ⟨rfl, rfl, rfl, rfl, rfl⟩ rfl rfl rfl rfl rfl (by kernel_rfl) Tryd.func6 (by kernel_rfl)
    (of_decide_eq_true (by kernel_rfl)) (by unfold Func.isWrapper; first | (rw [if_pos (by decide +kernel)]; kernel_rfl) | (rw [if_neg (by decide +kernel)]; exact ⟨rfl, rfl⟩))
    (fun os started H enc _ => lifted os started H enc)
theorem proved : Rows.FnExactPumpTextCardSaid :=
  Claim7.holds_tied_plain_at .later [] [.data, .data, .data] true (true, "9f286dbaafee48551dee1c5e264ada1008981274726f7c580ed0038c0896a0ed") true
    said (fun _ h => by cases h) (by kernel_rfl) (fun _ h => by cases h) fnExactPumpText_row_tie rfl ⟨rfl, rfl⟩ (by kernel_rfl) rfl
    (fun f fn hf hfn => by
      obtain rfl : f = 6 := Option.some.inj ((show Tryd.prog.funcNamed "loop.example/g01011/laws.FnExactPumpText" = some 6 by kernel_rfl).symm.trans hf) |>.symm
      obtain rfl : fn = Tryd.f6 := (Option.some.inj (Tryd.func6.symm.trans hfn)).symm
      exact ⟨by kernel_rfl, fun j t ht => by
        have hm : t ∈ [44] := by simpa using Array.mem_of_getElem? (show (#[44] : Array TypeId)[j]? = some t from ht)
        have hall : ([44].all fun u => !Tryd.prog.wantsStandIn u) = true := by kernel_rfl
        exact (show Tryd.prog.wantsStandIn t = false by simpa using List.all_eq_true.1 hall t hm)⟩)
    (by kernel_rfl)
#print axioms proved
end Go.Proofs.YtodghlkodiidaaaDoor.LFnExactPumpText
