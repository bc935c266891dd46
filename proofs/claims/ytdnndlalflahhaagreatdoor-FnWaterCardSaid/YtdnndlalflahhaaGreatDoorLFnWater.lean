/- The law FnWater of the program g01011 holds: for every input it returns true, and its arguments read as before. Condition: the listed tables of the library read as its own text lays them, which the card ties. -/
import Derived.Test.YtdnndlalflahhaaGreatDoorEvX
import Derived.Test.YtdnndlalflahhaaGreatDoorDFnWater
import Derived.Test.YtdnndlalflahhaaGreatDoorCards
import Derived.Test.YtdnndlalflahhaaGreatDoorTie
import Derived.WalkKit
import Derived.ProofKit
import Derived.OpenShut
import Derived.LaidMore
import Derived.Lay
import Derived.Stop.Joined
import Derived.SevenTiedAt
set_option linter.unusedVariables false
set_option linter.unusedSimpArgs false
namespace Go.Proofs.YtdnndlalflahhaaGreatDoor.LFnWater
open Go Go.RowKit Go.Proofs Go.Proofs.YtdnndlalflahhaaGreatDoor Go.Proofs.YtdnndlalflahhaaGreatDoor.Ev Go.Proofs.YtdnndlalflahhaaGreatDoor.DFnWater
theorem wf8 {n : Int} (h : (Lit.int .u8 n).wf = true) : 0 ≤ n ∧ n ≤ 255 := by
  simp [Lit.wf, IntKind.min, IntKind.max, IntKind.signed, IntKind.bits] at h
  omega
theorem own : ownKnob Tryz.prog.godebug = none := by kernel_rfl
theorem laid : laidOutB Tryz.prog = true := by kernel_rfl
theorem door_met (os : Os) (args : Array Value) : laidMetH Tryz.prog Rows.fnWaterRow.laid ((World.laidAll Tryz.prog os Rows.fnWaterRow.laid).forCall (fun _ _ => 0) ⟨#[], args, []⟩).memory :=
  by rw [MakeChecks.laidMetH_plain _ _ _ (by kernel_rfl)]; exact laidMet_laidAll _ (by kernel_rfl) (by kernel_rfl)
theorem tab_of {W : World} (h : laidMetH Tryz.prog Rows.fnWaterRow.laid W) : Lib.TabIs Tryz.prog W "internal/strconv.uint64pow10" .u64 ((List.range 20).map fun i => ((10 ^ i : Nat) : Int)) := by
  rw [MakeChecks.laidMetH_plain _ _ _ (by kernel_rfl)] at h
  have h2 := laidMet.tail (laidMet.tail (h))
  have e : (Rows.laid_internal_strconv_uint64pow10 : DataW Unit) = Lib.tabData .u64 ((List.range 20).map fun i => ((10 ^ i : Nat) : Int)) := by rfl
  rw [e] at h2
  exact Lib.tabIs_of_head (P := Tryz.prog) (g := 3) (t := 220) (e := 123) (n := 20) (by kernel_rfl) (by kernel_rfl) Tryz.underlying220 Tryz.underlying123 (by kernel_rfl) (by kernel_rfl) h2
theorem glbs (W : World) (h : laidMetH Tryz.prog Rows.fnWaterRow.laid W) (hs : W.ShapedOpen Tryz.prog) : Glb Tryz.prog W (fun _ => True) :=
  glb_of (gp := 3) (by kernel_rfl) (tab_of h) (fun g hg => by
    obtain ⟨m, hm⟩ := Tryz.laysM145.s1_3 W hs
    have e := Tryz.laysM145.m1
    rw [hg] at e
    rw [Option.some.inj e]; exact ⟨m, hm⟩) (fun g hg => by
    have hp := h
    rw [MakeChecks.laidMetH_plain _ _ _ (by kernel_rfl)] at hp
    exact ifc_of_laid (laidMet.tail (laidMet.tail (laidMet.tail (laidMet.tail (laidMet.tail (hp)))))) hg (by obtain rfl := Option.some.inj (hg.symm.trans (show Tryz.prog.globalNamed "strconv.ErrSyntax" = some 4 by kernel_rfl)); kernel_rfl) Tryz.underlying147) (fun g hg => by
    have hp := h
    rw [MakeChecks.laidMetH_plain _ _ _ (by kernel_rfl)] at hp
    exact ifc_of_laid (laidMet.tail (laidMet.tail (laidMet.tail (laidMet.tail (hp))))) hg (by obtain rfl := Option.some.inj (hg.symm.trans (show Tryz.prog.globalNamed "strconv.ErrRange" = some 5 by kernel_rfl)); kernel_rfl) Tryz.underlying147)
set_option maxRecDepth 100000 in
theorem lifted (os : Os) (started : os.Started) (H : Type) (enc : TypeId × Value → H) :
    ReturnsInHanded {} Tryz.checked os 3 .any (fun w args => (Rows.fnWaterSpec.pre enc Tryz.prog Tryz.f3 [] false w args ∧ laidMetH Tryz.prog Rows.fnWaterRow.laid w) ∧ sizedMet enc Tryz.prog Tryz.f3 (OpenSpec.ofChange Rows.fnWaterSpec) false w args) (Rows.fnWaterSpec.post enc Tryz.prog Tryz.f3 false true false false) := by
  refine lifted_ofL (C := Tryz.checked) (tb := 4) Rows.fnWaterRow.laid [.slc 1 (.int .u8), .slc 1 (.int .u8)] own started (by kernel_rfl) Tryz.func3
    (ChangeSpec.witness_shaped (enc := enc) (C := Tryz.checked) (os := os) (X := fun w _ => laidMetH Tryz.prog Rows.fnWaterRow.laid w) false (World.laidAll Tryz.prog os Rows.fnWaterRow.laid) #[.slice none 0 0, .slice none 0 0] 8 (World.laidAll_os _ _ _) (World.shaped_of_ZipB (by kernel_rfl) (by kernel_rfl)) (by kernel_rfl) (by kernel_rfl) (by kernel_rfl) (door_met os _))
    rfl (fun ds h => by match ds, h with | [_, _], _ => rfl) rfl Tryz.underlying4 laid (by kernel_rfl) (by kernel_rfl) glbs ?_
  intro xs hx
  simp only [isAll, Sh.is, Sh.iss, Sh.wrap, Sh.size, Sh.sizes] at hx
  obtain ⟨_, _, rfl, ⟨a0, rfl, h0, b0, l0⟩, ⟨_, _, rfl, ⟨a1, rfl, h1, b1, l1⟩, rfl⟩⟩ := hx
  obtain ⟨cs, rfl, hcss⟩ := ex_map (f := cb) (p := fun n => 0 ≤ n ∧ n ≤ 255) (fun e he => by obtain ⟨c, rfl, n, rfl, hn⟩ := h0 e he; exact ⟨n, rfl, wf8 hn⟩)
  obtain ⟨ds, rfl, hdss⟩ := ex_map (f := cb) (p := fun n => 0 ≤ n ∧ n ≤ 255) (fun e he => by obtain ⟨c, rfl, n, rfl, hn⟩ := h1 e he; exact ⟨n, rfl, wf8 hn⟩)
  exact D_laws_FnWater cs ds hcss hdss
theorem said : Rows.FnWaterSaid :=
  OpenClaim.holds_of_wide 3 Tryz.f3 rfl rfl rfl rfl rfl rfl rfl ⟨rfl, rfl, rfl, rfl, rfl⟩ rfl rfl rfl rfl rfl (by kernel_rfl) Tryz.func3 (by kernel_rfl)
    (of_decide_eq_true (by kernel_rfl)) (by unfold Func.isWrapper; first | (rw [if_pos (by decide +kernel)]; kernel_rfl) | (rw [if_neg (by decide +kernel)]; exact ⟨rfl, rfl⟩))
    (fun os started H enc _ => lifted os started H enc)
theorem proved : Rows.FnWaterCardSaid :=
  Claim7.holds_tied_plain_at .later [] [.data, .data, .data, .data, .sentinel, .sentinel, .pinned] true (true, "1bd2fc8e15a051bf761c43fac85c58bb13fa5d66524614916435297c7bcd0410") true
    said (fun _ h => by cases h) (by kernel_rfl) (fun _ h => by cases h) fnWater_row_tie rfl ⟨rfl, rfl⟩ (by kernel_rfl) rfl
    (fun f fn hf hfn => by
      obtain rfl : f = 3 := Option.some.inj ((show Tryz.prog.funcNamed "loop.example/g01011/laws.FnWater" = some 3 by kernel_rfl).symm.trans hf) |>.symm
      obtain rfl : fn = Tryz.f3 := (Option.some.inj (Tryz.func3.symm.trans hfn)).symm
      exact ⟨by kernel_rfl, fun j t ht => by
        have hm : t ∈ [22, 22] := by simpa using Array.mem_of_getElem? (show (#[22, 22] : Array TypeId)[j]? = some t from ht)
        have hall : ([22, 22].all fun u => !Tryz.prog.wantsStandIn u) = true := by kernel_rfl
        exact (show Tryz.prog.wantsStandIn t = false by simpa using List.all_eq_true.1 hall t hm)⟩)
    (by kernel_rfl)
#print axioms proved
end Go.Proofs.YtdnndlalflahhaaGreatDoor.LFnWater
