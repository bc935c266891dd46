/- The law FnBasics of the program g01011 holds: for every input it returns true, and its arguments read as before. Condition: the listed tables of the library read as its own text lays them, which the card ties. -/
import Derived.Test.YtodghlkodiidaaaDoorEvX
import Derived.Test.YtodghlkodiidaaaDoorDFnBasics
import Derived.Test.YtodghlkodiidaaaDoorCards
import Derived.Test.YtodghlkodiidaaaDoorTie
import Derived.WalkKit
import Derived.ProofKit
import Derived.OpenShut
import Derived.LaidMore
import Derived.Lay
import Derived.Stop.Joined
import Derived.SevenTiedAt
set_option linter.unusedVariables false
set_option linter.unusedSimpArgs false
namespace Go.Proofs.YtodghlkodiidaaaDoor.LFnBasics
open Go Go.RowKit Go.Proofs Go.Proofs.YtodghlkodiidaaaDoor Go.Proofs.YtodghlkodiidaaaDoor.Ev Go.Proofs.YtodghlkodiidaaaDoor.DFnBasics
theorem wf8 {n : Int} (h : (Lit.int .u8 n).wf = true) : 0 ≤ n ∧ n ≤ 255 := by
  simp [Lit.wf, IntKind.min, IntKind.max, IntKind.signed, IntKind.bits] at h
  omega
theorem own : ownKnob Tryd.prog.godebug = none := by kernel_rfl
theorem laid : laidOutB Tryd.prog = true := by kernel_rfl
theorem door_met (os : Os) (args : Array Value) : laidMetH Tryd.prog Rows.fnBasicsRow.laid ((World.laidAll Tryd.prog os Rows.fnBasicsRow.laid).forCall (fun _ _ => 0) ⟨#[], args, []⟩).memory :=
  by rw [MakeChecks.laidMetH_plain _ _ _ (by kernel_rfl)]; exact laidMet_laidAll _ (by kernel_rfl) (by kernel_rfl)
theorem tab_of {W : World} (h : laidMetH Tryd.prog Rows.fnBasicsRow.laid W) : Lib.TabIs Tryd.prog W "internal/strconv.uint64pow10" .u64 ((List.range 20).map fun i => ((10 ^ i : Nat) : Int)) := by
  rw [MakeChecks.laidMetH_plain _ _ _ (by kernel_rfl)] at h
  have h2 := laidMet.tail (laidMet.tail (h))
  have e : (Rows.laid_internal_strconv_uint64pow10 : DataW Unit) = Lib.tabData .u64 ((List.range 20).map fun i => ((10 ^ i : Nat) : Int)) := by rfl
  rw [e] at h2
  exact Lib.tabIs_of_head (P := Tryd.prog) (g := 3) (t := 168) (e := 131) (n := 20) (by kernel_rfl) (by kernel_rfl) Tryd.underlying168 Tryd.underlying131 (by kernel_rfl) (by kernel_rfl) h2
theorem glbs (W : World) (h : laidMetH Tryd.prog Rows.fnBasicsRow.laid W) (hs : W.ShapedOpen Tryd.prog) : Glb Tryd.prog W (fun _ => True) :=
  glb_of (gp := 3) (by kernel_rfl) (tab_of h) (fun g hg => by
    obtain ⟨m, hm⟩ := Tryd.laysM145.s1_3 W hs
    have e := Tryd.laysM145.m1
    rw [hg] at e
    rw [Option.some.inj e]; exact ⟨m, hm⟩) (fun g hg => by
    have hp := h
    rw [MakeChecks.laidMetH_plain _ _ _ (by kernel_rfl)] at hp
    exact ifc_of_laid (laidMet.tail (laidMet.tail (laidMet.tail (laidMet.tail (laidMet.tail (hp)))))) hg (by obtain rfl := Option.some.inj (hg.symm.trans (show Tryd.prog.globalNamed "strconv.ErrSyntax" = some 1 by kernel_rfl)); kernel_rfl) Tryd.underlying115) (fun g hg => by
    have hp := h
    rw [MakeChecks.laidMetH_plain _ _ _ (by kernel_rfl)] at hp
    exact ifc_of_laid (laidMet.tail (laidMet.tail (laidMet.tail (laidMet.tail (hp))))) hg (by obtain rfl := Option.some.inj (hg.symm.trans (show Tryd.prog.globalNamed "strconv.ErrRange" = some 2 by kernel_rfl)); kernel_rfl) Tryd.underlying115)
set_option maxRecDepth 100000 in
theorem lifted (os : Os) (started : os.Started) (H : Type) (enc : TypeId × Value → H) :
    ReturnsInHanded {} Tryd.checked os 10 .any (fun w args => (Rows.fnBasicsSpec.pre enc Tryd.prog Tryd.f10 [] false w args ∧ laidMetH Tryd.prog Rows.fnBasicsRow.laid w) ∧ sizedMet enc Tryd.prog Tryd.f10 (OpenSpec.ofChange Rows.fnBasicsSpec) false w args) (Rows.fnBasicsSpec.post enc Tryd.prog Tryd.f10 false true false false) := by
  refine lifted_ofL (C := Tryd.checked) (tb := 4) Rows.fnBasicsRow.laid [.slc 1 (.int .u8), .slc 1 (.int .u8)] own started (by kernel_rfl) Tryd.func10
    (ChangeSpec.witness_shaped (enc := enc) (C := Tryd.checked) (os := os) (X := fun w _ => laidMetH Tryd.prog Rows.fnBasicsRow.laid w) false (World.laidAll Tryd.prog os Rows.fnBasicsRow.laid) #[.slice none 0 0, .slice none 0 0] 8 (World.laidAll_os _ _ _) (World.shaped_of_ZipB (by kernel_rfl) (by kernel_rfl)) (by kernel_rfl) (by kernel_rfl) (by kernel_rfl) (door_met os _))
    rfl (fun ds h => by match ds, h with | [_, _], _ => rfl) rfl Tryd.underlying4 laid (by kernel_rfl) (by kernel_rfl) glbs ?_
  intro xs hx
  simp only [isAll, Sh.is, Sh.iss, Sh.wrap, Sh.size, Sh.sizes] at hx
  obtain ⟨_, _, rfl, ⟨a0, rfl, h0, b0, l0⟩, ⟨_, _, rfl, ⟨a1, rfl, h1, b1, l1⟩, rfl⟩⟩ := hx
  obtain ⟨cs, rfl, hcss⟩ := ex_map (f := cb) (p := fun n => 0 ≤ n ∧ n ≤ 255) (fun e he => by obtain ⟨c, rfl, n, rfl, hn⟩ := h0 e he; exact ⟨n, rfl, wf8 hn⟩)
  obtain ⟨ds, rfl, hdss⟩ := ex_map (f := cb) (p := fun n => 0 ≤ n ∧ n ≤ 255) (fun e he => by obtain ⟨c, rfl, n, rfl, hn⟩ := h1 e he; exact ⟨n, rfl, wf8 hn⟩)
  exact D_laws_FnBasics cs ds hcss hdss
theorem said : Rows.FnBasicsSaid :=
  OpenClaim.holds_of_wide 10 Tryd.f10 rfl rfl rfl rfl rfl rfl rfl ⟨rfl, rfl, rfl, rfl, rfl⟩ rfl rfl rfl rfl rfl (by kernel_rfl) Tryd.func10 (by kernel_rfl)
    (of_decide_eq_true (by kernel_rfl)) (by unfold Func.isWrapper; first | (rw [if_pos (by decide +kernel)]; kernel_rfl) | (rw [if_neg (by decide +kernel)]; exact ⟨rfl, rfl⟩))
    (fun os started H enc _ => lifted os started H enc)
theorem proved : Rows.FnBasicsCardSaid :=
  Claim7.holds_tied_plain_at .later [] [.data, .data, .data, .data, .sentinel, .sentinel, .pinned] true (true, "9f286dbaafee48551dee1c5e264ada1008981274726f7c580ed0038c0896a0ed") true
    said (fun _ h => by cases h) (by kernel_rfl) (fun _ h => by cases h) fnBasics_row_tie rfl ⟨rfl, rfl⟩ (by kernel_rfl) rfl
    (fun f fn hf hfn => by
      obtain rfl : f = 10 := Option.some.inj ((show Tryd.prog.funcNamed "loop.example/g01011/laws.FnBasics" = some 10 by kernel_rfl).symm.trans hf) |>.symm
      obtain rfl : fn = Tryd.f10 := (Option.some.inj (Tryd.func10.symm.trans hfn)).symm
      exact ⟨by kernel_rfl, fun j t ht => by
        have hm : t ∈ [61, 61] := by simpa using Array.mem_of_getElem? (show (#[61, 61] : Array TypeId)[j]? = some t from ht)
        have hall : ([61, 61].all fun u => !Tryd.prog.wantsStandIn u) = true := by kernel_rfl
        exact (show Tryd.prog.wantsStandIn t = false by simpa using List.all_eq_true.1 hall t hm)⟩)
    (by kernel_rfl)
#print axioms proved
end Go.Proofs.YtodghlkodiidaaaDoor.LFnBasics
